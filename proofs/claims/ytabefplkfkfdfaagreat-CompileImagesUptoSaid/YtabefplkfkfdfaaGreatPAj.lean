/- The statement CompileImagesUptoSaid is proved; no conditions. -/
import Derived.Test.YtabefplkfkfdfaaGreatPAi
import Derived.ProofKit
import Derived.OpenShut
import Derived.Test.YtabefplkfkfdfaaGreatRows
import Derived.LaidMore
import Derived.Stop.Joined
import Derived.SevenTiedAt
import Derived.Lib.SmallJoins
import Derived.WideKeyArgs
import Derived.JoinedCond
import Derived.Test.YtabefplkfkfdfaaGreatPAk
import Derived.Test.YtabefplkfkfdfaaGreatPAl
open Go.Ev.SE renaming den->UU
open Go renaming TypeId->VK,Value->ZQ
open List renaming map_id->aK9,ofFn->S3
open Go.Proofs.Tryz renaming prog->Z2,checked->aJL,f6->Pm,func6->aLd
open Go.IntKind renaming i64->QY
open Option renaming bind_some->Z8
open Go.Op renaming bytesLess->TH
open Go.Addr renaming add->aLg
open Go.DataW renaming trod->YW,trod_struct->aKa,TrodAll->aJA
open List.cons renaming inj->QH
open Go.Proofs.YtabefplkfkfdfaaGreat.Rows renaming uptoBulkAll->Yg,compileImagesSpec->ZE,uptoSmall->aKP,compileImagesUptoRow->UE
open Classical renaming axiomOfChoice->aLr
open Go.Proofs.YtabefplkfkfdfaaGreat.Rows.OpenSpec renaming upto->E3
open Go.WideElems renaming Trod_stays->aIJ
open Go.Proofs.YtabefplkfkfdfaaGreat.Tryz renaming pinned->Ns
open Go.OpenClaim renaming holds_of_cond->aLs
open Option renaming some->aa,none->ah
open Bool renaming true->ab,false->af
set_option linter.all false
namespace Go.Proofs.YtabefplkfkfdfaaGreat
open Go Go.Ev
def UJ(p:Pg)(x:Pn):aj At:=match p.aX[x.o.r.toNat]? with
 |some r=>r.aA++r.aC
 |none=>[]
def L0(ax:aj Ac)(a:Ac):aj Ac:=if nR ax a<0 then ax++[a]else ax
def Gp(p:Pg)(x:Pn)(ax:aj Ac):Nat->aj Ac
 |0=>ax
 |k+1=>L0 (Gp p x ax k) (NF (UJ p x) x k)
def L4(p:Pg)(ax:aj Ac)(x:Pn):aj Ac:=Gp p x ax x.bj.length
def gn(p:Pg)(l:aj Pn):aj Ac:=l.foldl (L4 p) []
variable{a b:Ac}{ax:aj Ac}
def acd(h:b∈ax\/b=a):b∈L0 ax a:=by
 unfold L0;split
 .grind
 .next e=>exact h.elim id λh=>h▸apP e
variable{p:Pg}{x:Pn}
def aIg(h:b∈ax):∀k,b∈Gp p x ax k
 |0=>h
 |k+1=>acd (.inl (aIg h k))
def ace:∀{n k:Nat},k<n->NF (UJ p x) x k∈Gp p x ax n
 |0,_,h=>bH h ak
 |n+1,k,h=>acd (by
  by_cases e:k=n
  .grind
  .exact .inl (ace ak))
def acN:∀{l:aj Pn} {ax:aj Ac} {b:Ac},(b∈ax\/∃x∈l,∃k<x.bj.length,b=NF (UJ p x) x k)->b∈l.foldl (L4 p) ax
 |[],ax,b,h=>by grind
 |x::l,ax,b,h=>acN (l:=l) (by
  rcases h with h|⟨y,hy,k,hk,rfl⟩
  .exact .inl (aIg h _)
  .rcases ZP.1 hy with rfl|hy
   .exact .inl (ace hk)
   grind)
def OW(p:Pg)(l:aj Pn):∀x∈l,LV p x x.bj.length (gn p l):=λx hx i r h1 h2 k hk=>by
 have:UJ p x=r.aA++r.aC:=by simp only[UJ,h2,Int.toNat_natCast,h1]
 rw[<-this];exact acN (.inr ⟨x,hx,k,hk,rfl⟩)
variable{P:Ac->Prop}{n:Nat}
theorem pK.add(h:pK P n ax)(h1:a.ps.length<=8)(h2:P a):pK P (n+1) (L0 ax a):=by
 unfold L0;have:=h.l;split
 .refine⟨aI,λb hb=>?_⟩;rcases ZV.1 hb with hb|hb
  .exact h.p b hb
  grind
 .exact⟨ak,h.p⟩
variable{a:At}{i k:Nat}{ps:aj Int}{r:Rl}
def OX(h:Part p x k i n r a ps):NF (UJ p x) x k=⟨a.s,a.ts.length,ps⟩:=by
 have h0:UJ p x=r.aA++r.aC:=by grind [UJ,h.oc,h.ru]
 have h1:=h.od;have h2:=h.hd;have h3:=h.kn
 have e1:QN (r.aA++r.aC) x k=a:=by
  simp_all[QN]
 have e2:x.jJ.getD k []=ps:=aI
 simp_all[NF]
def ah6(hx:NG p P x)(ha:pK P n ax):∀k,k<=x.bj.length->pK P (n+k) (Gp p x ax k)
 |0,_=>ha
 |k+1,hk=>by
  have⟨ri,m,r,a,ps,h,nf,YS⟩:=hx.2 k ak;rw[Gp,OX h];exact(ah6 hx ha k ak).add nf YS
def aHA:∀{l:aj Pn} {ax:aj Ac} {n:Nat},(∀x∈l,NG p P x)->pK P n ax->pK P (n+3*l.length) (l.foldl (L4 p) ax)
 |[],_,_,_,h=>h
 |x::l,ax,n,hx,h=>by
  have h1:=ah6 (hx x az) h x.bj.length (XS _);have h2:=(hx x az).1;have h3:=aHA (l:=l) (λy hy=>hx y (List.mem_cons_of_mem _ hy)) h1;have h4:=h3.l;exact⟨by grind [L4],h3.p⟩
def apT(P:Ac->Prop)(l:aj Pn)(hx:∀x∈l,NG p P x):pK P (3*l.length) (gn p l):=by
 have:=aHA (ax:=[]) (n:=0) hx ⟨az,az⟩;rwa[Nat.zero_add]at this
variable{Q:IV->Prop}{k0:aj IV->Prop}{x1:IV}
def avm(p:Pg)(hp:f_ p)(P:Ac->Prop)(x:Pn)(hx:NG p P x)(i:Nat)(hi:i<300)(ax:aj Ac)(hn:pK P (3*i) ax)
 (hk:pK P (3*(i+1)) (L4 p ax x)->k0 [iI (i+1:Nat),dC (L4 p ax x)]):
 StQ ahA Q [k0] [bc p,x1,iI i,dC ax,bT x]:=by
 have⟨ho,K9⟩:=hx;have mU:=aS hi ak;have hP:=bc.eq_1 p;have hN:=bT.eq_1 x;rw[hP,hN];refine aJ x.bj.length (λk (b:aj Ac)=>[iI k,dC b,iI x.o.r,iI x.o.h,iL x.bj]) (λk b=>pK P (3*i+k) b/\b=Gp p x ax k) ax ?_ ⟨hn,rfl⟩ λk b gR hI=>?_
 .rfl
 have⟨iE,gx⟩:=hI;by_cases aq:k<x.bj.length
 rotate_left
 .have Co:k=x.bj.length:=ak;rw[Co]at gx iE;subst gx;simp[UU,aq,mU];exact hk ⟨by have:=iE.l;grind [L4],iE.p⟩
 have hw:=aS aq ak;have⟨ri,n,r,a,ps,h,nf,YS⟩:=K9 k aq;have LD:=aj_ hp h;have DV:=iE.l;have PS:=(as5 b a ps ⟨ak,λa ha=>(iE.p a ha).1⟩).zm (tQ rfl);have bI:L0 b ⟨a.s,a.ts.length,ps⟩=Gp p x ax (k+1):=by rw[Gp,<-gx,OX h]
 have hAc:=iE.add (a:=⟨a.s,a.ts.length,ps⟩) nf YS;have hA:=c_.eq_1 a;have jm:=VC (a:=b) (k:=⟨a.s,a.ts.length,ps⟩) ak;rw[hP,hN,hA]at LD;rw[hA]at PS;have j_:qJ x.bj.length (λk (b:aj Ac)=>[iI k,dC b,iI x.o.r,iI x.o.h,iL x.bj]) (λk b=>pK P (3*i+k) b/\b=Gp p x ax k) k [iI (k+1:Nat),dC (L0 b ⟨a.s,a.ts.length,ps⟩),iI x.o.r,iI x.o.h,iL x.bj]:=.mk _ rfl ak ⟨hAc,bI⟩;unfold L0 at j_;generalize Hp:dC (b++_)=z2 at*
 generalize hz:dC b=z at*
 simp[UU,aq,aw];exists _,LD;simp;exists _,PS;simp;by_cases e:nR b ⟨a.s,a.ts.length,ps⟩<0
 .rw[aW e]at j_;left;exists e,_,jm
  grind
 grind
def avn(p:Pg)(hp:f_ p)(P:Ac->Prop)(l:aj Pn)(i:Nat)(Fc:i<l.length)(hx:NG p P l[i])(hi:i<300)(ax:aj Ac)(hn:pK P (3*i) ax)
 (hk:pK P (3*(i+1)) (L4 p ax l[i])->k0 [iI (i+1:Nat),dC (L4 p ax l[i])]):
 StQ ahP Q [k0] [bc p,uU l,iI i,dC ax]:=by
 have eW:=HQ Fc;generalize l[i]=x at*
 have⟨ho,K9⟩:=hx;have mU:=aS hi ak;have hP:=bc.eq_1 p;have hN:=bT.eq_1 x;rw[hP];refine aJ x.bj.length (λk (b:aj Ac)=>[iI k,dC b]) (λk b=>pK P (3*i+k) b/\b=Gp p x ax k) ax ?_ ⟨hn,rfl⟩ λk b gR hI=>?_
 .rfl
 have⟨iE,gx⟩:=hI;rw[hN]at eW;by_cases aq:k<x.bj.length
 rotate_left
 .have Co:k=x.bj.length:=ak;rw[Co]at gx iE;subst gx;simp[UU,aq,mU,eW,aw];exact hk ⟨by have:=iE.l;grind [L4],iE.p⟩
 have hw:=aS aq ak;have⟨ri,n,r,a,ps,h,nf,YS⟩:=K9 k aq;have Km:=aj9 hp h;have DV:=iE.l;have Kn:=(as4 b ⟨a.s,a.ts.length,ps⟩ ⟨ak,λa ha=>(iE.p a ha).1⟩).zm (tQ rfl);have bI:L0 b ⟨a.s,a.ts.length,ps⟩=Gp p x ax (k+1):=by rw[Gp,<-gx,OX h]
 have hAc:=iE.add (a:=⟨a.s,a.ts.length,ps⟩) nf YS;have hA:=c_.eq_1 a;have hC:lK ⟨a.s,a.ts.length,ps⟩=.agg [iS a.s,iI a.ts.length,iL ps]:=rfl;have jm:=VC (a:=b) (k:=⟨a.s,a.ts.length,ps⟩) ak;rw[hP,hN,hA]at Km;rw[hC]at Kn;have j_:qJ x.bj.length (λk (b:aj Ac)=>[iI k,dC b]) (λk b=>pK P (3*i+k) b/\b=Gp p x ax k) k [iI (k+1:Nat),dC (L0 b ⟨a.s,a.ts.length,ps⟩)]:=.mk _ rfl ak ⟨hAc,bI⟩;unfold L0 at j_;generalize Hp:dC (b++_)=z2 at*
 generalize hz:dC b=z at*
 simp[UU,aq,eW,aw];exists _,Km;simp;exists _,Kn;simp;by_cases e:nR b ⟨a.s,a.ts.length,ps⟩<0
 .rw[aW e]at j_;left;exists e,_,jm
  grind
 grind
variable{l:aj Pn}
def aej(h:i<l.length):L4 p (gn p (l.take i)) l[i]=gn p (l.take (i+1)):=by
 unfold gn;rw[ZN h,List.foldl_append];rfl
def aEa(p:Pg)(hp:f_ p)(P:Ac->Prop)(l:aj Pn)(hl:l.length<=100)(hx:∀x∈l,NG p P x):CC 48 af [bc p,uU l] (dC (gn p l)):=by
 refine CC.of azd kr kr (qC (cz p) az) az ?_;have hy:=λQ k0 x hx i hi ax hn hk=>avm (Q:=Q) (k0:=k0) (x1:=uU l) p hp P x hx i hi ax hn hk;have hP:=bc.eq_1 p;rw[hP]at*
 simp[atA,UU,aw];refine aJ l.length (λi (ax:aj Ac)=>[iI i,dC ax]) (λi ax=>pK P (3*i) ax/\ax=gn p (l.take i)) [] ?_ ⟨⟨az,by intro a ha;cases ha⟩,by simp[gn]⟩ λi ax hi hI=>?_
 .simp[UU]
 have⟨iE,gx⟩:=hI;by_cases aq:i<l.length
 .have oF:=hx _ (Z4 aq);have hy:=hy (·=dC (gn p l)) (qJ l.length (λi (ax:aj Ac)=>[iI i,dC ax]) (λi ax=>pK P (3*i) ax/\ax=gn p (l.take i)) i) l[i] oF i ak ax iE λhb=>.mk _ rfl ak ⟨hb,by rw[gx,aej aq]⟩;have hN:=bT.eq_1;rw[hN]at hy;simp[UU,aq,HQ aq,hN,aw];exact hy
 .rw[Wg ak]at gx;simp[UU,aq,gx]
def aEb(p:Pg)(hp:f_ p)(P:Ac->Prop)(l:aj Pn)(hl:l.length<=100)(hx:∀x∈l,NG p P x):CC 62 af [bc p,uU l] (dC (gn p l)):=by
 refine CC.of azL kr kr (qC (cz p) az) az ?_;have hy:=λQ k0 i Fc hx hi ax hn hk=>avn (Q:=Q) (k0:=k0) p hp P l i Fc hx hi ax hn hk;have hP:=bc.eq_1 p;rw[hP]at*
 simp[auV,UU,aw];refine aJ l.length (λi (ax:aj Ac)=>[iI i,dC ax]) (λi ax=>pK P (3*i) ax/\ax=gn p (l.take i)) [] ?_ ⟨⟨az,by intro a ha;cases ha⟩,by simp[gn]⟩ λi ax hi hI=>?_
 .simp[UU]
 have⟨iE,gx⟩:=hI;by_cases aq:i<l.length
 .have oF:=hx _ (Z4 aq);have hy:=hy (·=dC (gn p l)) (qJ l.length (λi (ax:aj Ac)=>[iI i,dC ax]) (λi ax=>pK P (3*i) ax/\ax=gn p (l.take i)) i) i aq oF ak ax iE λhb=>.mk _ rfl ak ⟨hb,by rw[gx,aej aq]⟩;simp[UU,aq];exact hy
 .rw[Wg ak]at gx;simp[UU,aq,gx]
def lU(p:Pg)(o:Oc):Bk:=⟨o,l9 (zJ p o) (gn p (cn p)) (w9 p (mQ p.aX) o)⟩
def ER(p:Pg)(d:De):Un:=⟨d.s,d.n,(fB d.s d.n p.aX).map (lU p),gG p (fB d.s d.n p.aX),(gb p (fB d.s d.n p.aX):Nat)⟩
def J9(p:Pg):IV:=lM (p.bU.map (ER p)) (gn p (cn p)) p.aX.length
def ae_(p:Pg):(cn p).length=(occs p.aX).length:=by unfold cn;rw[List.length_map]
def Gq(h:x∈cn p):x=w9 p (mQ p.aX) x.o/\x.o∈occs p.aX:=by
 obtain⟨o,ho,rfl⟩:=Z6.1 h;rw[SN];exact⟨rfl,ho⟩
structure qK(p:Pg):Prop where
 hp:f_ p
 ok:vK p
 sz:∀r∈p.aX,zH r
def qK.fo(h:qK p):∀r∈p.aX,gy r:=λr hr=>(h.ok.r r hr).form (h.hp.rn r hr)
def qK.pl(h:qK p)(hx:x∈cn p):∃i m r,Pl p x i m r/\r=zJ p x.o:=by
 obtain⟨_,hm⟩:=Gq hx;obtain⟨i,m,r,K_⟩:=nS.1 hm;exact⟨i,m,r,⟨h.hp,h.ok,K_,(LS h.hp x hx).2.1⟩,(HO K_).symm⟩
def qK.acc(h:qK p):(cn p).length<=24/\pK EK 100 (gn p (cn p))/\(∀x∈cn p,NG p EK x):=by
 have h1:=qz p.aX h.hp.rs;have h2:=h.hp.r;have h3:=ae_ p
 have nq:∀x∈cn p,NG p EK x:=λx hx=>by
  obtain⟨i,m,r,hl,_⟩:=h.pl hx;exact hl.plA
 refine⟨ak,?_,nq⟩;have ha:=apT EK (cn p) nq;exact⟨by have:=ha.l;omega,ha.p⟩
def qK.bk(h:qK p)(hx:x∈cn p):BkP p (gn p (cn p)) (lU p x.o):=by
 obtain⟨i,m,r,hl,hr⟩:=h.pl hx;exists x,i,m,r,hl,OW p _ x hx;unfold lU;rw[<-(Gq hx).1,hr]
def qK.un(h:qK p)(d:De):UnP p (gn p (cn p)) (ER p d):=by
 refine⟨?_,λb hb=>?_,?_⟩
 .show((fB d.s d.n p.aX).map (lU p)).map Bk.o=_;rw[Ya];exact aK9 _
 .obtain⟨o,ho,rfl⟩:=Z6.1 hb;have:o∈(cn p).map Pn.o:=by rw[OQ];exact OS ho
  obtain⟨x,hx,rfl⟩:=Z6.1 this;exact h.bk hx
 .have:=aIk p (fB d.s d.n p.aX);show(0:Int)<=(gb p _:Nat)/\_;exact⟨ak,by show((gb p (fB d.s d.n p.aX):Nat):Int)<=((fB d.s d.n p.aX).length:Nat);omega⟩
def qK.im(h:qK p):SQ (p.bU.map (ER p)) (gn p (cn p)) p.aX.length:=
 az0 h.hp h.ok h.acc.2.1 (by rw[Ya];exact aK9 _) λu hu=>by
  obtain⟨d,_,rfl⟩:=Z6.1 hu;exact h.un d
def qK.Lo(h:qK p)(hx:x∈cn p):CC 11 af [bc p,dC (gn p (cn p)),bT x] (.aU [.agg [iI x.o.r,iI x.o.h,iB x.o.k,cP (lU p x.o).c],iI 0]):=by
 obtain⟨i,m,r,hl,hr⟩:=h.pl hx;obtain⟨_,_,h3,h4⟩:=LS h.hp x hx;have hac:=h.acc.2.1;have hb:=Go.Proofs.YtabefplkfkfdfaaGreat.Lo p h.hp h.sz h.ok (gn p (cn p)) ⟨by have:=hac.l;omega,λa ha=>(hac.p a ha).1⟩ x h3 ak hl.oc hl.rt (hl.avd (OW p _ x hx)) hl.Yh;unfold lU;rw[<-(Gq hx).1,<-hr];exact hb
def MpN(p:Pg)(l:aj Pn)(cs:aj (Oc×IV)):Prop:=∃F,jv cs F/\∀x∈l,F x.o=aa (Dr (lU p x.o))
variable{o:Oc}{k1:aj IV->Prop}{x0 x2 x3 x4 x9:IV}{te:aj Int}
theorem MpN.get{cs:aj (Oc×IV)}(h:MpN p l cs)(ho:o∈l.map Pn.o):o_ Z2 28 (iV eS cs) (.agg [iI o.r,iI o.h,iB o.k]) (.agg [iI 0,iI 0,iB af,.tree 7 []])=aa (.agg [iI o.r,iI o.h,iB o.k,cP (lU p o).c]):=by
 obtain⟨F,hm,hx⟩:=h;obtain⟨x,EX,rfl⟩:=Z6.1 ho;have:=hm.get am1 x.o (.agg [iI 0,iI 0,iB af,.tree 7 []]);rw[hx x EX]at this;exact this
def avo(p:Pg)(l:aj Pn)(cs:aj (Oc×IV))(cD:MpN p l cs)(i:Nat)(hi:i<1000)(us:aj Un)(vC:us.length<=1000)(d:De)(nv:Bool)(la:Int)(os:aj Oc)(qE:os.length<=100)(t_:∀o∈os,o∈l.map Pn.o)
 (hk:k1 [iI (i+1:Nat),zI (us++[⟨d.s,d.n,os.map (lU p),nv,la⟩])]):
 StQ Zb Q [k0,k1] [x0,x1,x2,x3,x4,iV eS cs,iI i,zI us,uM d,iB nv,iI la,kY os]:=by
 have mU:=aS hi ak;have hD:=uM.eq_1 d;rw[hD];unfold Zb;refine aJ os.length (λj (bs:aj Bk)=>[iI j,zx bs]) (λj bs=>bs=(os.map (lU p)).take j) [] ?_ az λj bs hj hI=>?_
 .simp[cq]
 have EG:bs.length=j:=by rw[hI];simp;omega
 by_cases aq:j<os.length
 .have hw:=aS aq ak;have hg:=cD.get (t_ _ (Z4 aq));have jm:=anf (a:=bs) (b:=lU p os[j]) ak;have j_:qJ os.length (λj (bs:aj Bk)=>[iI j,zx bs]) (λj bs=>bs=(os.map (lU p)).take j) j [iI (j+1:Nat),zx (bs++[lU p os[j]])]:=.mk _ rfl ak (by rw[hI,ZN (by simpa using aq)];simp);have hb:(lU p os[j]).o=os[j]:=rfl;rw[hb]at jm;generalize zx (bs++[lU p os[j]])=z at*
  simp[cq,aq,hw,GR aq,aw,hg,aD];exact⟨_,jm,j_⟩
 .rw[Wg eE]at hI;have jm:=ang (a:=us) (u:=⟨d.s,d.n,bs,nv,la⟩) ak;rw[<-hI]at hk;simp only at jm;generalize zI (us++[⟨d.s,d.n,bs,nv,la⟩])=z at*
  simp[cq,aq,mU,aw,aD];exact⟨_,jm,hk⟩
def avp(p:Pg)(h:qK p)(cs:aj (Oc×IV))(cD:MpN p (cn p) cs)(hQ:Q (.aU [J9 p,iI 0])):
 StQ Zc Q [k0] [bc p,x1,x2,dC (gn p (cn p)),x4,iV eS cs]:=by
 have hp:=h.hp;have Yy:=hp.d;have py:=hp.r;have h49:=λs n=>aDY p hp h.fo s n;have h50:=λs n=>aDZ p hp h.fo s n;have h51:=λs n=>k51 p hp s n;have SX:=λs n=>vz s n p.aX hp.rs;have OY:∀s n,∀o∈fB s n p.aX,o∈(cn p).map Pn.o:=λs n o ho=>by rw[OQ];exact OS ho
 have hy:=λk1 i hi us vC d nv la os qE t_ hk=>avo (Q:=Q) (k0:=k0) (k1:=k1) (x0:=bc p) (x1:=x1) (x2:=x2) (x3:=dC (gn p (cn p))) (x4:=x4) p (cn p) cs cD i hi us vC d nv la os qE t_ hk;have h52:=k52 (p.bU.map (ER p)) (gn p (cn p)) p.aX.length h.im;have hU:=λd=>(rfl:ER p d=⟨d.s,d.n,(fB d.s d.n p.aX).map (lU p),gG p (fB d.s d.n p.aX),(gb p (fB d.s d.n p.aX):Nat)⟩);unfold J9 at hQ;generalize gn p (cn p)=ax at*
 simp only[bc.eq_1 p]at h49 h50 h51 hy⊢;unfold Zc;refine aJ p.bU.length (λi (us:aj Un)=>[iI i,zI us]) (λi us=>us=(p.bU.map (ER p)).take i) [] ?_ az λi us hi hI=>?_
 .simp[cq]
 have EG:us.length=i:=by rw[hI];simp;omega
 by_cases aq:i<p.bU.length
 .have h49:=h49 p.bU[i].s p.bU[i].n;have h50:=h50 p.bU[i].s p.bU[i].n;have h51:=h51 p.bU[i].s p.bU[i].n;have SX:=SX p.bU[i].s p.bU[i].n;have OY:=OY p.bU[i].s p.bU[i].n;have bI:us++[ER p p.bU[i]]=(p.bU.map (ER p)).take (i+1):=by rw[hI,ZN (by simpa using aq)];simp
  rw[hU]at bI;have hy:=hy (qJ p.bU.length (λi (us:aj Un)=>[iI i,zI us]) (λi us=>us=(p.bU.map (ER p)).take i) i) i ak us ak p.bU[i] (gG p (fB p.bU[i].s p.bU[i].n p.aX)) (gb p (fB p.bU[i].s p.bU[i].n p.aX):Nat) (fB p.bU[i].s p.bU[i].n p.aX) ak OY (.mk _ rfl ak bI);have eW:cu 2 (rC p.bU) (iI i)=aa (.agg [iS p.bU[i].s,iI p.bU[i].n]):=cM (by simp[aq,uM]) rfl;have hD:=uM.eq_1 p.bU[i];rw[hD]at hy;generalize gG p (fB p.bU[i].s p.bU[i].n p.aX)=nv at*
  generalize gb p (fB p.bU[i].s p.bU[i].n p.aX)=la at*
  generalize fB p.bU[i].s p.bU[i].n p.aX=os at*
  simp[cq,aq,eW,aw];exists _,h49;simp[cq];exists _,h50;simp[cq];exists _,h51;simp[cq];exact hy
 .rw[Wg eE]at hI;rw[<-hI]at h52 hQ;have hM:=lM.eq_1 us ax p.aX.length;rw[hM]at h52 hQ;simp[cq,aq,aw];exists _,h52;simp[cq];exact hQ
def avq(p:Pg)(h:qK p)(hQ:Q (.aU [J9 p,iI 0])):Zd.sat Z2 CC Q [] [bc p,x1,uU (cn p),dC (gn p (cn p))]:=by
 have QC:=h.acc.1;have Ww:∀x∈cn p,_:=λx hx=>h.Lo hx;have hy:=λk0 x4 cs cD=>avp (Q:=Q) (k0:=k0) (x1:=x1) (x2:=uU (cn p)) (x4:=x4) p h cs cD hQ;generalize gn p (cn p)=ax at*
 generalize cn p=l at*
 have hP:=bc.eq_1 p;rw[hP]at*
 unfold Zd;refine aJ l.length (λi (cs:aj (Oc×IV))=>[iI i,iV eS cs]) (λi cs=>MpN p (l.take i) cs) [] ?_ ⟨_,jv.nil,az⟩ λi cs hi hI=>?_
 .simp[cq,iV]
 by_cases aq:i<l.length
 .have hw:=aS aq ak;have Ww:=Ww _ (Z4 aq);obtain⟨F,hF1,Nu⟩:=hI;obtain⟨cL,cD,ku⟩:=hF1.ins am1 l[i].o (Dr (lU p l[i].o));have ku:rE Z2 28 (iV eS cs) (.agg [iI l[i].o.r,iI l[i].o.h,iB l[i].o.k]) (.agg [iI l[i].o.r,iI l[i].o.h,iB l[i].o.k,cP (lU p l[i].o).c])=aa (iV eS cL):=ku;have hN:=bT.eq_1 l[i];have eW:=HQ aq;rw[hN]at Ww eW;simp[cq,aq,hw,eW,aw];refine⟨_,Ww,?_⟩;simp[cq,aw,ku];refine .mk cL rfl ak ⟨_,cD,λx hx=>?_⟩;rw[ZN aq]at hx;by_cases e:x.o=l[i].o
  .rw[aW e,e]
  .rw[aY e];rcases ZV.1 hx with hx|hx
   .exact Nu x hx
   .obtain rfl:=List.mem_singleton.1 hx;exact bH rfl e
 .rw[Wg ak]at hI;simp[cq,aq];exact hy _ _ _ hI
def aEc(p:Pg)(h:qK p):CC 15 af [bc p] (.aU [J9 p,iI 0]):=by
 refine CC.of (av:=[bc p]) amN kr kr (jh (cz p)) (.aU _ (by simp[J9,lM];exact .agg _ az)) ?_;have h31:=k31 p h.hp h.ok;have h47:=aDU p h.hp h.fo;have h48:=aEa p h.hp EK (cn p) (by have:=h.acc.1;omega) h.acc.2.2;have hy:=λx1=>avq (Q:=(·=.aU [J9 p,iI 0])) (x1:=x1) p h rfl;have hP:=bc.eq_1 p;rw[hP]at*
 generalize J9 p=μ at*
 generalize gn p (cn p)=ax at*
 generalize cn p=l at*
 simp[akr,cq,aw];exists _,h31;simp[cq];exists _,h47;simp[cq];exists _,h48;simp[cq];exact hy _
def aEd(p:Pg)(hp:f_ p)(hn:¬vK p):CC 15 af [bc p] (.aU [lM [] [] 0,iI 2]):=by
 refine CC.of (av:=[bc p]) amN kr kr (jh (cz p)) (.aU _ (by simp[lM];exact .agg _ az)) ?_;obtain⟨b,h1,h31⟩:=aun p hp
 have hb:b=af:=by
  cases b with
  |false=>rfl
  |true=>exact bH (h1.1 rfl) hn
 subst hb;have hP:=bc.eq_1 p;rw[hP]at*
 simp[akr,cq,aw];exists _,h31;simp[cq,lM]
def az2(hp:f_ p)(h:Dq p x k i n r a ps te)(ax:aj Ac)(hQ:Q (cP (nH (r.aA++r.aC) r.aL ax x k n a ps te))):
 aa3.sat Z2 CC Q [k0] [bc p,x1,bT x,iI k,cy r,db (r.aA++r.aC),iI n,iI (nR ax ⟨a.s,a.ts.length,ps⟩),iT (mA a.ts ps),x9,iL (x.o.h::x.bj.take k)]:=by
 have⟨hi,gQ⟩:=Z5.1 h.h.ru;have⟨hk,bM⟩:=Z5.1 h.h.od;have⟨hn,F9⟩:=Z5.1 h.h.hd;have⟨ub,Bv⟩:=Z5.1 h.h.kn;have⟨mH,K9⟩:=Z5.1 h.t;have j8:=hp.rs r (gQ▸Z4 hi);have eG:=j8.hs a (F9▸Z4 hn);have Nx:=h.ov;have qE:=h.ol;have hA:=lI hn;rw[F9]at hA;have hK:=tS ub;rw[Bv]at hK;have hT:cu 1 (eQ x.jg) (iI ((k:Int)+2))=aa (iL x.jg[k+2]):=tS mH;rw[K9]at hT;have afa:=amT af a.s a.ts ak n ps (by have:=h.pl;omega);have aFr:=aeP af r te h.tl h.tv;have akx:QY.wrap ((k:Int)+2)=(k:Int)+2:=eU ak ak;have G5:=su n ps a.ts 0;have Cq:(cW r.aL te).length=te.length:=by simp[cW]
 have aFS:=h.tl;have hN:=bT.eq_1 x
 have lk:∀v∈x.o.h::x.bj.take k,0<=v/\v<(r.aA++r.aC).length:=λv hv=>Nx v (by
  grind)
 have zB:(x.o.h::x.bj.take k).length<=60:=aI;rw[hN];rw[bQ]at*
 unfold nH at hQ;generalize x.o.h::x.bj.take k=es at*
 generalize r.aA++r.aC=hs at*
 generalize hF:(⟨3,n,nR ax ⟨a.s,a.ts.length,ps⟩,eR,mA a.ts ps⟩:In)=F at*
 have V7:encI F=.agg [iI 3,iI n,iI (nR ax ⟨a.s,a.ts.length,ps⟩),iI 0,iS [],iT [],iT (mA a.ts ps)]:=by rw[<-hF];rfl
 refine aJ es.length (λj (q:aj In)=>[iI j,cP (F::q)]) (λj q=>q=jD hs n a (es.take j)) [] ?_ cE λj q hj hI=>?_
 .simp[UU,V7,aw,aD]
 have ED:=zp hs n a (es.take j);rw[<-hI,List.length_take]at ED;by_cases aq:j<es.length
 .have hw:=aS aq ak;have⟨v0,v1⟩:=lk _ (Z4 aq);have mB:es[j]=((es[j].toNat:Nat):Int):=ak;have cR:es[j].toNat<hs.length:=ak;have hB:=lI cR;rw[<-mB]at hB;have bI:=aK1 (hs:=hs) (h:=n) (a:=a) aq;rw[<-hI]at bI
  have hap:nY hs n a es[j]=if hs[es[j].toNat].s=a.s/\hs[es[j].toNat].ts.length=a.ts.length then[⟨4,n,es[j],eR,[]⟩]else[]:=by
   grind [nY]
  have hc:=gF (a:=F::q) (i:=⟨4,n,es[j],eR,[]⟩) aI;simp[UU,aq,hw,aw,jf aq,hA,hB,aD];by_cases e1:hs[es[j].toNat].s=a.s
  rotate_left
  .right;refine⟨e1,.mk q rfl ak ?_⟩
   grind
  left;refine⟨e1,?_⟩;by_cases e2:hs[es[j].toNat].ts.length=a.ts.length
  rotate_left
  .right;refine⟨ak,.mk q rfl ak ?_⟩
   grind
  left;refine⟨ak,?_⟩;rw[aW ⟨e1,e2⟩]at hap;simp[aZ,aD];refine⟨_,hc,.mk (q++[⟨4,n,es[j],eR,[]⟩]) rfl ak aI⟩
 .rw[Wg ak]at hI;rw[<-hI]at hQ;have dz:=MX (a:=F::q) (b:=cZ n ps a.ts 0) aI;have oT:=MX (a:=F::q++cZ n ps a.ts 0) (b:=cW r.aL te) aI;simp[UU,aq,hA,hK,aw];refine⟨_,afa,_,dz,?_⟩;simp[akx,hT]
  grind
def y43(hp:f_ p)(h:Dq p x k i n r a ps te)(ax:aj Ac)(hc:LC ax):
 StQ aeb (·=cP (nH (r.aA++r.aC) r.aL ax x k n a ps te)) [] [bc p,dC ax,bT x,iI k]:=by
 have⟨hi,gQ⟩:=Z5.1 h.h.ru;have⟨hk,bM⟩:=Z5.1 h.h.od;have dE:=gQ▸Z4 hi;have j8:=hp.rs r dE;have J6:=Nv r (by have:=j8.h;omega);have h42:=k42 hp h.h ax hc;have aEe:=aCV hp h.h h.pl;have hR:=nQ hi;rw[gQ]at hR;have yp:cu 6 (FW p.aX) (iI x.o.r)=aa (.agg [iS r.name,db r.aA,db r.aC,gw r.aL,gw r.bC,iI r.vars]):=by simp_all[h.h.oc]
 have hO:=jf hk;rw[bM]at hO;have qE:=h.ol;have hy:=λk0 x9=>az2 (Q:=(·=cP (nH (r.aA++r.aC) r.aL ax x k n a ps te))) (k0:=k0) (x1:=dC ax) (x9:=x9) hp h ax rfl;have hN:=bT.eq_1 x;have hP:=bc.eq_1 p;simp only[hN,hP]at*
 generalize nH (r.aA++r.aC) r.aL ax x k n a ps te=res at*
 generalize r.aA++r.aC=hs at*
 simp[aeb,UU,aw,yp];exists _,J6;simp[hO];exists _,h42;simp;exists _,aEe;simp[aZ];refine aJ k (λj (_:Unit)=>[iI j,iL (x.o.h::x.bj.take j)]) (λ_ _=>True) () ?_ trivial λj _ hj _=>?_
 .rfl
 by_cases aq:j<k
 .have hw:=aS aq ak;have cR:j<x.bj.length:=ak;have hc:=lL (a:=x.o.h::x.bj.take j) (v:=x.bj[j]) aI;have bI:x.o.h::x.bj.take (j+1)=(x.o.h::x.bj.take j)++[x.bj[j]]:=az;rw[<-bI]at hc;generalize aFT:x.o.h::x.bj.take (j+1)=me at*
  generalize x.o.h::x.bj.take j=rO at*
  simp[UU,aq,jf cR,aZ,aD];refine⟨_,hc,.mk () ?_ ak trivial⟩
  grind
 .have dg:j=k:=ak;subst dg;simp[UU];exact hy _ _
def az3(aH:Bool)(hp:f_ p)(h:Dq p x k i n r a ps te)(ax:aj Ac)(hc:LC ax):
 CC 2185 aH [bc p,dC ax,bT x,iI k] (cP (nH (r.aA++r.aC) r.aL ax x k n a ps te)):=by
 have h1:=aDd
 have hf:jX Z2 (dK Z2 43) 43 [bc p,dC ax,bT x,iI k] ((nH (r.aA++r.aC) r.aL ax x k n a ps te).map encI):=
  .nu (nm:=af) mixed uK axZ kr (OE p ax x k) (by rw[h1];exact BG _) (HG _) (λ_=>by simp[nH]) (by rw[h1];exact y43 hp h ax hc)
 have h2:=sR.X7 (aH:=aH) (tQ rfl) hf
 simp_all[gk,CC]
def az4:IV:=.agg [iI 0,iI 0,iB af,cP []]
def OZ(o:Oc)(c:aj In):IV:=if 200<c.length then .aU [az4,iI 6]else .aU [kz o c,iI 0]
variable{O:aj IV}{eZ ey gW:IV}
def apM{I l:aj IV}{z:IV}(hn:O.length=n)(h:l[k]?=aa z):(O++(l++I))[n+k]?=aa z:=aI
def az5(c n:Nat):au:=
 (.loop (.ac (.ok (.bin .sub 3 (.len (.bt (.var 5) 4)) (.i 1))) (.ac (.var c) .an))
 (.aQ (.ok (.bin .geq 3 (.var n) (.i 0)))
 (.test (.ok (.bin .geq 3 (.var n) (.i 0)))
 (.bind (.idx 3 (.bt (.var 5) 4) (.var n))
 (.aQ (.qG 3 (.var (n+2)))
 (.bind (.cat 7 96 (.var (n+1)) (.tr 7 (.ac (.ac (.i 9) (.ac (.i 0) (.ac (.i 0) (.ac (.bt (.var (n+2)) 0) (.ac (.bt (.var (n+2)) 1) (.ac (.bt (.var (n+2)) 2) (.ac (.tr 4 .an) .an))))))) .an)))
 (.aQ (.ok (.bin .sub 3 (.var n) (.i 1)))
 (.next 2 (.ac (.ok (.bin .sub 3 (.var n) (.i 1))) (.ac (.var (n+3)) .an)))))))
 (.aQ (.rw (.bt (.var 2) 0))
 (.aQ (.rw (.bt (.var 5) 5))
 (.bind (.cat 7 96 (.var (n+1)) (.tr 7 (.ac (.ac (.i 10) (.ac (.bt (.var 2) 0) (.ac (.bt (.var 5) 5) (.ac (.i 0) (.ac (.s []) (.ac (.tr 4 .an) (.ac (.tr 4 .an) .an))))))) .an)))
 (.aQ (.len (.var (n+2)))
 (.aQ (.ok (.bin .gtr 3 (.len (.var (n+2))) (.i 200)))
 (.test (.ok (.bin .gtr 3 (.len (.var (n+2))) (.i 200)))
 (.ret (.tp (.ac (.ac (.i 0) (.ac (.i 0) (.ac (.b af) (.ac (.tr 7 .an) .an)))) (.ac (.i 6) .an))))
 (.ret (.tp (.ac (.ac (.bt (.var 2) 0) (.ac (.bt (.var 2) 1) (.ac (.bt (.var 2) 2) (.ac (.var (n+2)) .an)))) (.ac (.i 0) .an)))))))))))))
def Au{c:Nat}{u0 u1 u2 u3:IV}(x:Pn)(r:Rl)(hb:r.bC.length<=6)(code:aj In)(hl:code.length<=5000)(h2:O[2]?=aa (bT x))(h5:O[5]?=aa (.agg [u0,u1,u2,u3,gw r.bC,iI r.vars]))(hc:O[c]?=aa (cP code))(hn:O.length=n)(hQ:Q (OZ x.o (code++qZ r.bC++[GU x.o.r r.vars]))):
 (az5 c n).sat Z2 CC Q [k0,k1] O:=by
 rw[bT.eq_1 x]at h2;have a2:=λI=>wo (I:=I) h2;have a5:=λI=>wo (I:=I) h5;have ac:=λI=>wo (I:=I) hc;have g2:=λI (h:2<(O++I).length)=>EB h (a2 I);have g5:=λI (h:5<(O++I).length)=>EB h (a5 I);have b0:=λa I=>apM (k:=0) (I:=I) hn (l:=[a]) rfl;have b1:=λa b I=>apM (k:=1) (I:=I) hn (l:=[a,b]) rfl;have b2:=λa b c I=>apM (k:=2) (I:=I) hn (l:=[a,b,c]) rfl;have b3:=λa b c d I=>apM (k:=3) (I:=I) hn (l:=[a,b,c,d]) rfl;have b4:=λa b c d e I=>apM (k:=4) (I:=I) hn (l:=[a,b,c,d,e]) rfl;simp only[List.cons_append,List.nil_append,Nat.add_zero,List.getElem?_cons_zero,List.getElem?_cons_succ]at b0 b1 b2 b3 b4;refine fg (λ(m:Nat)=>[iI ((m:Int) - 1),cP (code++q0 r.bC m)]) (λm=>m<=r.bC.length) (λm=>m) r.bC.length ?_ (XS _) λm hm=>?_
 .simp[-Z8,fW,h5,hc,h2,F4 (show r.bC.length<=1000 by omega),ae5,aw,aD,zq,vy,eR,encI]
 rcases m with _|m
 .have hz:¬((0:Nat):Int) - 1≥0:=ak;simp[-Z8,fW,a2,a5,g2,g5,ac,b0,b1,b2,b3,b4,ZZ,aw,aZ,aD];exists _,gF (a:=code++q0 r.bC 0) (i:=GU x.o.r r.vars) (by have:=Ge r.bC 0;grind);rw[abK];generalize code++qZ r.bC++[GU x.o.r r.vars]=C at*
  unfold OZ at hQ;by_cases e:200<C.length
  .rw[aW e]at hQ;simp[-Z8,fW];left;exact⟨ak,hQ⟩
  .rw[aY e]at hQ;simp[-Z8,fW];right;exact⟨ak,hQ⟩
 .have hmb:m<r.bC.length:=ak;have hG:=sj hmb;have hw:QY.wrap ((m:Int) - 1)=(m:Int) - 1:=eU ak ak;have Zm:=gF (a:=code++q0 r.bC (m+1)) (i:=Gd r.bC[m]) (by have:=Ge r.bC (m+1);grind);rw[ZZ,<-aHh hmb]at Zm;have tq:((m+1:Nat):Int) - 1=(m:Int):=ak;generalize code++q0 r.bC (m+1)=C1 at*
  simp[-Z8,fW,a5,b0,b1,b2,b3,hG,hw,aw,aD];exact⟨_,Zm,.mk m rfl ak ak⟩
variable{hs:aj At}{iW lT nX rD x7 x8 x5 x6:IV}{m:Nat}
def az6(x:Pn)(r:Rl)(h:iF r)(hn:pB r)(hf:gy r)(hz:zH r)(pz:r.aC=[])(code:aj In)(hl:code.length<=1000)(hQ:Q (OZ x.o (nI x r code))):
 StQ ahH Q [k0] [x0,x1,bT x,x3,x4,cy r,db (r.aA++r.aC),x7,x8,x9,ey,eZ,iW,gW,lT,rD,nX,iB ab,cP code]:=by
 have⟨⟨o1,o2,o3⟩,od,kn,te⟩:=x;have hN:bT ⟨⟨o1,o2,o3⟩,od,kn,te⟩=.agg [iI o1,iI o2,iB o3,iL od,eQ kn,eQ te]:=rfl;have pR:=k45 r h hn hf hz;have hb:=h.b;have DV:=h.h;have bf:(r.aA++r.aC).length=r.aA.length+r.aC.length:=UR
 have JO:(r.aC.length:Int)=0:=by
  grind
 simp only[nI,decide_eq_true pz]at hQ;rw[bQ]at pR;rw[hN,bQ];generalize gl (j9 r) r.bC=ib at*
 generalize r.aA++r.aC=hs at*
 refine fg (λ(m:Nat)=>[iI m,cP (code++lW r.aA.length m)]) (λm=>r.aA.length<=m/\m<=hs.length) (λm=>hs.length- m) r.aA.length ?_ ⟨XS _,ak⟩ λm hm=>?_
 .simp_all[fW,LH]
 have⟨tq,O8⟩:=hm;have py:=EF r.aA.length m;by_cases aq:m<hs.length
 .omega
 .have vZ:m=hs.length:=ak;subst vZ;have Uy:(code++lW r.aA.length hs.length).length<=2000:=aI;generalize code++lW r.aA.length hs.length=C at*
  cases o3 with
  |false=>
   simp[-Z8,fW,pz,aZ,aD,aw];exists _,gF (a:=C) (i:=vy o1 hs.length) ak;simp only[pw,qi,YI,Pb,X3,V_,T8,TN,if_true,if_false,Z_,reduceCtorEq]at hQ;exact Au (c:=21) (n:=22) ⟨⟨o1,o2,af⟩,od,kn,te⟩ r hb _ aI rfl rfl rfl rfl hQ
  |true=>
   simp[-Z8,fW];exists _,pR;cases ib with
   |false=>
    simp[-Z8,fW,aZ,aD];exists _,gF (a:=C) (i:=zq) ak;have lO:C.length+1<=2001:=ak;generalize HJ:C++[zq]=C1 at*
    have aDl:C1.length<=2001:=aI;exists _,gF (a:=C1) (i:=vy o1 hs.length) ak;simp only[pw,Pb,X3,if_true,HJ]at hQ;exact Au (c:=23) (n:=24) ⟨⟨o1,o2,ab⟩,od,kn,te⟩ r hb _ aI rfl rfl rfl rfl hQ
   |true=>
    simp[-Z8,fW,aZ,aD];exists _,gF (a:=C) (i:=vy o1 hs.length) ak;simp only[pw,YI,V_,if_false,Z_,reduceCtorEq]at hQ;exact Au (c:=22) (n:=23) ⟨⟨o1,o2,ab⟩,od,kn,te⟩ r hb _ aI rfl rfl rfl rfl hQ
def avr(x:Pn)(r:Rl)(h:iF r)(hn:pB r)(hf:gy r)(hz:zH r)(pz:r.aC≠[])(code:aj In)(hl:code.length<=1000)(hQ:Q (OZ x.o (nI x r code))):
 StQ abI Q [k0] [x0,x1,bT x,x3,x4,cy r,db (r.aA++r.aC),x7,x8,x9,ey,eZ,iW,gW,lT,rD,cP code,iB af]:=by
 have⟨⟨o1,o2,o3⟩,od,kn,te⟩:=x;have hN:bT ⟨⟨o1,o2,o3⟩,od,kn,te⟩=.agg [iI o1,iI o2,iB o3,iL od,eQ kn,eQ te]:=rfl;have pR:=k45 r h hn hf hz;have hb:=h.b;have DV:=h.h;have bf:(r.aA++r.aC).length=r.aA.length+r.aC.length:=UR
 have JO:¬(r.aC.length:Int)=0:=by
  simp_all
 simp only[nI,decide_eq_false pz]at hQ;rw[bQ]at pR;rw[hN,bQ];generalize gl (j9 r) r.bC=ib at*
 generalize r.aA++r.aC=hs at*
 refine fg (λ(m:Nat)=>[iI m,cP (code++lW r.aA.length m)]) (λm=>r.aA.length<=m/\m<=hs.length) (λm=>hs.length- m) r.aA.length ?_ ⟨XS _,ak⟩ λm hm=>?_
 .simp_all[fW,LH]
 have⟨tq,O8⟩:=hm;have py:=EF r.aA.length m;by_cases aq:m<hs.length
 .have hw:=aS aq ak;have hc:=gF (a:=code++lW r.aA.length m) (i:=B_ m) aI;rw[ZZ,<-Gf tq]at hc;generalize code++lW r.aA.length m=C1 at*
  simp[-Z8,fW,aq,hw,aZ,aD,aw];exact⟨_,hc,.mk (m+1) rfl ⟨ak,ak⟩ ak⟩
 .have vZ:m=hs.length:=ak;subst vZ;have Uy:(code++lW r.aA.length hs.length).length<=2000:=aI;generalize code++lW r.aA.length hs.length=C at*
  cases o3 with
  |false=>
   simp[-Z8,fW,pz,aZ,aD,aw];simp only[pw,qi,YI,Pb,X3,V_,T8,TN,if_true,if_false,Z_,reduceCtorEq,Bool.false_eq_true]at hQ;exact Au (c:=19) (n:=20) ⟨⟨o1,o2,af⟩,od,kn,te⟩ r hb _ ak rfl rfl rfl rfl hQ
  |true=>
   simp[-Z8,fW,aw];exists _,pR;cases ib with
   |false=>
    simp[-Z8,fW,pz,aZ,aD];exists _,gF (a:=C) (i:=zq) ak;simp only[qi,if_false,Z_,reduceCtorEq]at hQ;exact Au (c:=21) (n:=22) ⟨⟨o1,o2,ab⟩,od,kn,te⟩ r hb _ aI rfl rfl rfl rfl hQ
   |true=>
    simp[-Z8,fW];simp only[pw,qi,YI,V_,if_false,Z_,reduceCtorEq]at hQ;exact Au (c:=19) (n:=21) ⟨⟨o1,o2,ab⟩,od,kn,te⟩ r hb _ ak rfl rfl rfl rfl hQ
def avs(hp:f_ p)(hg:Good p x i m r)(h:iF r)(hn:pB r)(hf:gy r)(hz:zH r)(ax:aj Ac)(hc:LC ax)(base:aj In)(EG:base.length<=100)
 (qF:∀k<x.bj.length,0<=zr (r.aA++r.aC) ax x k)(hQ:Q (OZ x.o (nI x r (wv x r (iG (r.aA++r.aC) r.aL ax x base x.bj.length))))):
 StQ abJ Q [] [bc p,dC ax,bT x,x3,x4,cy r,db (r.aA++r.aC),x7,x8,x9,ey,eZ,iW,gW,cP base]:=by
 have qE:=hg.ol;have K9:=hg.part;have h44:=aDm r;have hN:=bT.eq_1 x;have hP:=bc.eq_1 p;refine aJ x.bj.length (λk (_:Unit)=>[iI k,cP (iG (r.aA++r.aC) r.aL ax x base k)]) (λ_ _=>True) () ?_ trivial λk _ hk _=>?_
 .rfl
 have Kk:=Gh hg ax base k ak;by_cases aq:k<x.bj.length
 .have hw:=aS aq ak;have⟨n,a,ps,te,nq,eG,Cq⟩:=K9 k aq;have h42:=k42 hp nq.h ax hc;have anh:=az3 af hp nq ax hc;rw[<-Gg nq ax]at h42;rw[<-uT nq ax]at anh;have Bv:=qF k aq;have rN:iG (r.aA++r.aC) r.aL ax x base (k+1)=iG (r.aA++r.aC) r.aL ax x base k++w7 (r.aA++r.aC) r.aL ax x k:=rfl
  have rQ:(w7 (r.aA++r.aC) r.aL ax x k).length<=30:=by
   rw[uT nq ax];have:=aIb (hs:=r.aA++r.aC) (gs:=r.aL) (ax:=ax) (x:=x) (k:=k) (n:=n) (a:=a) (ps:=ps) (te:=te);omega
  have jm:=MX (a:=iG (r.aA++r.aC) r.aL ax x base k) (b:=w7 (r.aA++r.aC) r.aL ax x k) ak;rw[<-rN]at jm;rw[hN,hP]at*
  generalize HJ:iG (r.aA++r.aC) r.aL ax x base (k+1)=C1 at*
  generalize iG (r.aA++r.aC) r.aL ax x base k=C0 at*
  generalize w7 (r.aA++r.aC) r.aL ax x k=S at*
  generalize zr (r.aA++r.aC) ax x k=pk at*
  simp[-Z8,fW,aq];exists _,h42;simp[-Z8,fT];right;refine⟨ak,_,anh,_,jm,.mk () ?_ ak trivial⟩
  grind
 .have sD:k=x.bj.length:=ak;subst sD;unfold wv at hQ;generalize iG (r.aA++r.aC) r.aL ax x base x.bj.length=C at*
  by_cases e:r.aC=[]
  .rw[aW e]at hQ;rw[decide_eq_true e]at h44;have hy:=λnX rD k1=>az6 (Q:=Q) (k0:=k1) (x0:=bc p) (x1:=dC ax) (x3:=x3) (x4:=x4) (x7:=x7) (x8:=x8) (x9:=x9) (ey:=ey) (eZ:=eZ) (iW:=iW) (gW:=gW) (lT:=cP base) (rD:=rD) (nX:=nX) x r h hn hf hz e (C++[qg x.o.r (r.aA++r.aC).length]) aI hQ;simp only[bQ,hN]at*
   generalize r.aA++r.aC=hs at*
   simp[-Z8,fW,aD,aZ];exists _,h44;simp[-Z8];exact⟨_,gF (a:=C) (i:=qg x.o.r hs.length) ak,hy _ _ _⟩
  .rw[aY e]at hQ;rw[decide_eq_false e]at h44;have hy:=λrD k1=>avr (Q:=Q) (k0:=k1) (x0:=bc p) (x1:=dC ax) (x3:=x3) (x4:=x4) (x7:=x7) (x8:=x8) (x9:=x9) (ey:=ey) (eZ:=eZ) (iW:=iW) (gW:=gW) (lT:=cP base) (rD:=rD) x r h hn hf hz e C ak hQ;simp only[bQ,hN]at*
   generalize r.aA++r.aC=hs at*
   simp[-Z8,fW];exists _,h44
   simp_all
def aEf(p:Pg)(hp:f_ p)(hz:∀r∈p.aX,zH r)(bM:vK p)(ax:aj Ac)(hc:LC ax)(x:Pn)(hx:Lw x)(h:pJ p x.o i m r)(hr:wu p x=ab)(qF:∀k<x.bj.length,0<=zr (r.aA++r.aC) ax x k)(hT:(l9 r ax x).length<=200){a:Int}(h2:CC 9 af [bc p] (.aU [iI a,iI 0])):CC 12 af [bc p,dC ax,bT x] (.aU [kz x.o (l9 r ax x),iI 0]):=by
 refine CC.of aDk kr kr (aci p ax x) (.aU _ (by simp[kz];exact .agg _ az)) ?_;have hfo:=λr hr=>(bM.r r hr).form (hp.rn r hr);have h38:=k38 p hp hfo x hx;have hN:=bT.eq_1 x;have hP:=bc.eq_1 p;have hg:=SB hp h hr;have gQ:=h.ru;have⟨hi,gQ⟩:=Z5.1 gQ;have dE:=gQ▸Z4 hi;have j8:=hp.rs r dE;have hR:=nQ hi;rw[gQ]at hR;have yp:cu 6 (FW p.aX) (iI x.o.r)=aa (.agg [iS r.name,db r.aA,db r.aC,gw r.aL,gw r.bC,iI r.vars]):=by simp_all[h.or]
 have hb:OZ x.o (l9 r ax x)=.aU [kz x.o (l9 r ax x),iI 0]:=by simp_all[OZ]
 rw[hr]at h38;have J6:=Nv r (by have:=j8.h;omega);have DQ:=h.lt;have hA:=lI DQ;rw[<-h.oh]at hA;have⟨t0,t1,g0,g1,g2,g3,g4,g5⟩:=hg.t;have⟨l0,e0⟩:=Z5.1 g0;have⟨l1,e1⟩:=Z5.1 g1
 have hT0:cu 1 (eQ x.jg) (iI 0)=aa (iL t0):=by
  have:=tS l0
  grind
 have hT1:cu 1 (eQ x.jg) (iI 1)=aa (iL t1):=by
  have:=tS l1
  grind
 have eG:=j8.hs _ (Z4 DQ);have afa:=amT af (r.aA++r.aC)[m].s (r.aA++r.aC)[m].ts ak x.o.h [] az;have h0:=aeP af r t0 ak g4;have ew:=aeP af r t1 ak g5;have G5:=su x.o.h [] (r.aA++r.aC)[m].ts 0;have Cq:∀l,(cW r.aL l).length=l.length:=λl=>by simp[cW]
 have VW:=Cq t0;have htb:=Cq t1;have dz:=MX (a:=cZ x.o.h [] (r.aA++r.aC)[m].ts 0) (b:=cW r.aL t0) ak;have oT:=MX (a:=cZ x.o.h [] (r.aA++r.aC)[m].ts 0++cW r.aL t0) (b:=cW r.aL t1) aI
 have Ic:oD r x=cZ x.o.h [] (r.aA++r.aC)[m].ts 0++cW r.aL t0++cW r.aL t1:=by
  unfold oD;rw[Xg,Xg,g0,g1]
  have:gB (r.aA++r.aC) x.o.h=(r.aA++r.aC)[m].ts:=by
   grind [gB,h.oh]
  grind
 have EG:(oD r x).length<=100:=aI;have hy:=λx7 x8 x9 ey eZ iW gW=>avs (Q:=(·=.aU [kz x.o (l9 r ax x),iI 0])) (x3:=.aU [iI a,iI 0]) (x4:=iB ab) (x7:=x7) (x8:=x8) (x9:=x9) (ey:=ey) (eZ:=eZ) (iW:=iW) (gW:=gW) hp hg j8 (hp.rn r dE) (hfo r dE) (hz r dE) ax hc (oD r x) EG qF hb;rw[Ic]at hy;generalize IV.aU [kz x.o (l9 r ax x),iI 0]=res at*
 generalize cZ x.o.h [] (r.aA++r.aC)[m].ts 0++cW r.aL t0++cW r.aL t1=B2 at*
 generalize cZ x.o.h [] (r.aA++r.aC)[m].ts 0++cW r.aL t0=B1 at*
 generalize cZ x.o.h [] (r.aA++r.aC)[m].ts 0=B0 at*
 generalize cW r.aL t0=T0 at*
 generalize cW r.aL t1=T1 at*
 generalize(r.aA++r.aC)[m]=am at*
 generalize r.aA++r.aC=hs at*
 simp only[bQ,hN,hP]at*
 simp[aub, -Z8,fW,UU,aw];exists _,h2;simp[-Z8,fT];exists _,h38;simp[-Z8,fT,yp];exists _,J6;simp[-Z8,fT,hA];exists _,afa;simp[-Z8,fT,hT0];exists _,h0,_,dz;simp[-Z8,fT,hT1];exact⟨_,ew,_,oT,hy _ _ _ _ _ _ _⟩
def adQ{B:Type}{P:B->Bool}{a:B}(ha:P a=ab):∀{l:aj B},l.Pairwise (λx y=>¬(P x=ab/\P y=ab))->a∈l->l.filter P=[a]
 |[],_,h=>bH h az
 |x::l,hp,h=>by
  have⟨h1,h2⟩:=List.pairwise_cons.1 hp;cases hx:P x with
  |true=>
   have h3:=List.filter_eq_nil_iff.2 λy hy h=>h1 y hy ⟨hx,h⟩
   grind
  |false=>
   rw[List.filter_cons_of_neg aI];rcases ZP.1 h with rfl|h
   .grind
   .exact adQ ha h2 h
def avt(a b:Oc):Prop:=¬(a.r=b.r/\a.h=b.h)
def apU(i kl n:Nat):(pI i kl n).Pairwise avt:=by
 rw[List.pairwise_iff_getElem];intro a b ha hb di h
 grind [pI]
def acf(l:aj Rl):∀k,k<=l.length->(occs (l.take k)).Pairwise avt
 |0,_=>by simp[occs]
 |k+1,hk=>by
  rw[Lu ak,List.pairwise_append];refine⟨acf l k ak,apU _ _ _,λa ha b hb h=>?_⟩;have⟨i,m,r,K_⟩:=(nS (p:=⟨[],l.take k⟩)).1 ha;have h1:=(Z5.1 K_.ru).1;have h2:=K_.or;obtain⟨m',_,rfl⟩:=Ap.1 hb
  grind
def BL(o x:Oc):Bool:=decide (x.r=o.r)&&decide (x.h=o.h)
def ak1(h:o∈occs p.aX):(occs p.aX).filter (BL o)=[o]:=by
 refine adQ (by simp[BL]) ?_ h;have:=acf p.aX p.aX.length (XS _);rw[Wg (XS _)]at this;refine this.imp λ{a b} di h=>di ?_
 simp_all[BL]
def ah7(h:o∈occs p.aX):((cn p).filter λx=>BL o x.o).map (λx=>lU p x.o)=[lU p o]:=by
 have h1:=ak1 h;rw[<-OQ,List.filter_map]at h1;have h2:=congrArg (List.map (lU p)) h1;rw[Ya]at h2;exact h2
def qK.k9(h:qK p):∃a:Int,CC 9 af [bc p] (.aU [iI a,iI 0]):=by
 have⟨a,n,h1,h2⟩:=v34 p h.hp h.sz;rw[h1.2 h.ok]at h2
 grind
def qK.Qw(h:qK p)(hx:x∈cn p):CC 12 af [bc p,dC (gn p (cn p)),bT x] (.aU [.agg [iI x.o.r,iI x.o.h,iB x.o.k,cP (lU p x.o).c],iI 0]):=by
 have⟨i,m,r,hl,hr⟩:=h.pl hx;have⟨_,_,h3,h4⟩:=LS h.hp x hx;have⟨a,h9⟩:=h.k9;have hac:=h.acc.2.1;have hb:=aEf p h.hp h.sz h.ok (gn p (cn p)) ⟨by have:=hac.l;omega,λa ha=>(hac.p a ha).1⟩ x h3 hl.oc hl.rt (hl.avd (OW p _ x hx)) hl.Yh h9;unfold lU;rw[<-(Gq hx).1,<-hr];exact hb
def az7(p:Pg)(h:qK p)(os:aj Oc)(j:Nat)(hj:j<os.length)(hj1:j<1000)(ho:os[j]∈occs p.aX)(bs:aj Bk)(kX:bs.length<=100)
 (hk:k1 [iI (j+1:Nat),zx (bs++[lU p os[j]])]):
 ahT.sat Z2 CC Q [k0,k1] [bc p,x1,uU (cn p),dC (gn p (cn p)),x4,x5,x6,x7,x8,kY os,iI j,zx bs]:=by
 have QC:=h.acc.1;have Xz:=ah7 ho;have Tz:∀x∈cn p,_:=λx hx=>h.Qw hx;have aEg:=GR hj;generalize gn p (cn p)=ax at*
 generalize cn p=l at*
 generalize os[j]=o at*
 have tB:=aS hj1 ak;have hP:=bc.eq_1 p;rw[hP]at*
 refine aJ l.length (λk (cs:aj Bk)=>[iI k,zx cs]) (λk cs=>cs=bs++((l.take k).filter λx=>BL o x.o).map λx=>lU p x.o) bs ?_ az λk cs er hI=>?_
 .rfl
 have kW:cs.length<=bs.length+k:=by
  grind
 by_cases aq:k<l.length
 rotate_left
 .rw[Wg ak,Xz]at hI;simp[cq,aq,tB]
  grind
 have hw:=aS aq ak;have Tz:=Tz _ (Z4 aq);have hN:=bT.eq_1 l[k];have eW:=HQ aq;rw[hN]at Tz eW;have jm:=anf (a:=cs) (b:=lU p l[k].o) ak;have hb:(lU p l[k].o).o=l[k].o:=rfl;rw[hb]at jm
 have bI:((l.take (k+1)).filter λx=>BL o x.o).map (λx=>lU p x.o)=((l.take k).filter λx=>BL o x.o).map (λx=>lU p x.o)++if BL o l[k].o=ab then[lU p l[k].o]else[]:=by
  rw[ZN aq,List.filter_append,List.map_append]
  grind
 have j_:qJ l.length (λk (cs:aj Bk)=>[iI k,zx cs]) (λk cs=>cs=bs++((l.take k).filter λx=>BL o x.o).map λx=>lU p x.o) k [iI (k+1:Nat),zx (cs++if BL o l[k].o=ab then[lU p l[k].o]else[])]:=.mk _ rfl ak aI;clear hI Xz bI;generalize(λ(k:Nat) (cs:aj Bk)=>cs=bs++((l.take k).filter λx=>BL o x.o).map λx=>lU p x.o)=μ at*
 generalize lU p l[k].o=b at*
 generalize l[k].o=lo at*
 simp[cq,aq,eW,aEg,aw];by_cases e1:lo.r=o.r
 rotate_left
 .have:BL o lo=af:=by simp[BL,e1]
  grind
 left;refine⟨e1,?_⟩;by_cases e2:lo.h=o.h
 rotate_left
 .have:BL o lo=af:=by simp[BL,e2]
  grind
 left;refine⟨e2,?_⟩;have:BL o lo=ab:=by simp[BL,e1,e2]
 rw[this,aW rfl]at j_;refine⟨_,Tz,?_⟩
 simp_all[cq,aw,aD]
def az8(p:Pg)(h:qK p)(i:Nat)(hi:i<1000)(us:aj Un)(vC:us.length<=1000)(d:De)(nv:Bool)(la:Int)(os:aj Oc)(qE:os.length<=100)(t_:∀o∈os,o∈occs p.aX)
 (hk:k0 [iI (i+1:Nat),zI (us++[⟨d.s,d.n,os.map (lU p),nv,la⟩])]):
 StQ ahU Q [k0] [bc p,x1,uU (cn p),dC (gn p (cn p)),iI i,zI us,uM d,iB nv,iI la,kY os]:=by
 have mU:=aS hi ak;have hD:=uM.eq_1 d;have hy:=λk1 j hj ho bs kX hk=>az7 (Q:=Q) (k0:=k0) (k1:=k1) (x1:=x1) (x4:=iI i) (x5:=zI us) (x6:=.agg [iS d.s,iI d.n]) (x7:=iB nv) (x8:=iI la) p h os j hj ak ho bs kX hk;rw[hD];generalize gn p (cn p)=ax at*
 generalize cn p=l at*
 refine aJ os.length (λj (bs:aj Bk)=>[iI j,zx bs]) (λj bs=>bs=(os.map (lU p)).take j) [] ?_ az λj bs hj hI=>?_
 .rfl
 have EG:bs.length=j:=aI;by_cases aq:j<os.length
 .have hy:=hy (qJ os.length (λj (bs:aj Bk)=>[iI j,zx bs]) (λj bs=>bs=(os.map (lU p)).take j) j) j aq (t_ _ (Z4 aq)) bs ak (.mk _ rfl ak (by rw[hI,ZN aI];simp))
  simp_all[cq,aq]
 .rw[Wg aI]at hI;have jm:=ang (a:=us) (u:=⟨d.s,d.n,bs,nv,la⟩) ak
  simp_all[hI,cq,aq,aD]
def az9(p:Pg)(h:qK p)(hQ:Q (.aU [J9 p,iI 0])):
 StQ ahV Q [] [bc p,x1,uU (cn p),dC (gn p (cn p))]:=by
 have hp:=h.hp;have Yy:=hp.d;have py:=hp.r;have h63:=λs n=>aD9 p hp h.fo h.sz s n;have h64:=λs n=>aD_ p hp h.fo h.sz s n;have UI:=λs n=>k16 p hp s n;have SX:=λs n=>vz s n p.aX hp.rs;have OY:∀s n,∀o∈fB s n p.aX,o∈occs p.aX:=λs n o ho=>OS ho;have hy:=λk1 i hi us vC d nv la os qE t_ hk=>az8 (Q:=Q) (k0:=k1) (x1:=x1) p h i hi us vC d nv la os qE t_ hk;have hU:=λd=>(rfl:ER p d=⟨d.s,d.n,(fB d.s d.n p.aX).map (lU p),gG p (fB d.s d.n p.aX),(gb p (fB d.s d.n p.aX):Nat)⟩);unfold J9 at hQ;generalize gn p (cn p)=ax at*
 generalize cn p=l at*
 simp only[bc.eq_1 p]at h63 h64 UI hy⊢;refine aJ p.bU.length (λi (us:aj Un)=>[iI i,zI us]) (λi us=>us=(p.bU.map (ER p)).take i) [] ?_ az λi us hi hI=>?_
 .rfl
 have EG:us.length=i:=aI;by_cases aq:i<p.bU.length
 .have h63:=h63 p.bU[i].s p.bU[i].n;have h64:=h64 p.bU[i].s p.bU[i].n;have UI:=UI p.bU[i].s p.bU[i].n;have SX:=SX p.bU[i].s p.bU[i].n;have OY:=OY p.bU[i].s p.bU[i].n;have bI:us++[ER p p.bU[i]]=(p.bU.map (ER p)).take (i+1):=by rw[hI,ZN aI];simp
  rw[hU]at bI;have hy:=hy (qJ p.bU.length (λi (us:aj Un)=>[iI i,zI us]) (λi us=>us=(p.bU.map (ER p)).take i) i) i ak us ak p.bU[i] (gG p (fB p.bU[i].s p.bU[i].n p.aX)) (gb p (fB p.bU[i].s p.bU[i].n p.aX):Nat) (fB p.bU[i].s p.bU[i].n p.aX) ak OY (.mk _ rfl ak bI);have eW:cu 2 (rC p.bU) (iI i)=aa (.agg [iS p.bU[i].s,iI p.bU[i].n]):=cM (by simp[aq,uM]) rfl;have hD:=uM.eq_1 p.bU[i];rw[hD]at hy;generalize gG p (fB p.bU[i].s p.bU[i].n p.aX)=nv at*
  generalize gb p (fB p.bU[i].s p.bU[i].n p.aX)=la at*
  generalize fB p.bU[i].s p.bU[i].n p.aX=os at*
  simp[cq,aq,eW,aw];exists _,h63;simp;exists _,h64;simp;exists _,UI
  simp_all
 .rw[Wg aI]at hI;rw[<-hI]at hQ;have hM:=lM.eq_1 us ax p.aX.length;rw[hM]at hQ;simp[cq,aq];omega
def aEh(p:Pg)(h:qK p):CC 20 af [bc p] (.aU [J9 p,iI 0]):=by
 refine CC.of (av:=[bc p]) am_ kr kr (jh (cz p)) (.aU _ (by simp;exact .agg _ az)) ?_;have⟨a,h9⟩:=h.k9;have Wv:=aDW p h.hp h.fo;have h62:=aEb p h.hp EK (cn p) (by have:=h.acc.1;omega) h.acc.2.2;have hy:=λx1=>az9 (Q:=(·=.aU [J9 p,iI 0])) (x1:=x1) p h rfl;generalize J9 p=μ at*
 generalize gn p (cn p)=ax at*
 generalize cn p=l at*
 simp only[bc.eq_1 p]at*
 simp[akU,cq,aw];exists _,h9;simp[cq];exists _,Wv;simp;exists _,h62
 simp_all
def aEi(p:Pg)(hp:f_ p)(hz:∀r∈p.aX,zH r)(hn:¬vK p):CC 20 af [bc p] (.aU [lM [] [] 0,iI 2]):=by
 refine CC.of (av:=[bc p]) am_ kr kr (jh (cz p)) (.aU _ (by simp;exact .agg _ az)) ?_;have⟨a,n,h1,h9⟩:=v34 p hp hz;have hb:n≠0:=λe=>hn (h1.1 e);simp only[bc.eq_1 p]at*
 simp[akU,cq,aw];exists _,h9;simp[cq,lM,hb]
def ani:au:=
 (kP (vp bS bR AK (wF .gtr bS bR (kN 1) qR)))
def az_:bG Z2 (dr []) 211=ani:=kr
def anj:au:=
 (I1 4 0 .eql jt 1 qR (oz .eql 0 0 (kN 1) (CN 0 0 2 vg (kN 3))))
def aAa:bG Z2 (dr []) 248=anj:=kr
def ank:au:=
 (kP (Hw .lss 9 bS bR AK (Hw .gtr 9 bS bR (kN 1) qR)))
def aAb:bG Z2 (dr []) 249=ank:=kr
def anl:au:=
 (nB 4 4 (wO 248 0 0 0 0 2 (wO 248 1 1 1 1 3 (kq 211 bW cw (BX cT .neq cT (.ret cT) (Ab 248 (ff 0 0 0 0) (y_ cS cS (o6 211 (P_ 0 1 1) (.nr cK)) (wK cS gM (o6 211 (P_ 0 1 1) (.nr cK)) (wK cS (.i 2) (fE fw lH (kq 211 fw lH (y_ cK cK (tK 249 0 2 1 2 (y_ eu eu (tK 170 0 3 1 3 (.nr h_)) (.ret eu))) (wK cK bB (tK 170 0 3 1 3 (.nr eu)) (.ret cK))))) (tK 211 0 0 1 0 (y_ cK cK (o6 211 (P_ 0 1 1) (y_ eu eu (tK 249 0 2 1 2 (.nr h_)) (.ret eu))) (wK cK bB (tK 249 0 2 1 2 (.nr eu)) (.ret cK)))))))))))))
def aAc:bG Z2 (dr []) 210=anl:=kr
def acg:au:=
 (yZ 2 (mY dU .lss gV dU (jG 4 bS 2 4 3 (jG 4 bR 2 4 4 (kq 210 (ff 3 3 3 3) (ff 4 4 4 4) (BX cS .neq cS (.ret cS) mM)))) (fE dQ dU (kq 211 dQ dU (.nr cw)))) (fE dQ dU (kq 211 dQ dU (.nr cw))))
def anm:au:=
 (kP acg)
def aAd:bG Z2 (dr [aP 0 170 2 [5]]) 170=anm:=kr
def aeT:∀l:aj UInt8,TH l l=af
 |[]=>rfl
 |a::l=>by
  have ih:=aeT l;simp[TH,ih]
def ZH(a:Int):CC 211 af [iI a,iI a] (iI 0):=by
 refine CC.of az_ kr kr az az ?_;simp[ani,UU,aw]
def aEj(s:aj UInt8):CC 249 af [iS s,iS s] (iI 0):=by
 refine CC.of aAb kr kr az az ?_;simp[ank,UU,aw,aeT]
def HR(t:Tm):Int:=if t.k=1 then 0 else if t.k=0 then 1 else if t.k=2 then 2 else 3
def aEk(t:Tm):CC 248 af [eo t] (iI (HR t)):=by
 refine CC.of aAa kr kr (by simp[mZ]) az ?_;rw[bL];unfold HR;simp[anj,UU,aw];by_cases h1:t.k=1
 .simp[h1]
 by_cases h2:t.k=0
 .simp[h2]
 by_cases h3:t.k=2
 .simp[h3]
 simp[h1,h2,h3]
def ann(ts:aj Tm)(lD:Sm ts)(ih:∀u∈ts,CC 210 af [eo u,eo u] (iI 0)):CC 170 af [iT ts,iT ts] (iI 0):=by
 refine CC.of aAd kr kr az az ?_;have aEl:=ZH ts.length;simp[anm,UU,aw];unfold acg;refine aJ ts.length (λi (_:Unit)=>[iI i]) (λ_ _=>True) () ?_ trivial λi _ hi _=>?_
 .simp[UU]
 by_cases aq:i<ts.length
 .have hw:=aS aq lD;have hb:=ih ts[i] (Z4 aq);rw[bL]at hb;simp[UU,aq,hw,iJ aq,bL,aw];exists _,hb;simp;exact .mk () rfl ak trivial
 .simp[UU,aq];exact⟨_,aEl,az⟩
def aAe(t:Tm)(ak2:CC 170 af [iT t.ts,iT t.ts] (iI 0)):CC 210 af [eo t,eo t] (iI 0):=by
 refine CC.of aAc kr kr (by simp[mZ]) az ?_;have hc:=aEk t;have h0:=ZH (HR t);have h1:=ZH t.n;have h2:=ZH t.k;have h3:=ZH t.ts.length;have h4:=aEj t.s;rw[bL]at*
 simp[anl,UU,aw];exists _,hc;simp;exists _,hc;simp;exists _,h0;simp;exists _,hc;simp;by_cases e0:HR t=0
 .left;exact⟨e0,_,h1,az⟩
 right;exists e0;by_cases e1:HR t=1
 .left;exact⟨e1,_,h1,az⟩
 right;exists e1;by_cases e2:HR t=2
 .left;exists e2,_,h3;simp;exists _,h4;simp;exact⟨_,ak2,az⟩
 right;exists e2,_,h2;simp;exists _,h1;simp;exact⟨_,h4,az⟩
def avu:∀t:Tm,sS t->CC 210 af [eo t,eo t] (iI 0)
 |.mk k n s ts,h=>aAe _ (ann ts ((vu _).1 h).1 λu hu=>avu u (((vu _).1 h).2 u hu))
 decreasing_by have:=List.sizeOf_lt_of_mem hu;simp;omega
def avv(ts:aj Tm)(lD:Sm ts)(h:∀t∈ts,sS t):CC 112 af [iT ts,iT ts] (iB ab):=by
 refine CC.of axD kr kr az az ?_;have ak2:=ann ts lD λu hu=>avu u (h u hu);simp[alN,UU,aw];exact⟨_,ak2,az⟩
def aEm(g:Gl)(lD:Sm g.ts)(h:∀t∈g.ts,sS t):CC 111 af [.agg [iI g.op,iS g.s,iT g.ts],.agg [iI g.op,iS g.s,iT g.ts]] (iB ab):=by
 refine CC.of axC kr kr (by simp;exact .agg _ az) az ?_;have ak3:=avv g.ts lD h;simp[alM,UU,aw];exact⟨_,ak3,az⟩
def OkI(i:In):Prop:=(Sm i.g.ts/\∀t∈i.g.ts,sS t)/\Sm i.ts/\∀t∈i.ts,sS t
def k46(i:In)(h:OkI i):CC 46 af [encI i,encI i] (iB ab):=by
 refine CC.of aBQ kr kr (by simp[aer]) az ?_;have aEn:=aEm i.g h.1.1 h.1.2;have ak3:=avv i.ts h.2.1 h.2.2;unfold encI;simp[aro,UU,aw];exists _,aEn;simp;exact⟨_,ak3,az⟩
def aEo{l:aj In}(h:i<l.length):cu 7 (cP l) (iI (i:Nat))=aa (encI l[i]):=cM (by simp[h]) rfl
def ah8(o:Oc)(c:aj In):Pure (kz o c):=.agg _ az
def Pl.okI(h:Pl p x i m r)(hc:LV p x x.bj.length ax)(hf:gy r):∀a∈l9 r ax x,OkI a:=by
 have hh:=λa ha t ht=>(hf.hs a ha t ht).1;have Ui:∀g∈r.aL++r.bC,Sm g.ts/\∀t∈g.ts,sS t:=λg hg=>⟨by have:=h.sm.gs g hg;omega,λt ht=>((hf.gs g hg).2 t ht).1⟩;have dw:∀o a b:Int,OkI ⟨o,a,b,eR,[]⟩:=λ_ _ _=>⟨⟨by simp[eR],by simp[eR]⟩,az,az⟩;have eG:=h.sm.hs;refine h.code hc (λn a j t hn ht hj=>⟨⟨by simp[eR],by simp[eR]⟩,az,λu hu=>?_⟩) (λg hg=>⟨Ui g aI,az,az⟩) (λn a j ts hn ht dq=>⟨⟨by simp[eR],by simp[eR]⟩,?_,λu hu=>hh a (ZU hn) u (ht u hu)⟩) (λn e n0 n1 e0 e1 cg=>dw _ _ _) (dw _ _ _) (λn hn=>dw _ _ _) (dw _ _ _) (dw _ _ _) (λg hg=>⟨Ui g aI,by simp[Gd],by simp[Gd]⟩) (dw _ _ _)
 all_goals grind
def k66(o:Oc)(c:aj In)(hc:c.length<=100000)(h:∀i∈c,OkI i):CC 66 af [kz o c,kz o c] (iB ab):=by
 refine CC.of azO kr kr (by simp[ah8]) az ?_;unfold kz;simp[au0,UU,aw];refine aJ c.length (λi (_:Unit)=>[iI i]) (λ_ _=>True) () ?_ trivial λi _ hi _=>?_
 .rfl
 by_cases aq:i<c.length
 .have hw:=aS aq ak;have hb:=k46 c[i] (h _ (Z4 aq));have hI:=encI.eq_1;rw[hI]at hb;simp[UU,aq,hw,aEo aq,hI,aw];exists _,hb;simp;exact .mk () rfl ak trivial
 .simp[UU,aq]
structure ImS(us:aj Un)(ax:aj Ac):Prop where
 ul:us.length<=1000
 al:ax.length<=1000
 a:∀a∈ax,a.ps.length<=1000
 u:∀u∈us,u.bs.length<=1000/\∀b∈u.bs,b.c.length<=1000/\∀i∈b.c,OkI i
def aAf(u:Un)(hl:u.bs.length<=1000)(hb:∀b∈u.bs,b.c.length<=1000/\∀i∈b.c,OkI i)(i:Nat)(hi:i<1000)(hk:k1 [iI (i+1:Nat)]):
 StQ ahS Q [k0,k1] [x0,x1,x2,iI i,w8 u,w8 u]:=by
 have mU:=aS hi ak;have hU:=w8.eq_1 u;rw[hU];generalize u.bs=bs at*
 refine aJ bs.length (λj (_:Unit)=>[iI j]) (λ_ _=>True) () ?_ trivial λj _ hj _=>?_
 .rfl
 by_cases aq:j<bs.length
 .have hw:=aS aq ak;have⟨h1,h2⟩:=hb _ (Z4 aq);have h66:=k66 bs[j].o bs[j].c ak h2;simp[UU,aq,hw,auI aq,aw];exists _,h66;simp;exact .mk () rfl ak trivial
 .simp[UU]
  grind
def k21(us:aj Un)(ax:aj Ac)(rl:Int)(h:ImS us ax):CC 21 af [lM us ax rl,lM us ax rl] (iB ab):=by
 have hM:=lM.eq_1 us ax rl;refine CC.of azP kr kr (qC (.agg _ az) (.agg _ az)) az ?_;have⟨Kg,eG,ha,hu⟩:=h;rw[hM];simp[au3,UU,aw];refine aJ ax.length (λi (_:Unit)=>[iI i]) (λ_ _=>True) () ?_ trivial λi _ hi _=>?_
 .rfl
 by_cases aq:i<ax.length
 .have hw:=aS aq ak;have h65:=k65 ax[i].ps ax[i].ps aI;have hC:=lK.eq_1 ax[i];have eW:=Ak aq;simp[UU,aq,hw,eW,aw];exists _,h65;simp;exact .mk () rfl ak trivial
 simp[UU,aq];refine aJ us.length (λi (_:Unit)=>[iI i]) (λ_ _=>True) () ?_ trivial λi1 _ Wn _=>?_
 .rfl
 by_cases nL:i1<us.length
 .have⟨h1,h2⟩:=hu _ (Z4 nL);have hy:=λZo Cn hk=>aAf (Q:=(·=iB ab)) (k0:=Zo) (k1:=Cn) (x0:=.agg [zI us,dC ax,iI rl]) (x1:=.agg [zI us,dC ax,iI rl]) (x2:=iI i) us[i1] h1 h2 i1 ak hk;have hU:=w8.eq_1 us[i1];rw[hU]at hy;simp[UU,nL,SJ nL,aw];exact hy _ _ (.mk () rfl ak trivial)
 .simp[UU,nL]
def UL(s:aj UInt8)(n:Int)(u:Un):Prop:=u.s=s/\u.n=n
def k23(us:aj Un)(ax:aj Ac)(rl:Int)(hl:us.length<=1000)(s:aj UInt8)(n:Int)(z:IV)(hz:((∀u∈us,¬UL s n u)/\z=.aU [iI 0,iB af])\/∃(j:Nat) (h:j<us.length),UL s n us[j]/\(∀u∈us.take j,¬UL s n u)/\z=.aU [iI j,iB ab]):
 CC 23 af [lM us ax rl,iS s,iI n] z:=by
 have hM:=lM.eq_1 us ax rl
 have hzt:∃a b:IV,z=.aU [a,b]/\Pure a/\Pure b:=by
  rcases hz with⟨_,rfl⟩|⟨j,h,_,_,rfl⟩<;>exact⟨_,_,rfl,az,az⟩
 refine CC.of azQ kr (by obtain⟨a,b,rfl,_⟩:=hzt;exact kr) (s7 (.agg _ az) az az) (by obtain⟨a,b,rfl,h1,h2⟩:=hzt;exact .aU _ (by simp[h1,h2])) ?_;rw[hM];simp[au5,UU,aw];refine aJ us.length (λi (_:Unit)=>[iI i]) (λi _=>∀u∈us.take i,¬UL s n u) () ?_ az λi _ hi hI=>?_
 .simp[UU]
 by_cases aq:i<us.length
 .have hw:=aS aq ak;have hs:=bN (p:=λu=>¬UL s n u) aq hI
  have QL:UL s n us[i]->IV.aU [iI i,iB ab]=z:=λe=>by
   rcases hz with⟨h1,_⟩|⟨j,h,h1,h2,rfl⟩
   .exact bH e (h1 _ (Z4 aq))
   .have:i=j:=by
     rcases Nat.lt_trichotomy i j with h3|h3|h3
     .exact bH e (h2 _ (TF.2 ⟨i,ak,rfl⟩))
     .exact h3
     .exact bH h1 (hI _ (TF.2 ⟨j,ak,rfl⟩))
    rw[this]
  simp[UU,aq,hw,SJ aq,aw];by_cases e1:us[i].s=s
  rotate_left
  .right;exact⟨e1,.mk () rfl ak (hs λh=>e1 h.1)⟩
  left;exists e1;by_cases e2:us[i].n=n
  rotate_left
  .right;exact⟨e2,.mk () rfl ak (hs λh=>e2 h.2)⟩
  left;exact⟨e2,QL ⟨e1,e2⟩⟩
 .have hA:=cb aq hI;simp[UU,aq];rcases hz with⟨_,rfl⟩|⟨j,h,h1,_,_⟩
  .rfl
  .exact bH h1 (hA _ (Z4 h))
def k6s(p:Pg)(s:aj UInt8)(n:Int)(us:aj Un)(ax:aj Ac)(rl e:Int)(h7:CC 7 af [bc p] (iB ab))(h15:CC 15 af [bc p] (.aU [lM us ax rl,iI e]))(h20:CC 20 af [bc p] (.aU [lM us ax rl,iI e]))(UM:ImS us ax):
 CC 6 af [bc p,iS s,iI n] (iB ab):=by
 refine CC.of auT kr kr (s7 (cz p) az az) az ?_;have h21:=k21 us ax rl UM;have ZI:=k23 us ax rl UM.ul s n;have h14:=k14;have Kg:=UM.ul;have hM:=lM.eq_1 us ax rl;rw[hM]at h15 h20 h21 ZI;simp only[bc.eq_1 p]at*
 simp[ct6,UU,aw];exists _,h7;simp;exists _,h15;simp;exists _,h20;simp;exists _,h21;simp;refine aJ us.length (λi (_:Unit)=>[iI i]) (λi _=>∀u∈us.take i,¬UL s n u) () ?_ az λi _ hi hI=>?_
 .rfl
 by_cases aq:i<us.length
 .have hw:=aS aq ak;have hs:=bN (p:=λu=>¬UL s n u) aq hI;have ZI:=λe=>ZI (.aU [iI i,iB ab]) (.inr ⟨i,aq,e,hI,rfl⟩);simp[UU,aq,hw,SJ aq,aw];by_cases e1:us[i].s=s
  rotate_left
  .right;exact⟨e1,.mk () rfl ak (hs λh=>e1 h.1)⟩
  left;exists e1;by_cases e2:us[i].n=n
  rotate_left
  .right;exact⟨e2,.mk () rfl ak (hs λh=>e2 h.2)⟩
  left;exists e2;have h0:¬(i:Int)<0:=ak;simp[Yx,h0,aZ];exists _,ZI ⟨e1,e2⟩;simp;exact⟨_,h14,az⟩
 .have hA:=cb aq hI;have ZI:=ZI (.aU [iI 0,iB af]) (.inl ⟨hA,rfl⟩);simp[UU,aq,Yx,aZ];exists _,ZI;simp;exact⟨_,h14,az⟩
def qK.ims(h:qK p):ImS (p.bU.map (ER p)) (gn p (cn p)):=by
 have UM:=h.im;refine⟨by have:=UM.ul;omega,by have:=UM.al;omega,λa ha=>by have:=(UM.a a ha).2;omega,λu hu=>⟨by have:=(UM.u u hu).l;omega,λb hb=>?_⟩⟩;obtain⟨d,_,rfl⟩:=Z6.1 hu;obtain⟨x,i,m,r,hl,hc,rfl⟩:=(h.un d).b b hb;have sE:=h.fo r (ZU hl.oc.ru);exact⟨by have:=hl.Yh (ax:=gn p (cn p));grind,hl.okI hc sE⟩
def k6(p:Pg)(hp:NmP p)(hz:∀r∈p.aX,zH r)(s:aj UInt8)(n:Int):CC 6 af [bc p,iS s,iI n] (iB ab):=by
 have⟨b7,f7,h7⟩:=e30 p hp;cases b7 with
 |false=>
  refine CC.of auT kr kr (s7 (cz p) az az) az ?_;simp only[bc.eq_1 p]at*
  simp[ct6,UU,aw];exists _,h7;simp
 |true=>
  have J7:=f7 rfl;by_cases bM:vK p
  .have h:qK p:=⟨J7,bM,hz⟩;exact k6s p s n _ _ _ 0 h7 (aEc p h) (aEh p h) h.ims
  .exact k6s p s n [] [] 0 2 h7 (aEd p J7 bM) (aEi p J7 hz bM) ⟨az,az,az,az⟩
end Go.Proofs.YtabefplkfkfdfaaGreat
namespace Go.Ev
open Go
variable{H:Type}{enc:VK×ZQ->H}
variable{w:World}
def BM{a:Addr}{n:Nat}{us:aj ZQ}(h:w.cells? 0 a n=aa us):us.length=n/\∀j,j<n->w.cell? (a.add j)=us[j]? :=by
 exact⟨by simpa using mapM_some_length h,λj hj=>mapM_some_get h j j aI⟩
def afb{b ay:Nat}{v:ZQ}(h:w.cell? ⟨b,ay,ah⟩=aa v):ti (allM w) b ay=aa v:=by
 unfold World.cell? at h;split at h
 .rename_i c e f hb
  simp_all[ti,allM]
 grind
def ak4(b ay n:Nat):(⟨b,ay,ah⟩:Addr).add n=⟨b,ay+n,ah⟩:=by
 simp_all[aLg]
def afc{sp:Nat->Bool}{held:Bool}{P:Program}{t:VK}{fs:Array Field}{cs:aj ZQ}{fuel:Nat}{x:DataW H×aj MemPlace}(ht:P.underlying t=aa (.struct fs))(h:YW enc P w 0 sp held fuel t cs=aa x):
 ∃n,fuel=n+1/\∀(i:Nat) (ty:VK) (ay k:Nat),(fs[i]?).map (λf:Field=>(f.type,f.offset))=aa (ty,ay)->P.cellsOf ty=k->∃y,YW enc P w 0 sp held n ty ((cs.drop ay).take k)=aa y:=by
 have⟨xs,n,h1,_,_,h4,h5⟩:=aKa ht h;refine⟨n,h1,λi ty ay k hi hk=>?_⟩
 grind
end Go.Ev
namespace Go.Proofs.YtabefplkfkfdfaaGreat
open Go Go.Ev
variable{H:Type}{enc:VK×ZQ->H}
noncomputable def fieldsOf(t:VK):Array Field:=match Z2.underlying t with
 |some (.struct fs)=>fs
 |_=> #[]
def avw:Z2.underlying 9=aa .string:=kr
def aAg:Z2.underlying 106=aa (.struct (fieldsOf 106)):=kr
def aAh:Z2.underlying 99=aa (.struct (fieldsOf 99)):=kr
def ano:Z2.underlying 68=aa (.slice 106):=kr
def cl3:Z2.cellsOf 3=1:=kr
def cl9:Z2.cellsOf 9=1:=kr
def ak5:Z2.cellsOf 68=1:=kr
def aEp:Z2.cellsOf 99=2:=kr
def avx:Z2.cellsOf 106=4:=kr
def bt(t i ty ay:Nat):Prop:=((fieldsOf t)[i]?).map (λf:Field=>(f.type,f.offset))=aa (ty,ay)
def aAi:bt 106 0 3 0:=by unfold bt;kernel_rfl
def aAj:bt 106 1 3 1:=by unfold bt;kernel_rfl
def aAk:bt 106 2 9 2:=by unfold bt;kernel_rfl
def aAl:bt 106 3 68 3:=by unfold bt;kernel_rfl
def aAm:bt 99 0 9 0:=by unfold bt;kernel_rfl
def aAn:bt 99 1 68 1:=by unfold bt;kernel_rfl
abbrev Rd(w:World)(c:IV)(u:ZQ):Prop:=Rv (ll (allM w)) c u
variable{held:Bool}{n fuel:Nat}{sp:Nat->Bool}{u:ZQ}{w:World}{P:Program}{t:VK}
def HS{x:DataW H×aj MemPlace}(h:YW enc Z2 w 0 sp held n 3 [u]=aa x):∃a:Int,Rd w (iI a) u:=by
 have⟨a,h1,_⟩:=DataW.trod_int SZ h;obtain rfl:=(QH h1).1;exact⟨a,.raw _⟩
def aAo{B:Type}{l:aj B}(h:l.length=4):∃a b c d,l=[a,b,c,d]:=by
 match l,h with
 |[a,b,c,d],_=>simp
def aAp{B:Type}{l:aj B}(h:l.length=6):∃a b c d e f,l=[a,b,c,d,e,f]:=by
 match l,h with
 |[a,b,c,d,e,f],_=>simp
def ah9(t:Tm):(aD (eo t)).length=4:=by rw[bL];rfl
def anp:Z2.underlying 25=aa (.struct (fieldsOf 25)):=kr
def aAq:Z2.underlying 82=aa (.struct (fieldsOf 82)):=kr
def aAr:Z2.underlying 67=aa (.struct (fieldsOf 67)):=kr
def aAs:Z2.underlying 70=aa (.struct (fieldsOf 70)):=kr
def aAt:Z2.underlying 22=aa (.slice 82):=kr
def aAu:Z2.underlying 23=aa (.slice 67):=kr
def aAv:Z2.underlying 64=aa (.slice 99):=kr
def aAw:Z2.underlying 65=aa (.slice 70):=kr
def aEq:Z2.cellsOf 22=1:=kr
def aEr:Z2.cellsOf 23=1:=kr
def avy:Z2.cellsOf 64=1:=kr
def avz:Z2.cellsOf 65=1:=kr
def aEs:Z2.cellsOf 82=2:=kr
def aEt:Z2.cellsOf 67=6:=kr
def aEu:Z2.cellsOf 70=3:=kr
def aEv:Z2.cellsOf 25=2:=kr
def aAx:bt 25 0 22 0:=by unfold bt;kernel_rfl
def aAy:bt 25 1 23 1:=by unfold bt;kernel_rfl
def aAz:bt 82 0 9 0:=by unfold bt;kernel_rfl
def aAA:bt 82 1 3 1:=by unfold bt;kernel_rfl
def aAB:bt 67 0 9 0:=by unfold bt;kernel_rfl
def aAC:bt 67 1 64 1:=by unfold bt;kernel_rfl
def aAD:bt 67 2 64 2:=by unfold bt;kernel_rfl
def aAE:bt 67 3 65 3:=by unfold bt;kernel_rfl
def aAF:bt 67 4 65 4:=by unfold bt;kernel_rfl
def aAG:bt 67 5 3 5:=by unfold bt;kernel_rfl
def aAH:bt 70 0 3 0:=by unfold bt;kernel_rfl
def aAI:bt 70 1 9 1:=by unfold bt;kernel_rfl
def aAJ:bt 70 2 68 2:=by unfold bt;kernel_rfl
def afd{B:Type}{l:aj B}(h:l.length=2):∃a b,l=[a,b]:=by
 match l,h with
 |[a,b],_=>simp
def aAK{B:Type}{l:aj B}(h:l.length=3):∃a b c,l=[a,b,c]:=by
 match l,h with
 |[a,b,c],_=>simp
def HT{x:DataW H×aj MemPlace}(h:YW enc Z2 w 0 sp held n 9 [u]=aa x):∃a:aj UInt8,Sm a/\Rd w (iS a) u:=by
 have⟨a,h1,h2⟩:=DataW.trod_string avw h;obtain rfl:=(QH h1).1;refine⟨a.data.toList,?_,?_⟩
 .simp_all[maxLen]
 .unfold iS;rw[bytes_eta];exact .raw _
def RdR(r:Rl):Prop:=pB r/\Sm r.aA/\Sm r.aC/\Sm r.aL/\Sm r.bC
def aEw(fuel:Nat)(us:aj ZQ)(x:DataW H×aj MemPlace)(h:YW enc Z2 w 0 sp held fuel 82 us=aa x)(hl:us.length=2):∃f:De,Sm f.s/\bu (ll (allM w)) (aD (uM f)) us:=by
 obtain⟨a,b,rfl⟩:=afd hl;have⟨n,hn,hf⟩:=afc aAq h;have⟨_,h0⟩:=hf 0 9 0 1 aAz cl9;have⟨_,h1⟩:=hf 1 3 1 1 aAA cl3;have⟨s,w0,r0⟩:=HT h0;have⟨k,r1⟩:=HS h1;exact⟨⟨s,k⟩,w0,bu.cons r0 (bu.cons r1 bu.nil)⟩
abbrev bk(d:DataW H):Nat:=Rows.uptoBulk d
def QV:∀{l:aj (DataW H)} {d:DataW H},d∈l->bk d<=Yg l
 |e::l,d,h=>by
  rcases ZP.1 h with h|h
  .simp_all[Yg]
  .have:=QV h;grind [Yg]
def ah_:∀(l:aj (DataW H)) (ns:aj Nat),ns.length=l.length->(∀(i:Nat) (h:i<ns.length) (h':i<l.length),ns[i]<=bk l[i])->ns.sum<=Yg l
 |[],[],_,_=>by simp
 |d::l,n::ns,h,hb=>by
  have h0:=hb 0 az az;have ih:=ah_ l ns aI λi h1 h2=>by have:=hb (i+1) aI aI;grind
  simp only[List.getElem_cons_zero]at h0;show n+ns.sum<=bk d+_;omega
def SY:∀{l:aj Nat} {n:Nat},n∈l->n<=l.sum
 |m::l,n,h=>by
  rcases ZP.1 h with h|h
  .grind
  .have:=SY h;grind
theorem O0:∀l:aj Tm,eC l=(l.map mj).sum
 |[]=>rfl
 |t::l=>by simp[eC,O0 l]
def s8{B:Type}(f:B->IV){s:Nat}(hs:0<s)(cD:∀a,(aD (f a)).length=s)(Ok:B->Prop)(I:B->Nat){e:VK}(ht:P.underlying t=aa (.slice e))(hP:P.cellsOf e=s){x:DataW H×aj MemPlace}
 (zB:∀n us x',n<fuel->YW enc P w 0 sp held n e us=aa x'->us.length=s->bk x'.1<=bk x.1->∃a,Ok a/\I a<=bk x'.1/\bu (ll (allM w)) (aD (f a)) us)
 (h:YW enc P w 0 sp held fuel t [u]=aa x):∃l:aj B,l.length<=9223372036854775807/\(∀a∈l,Ok a)/\(l.map I).sum<bk x.1/\Rv (ll (allM w)) (.tree s (l.map f)) u:=by
 rcases DataW.trod_slice ht h with⟨h1,h2⟩|⟨a,len,cap,elems,aE,n,hfu,h1,hx,_,DM,hcm,bf,bx,_,_⟩
 .obtain rfl:=(QH h1).1;refine⟨[],az,az,?_,.fL s ah 0 hs λ_=>rfl⟩;rw[h2];show 0<1;omega
 .obtain rfl:=(QH h1).1;have hbx:bk x.1=Yg (elems.map (·.1))+Yg (aE.map (·.1))+1:=by rw[hx];rfl
  by_cases px:len=0
  .subst px;exact⟨[],az,az,aI,.fL s (aa a) cap hs az⟩
  .have key:∀i:Fin len,∃p:aj ZQ×B,w.cells? 0 (a.add (i.1*s)) s=aa p.1/\Ok p.2/\I p.2<=bk (elems[i.1]'ak).1/\bu (ll (allM w)) (aD (f p.2)) p.1:=λi=>by
    have hi:=bx i.1 i.2;rw[hP]at hi;have D3:elems[i.1]?=aa (elems[i.1]'ak):=UN ak
    rw[D3]at hi;obtain⟨us,JR,G_⟩:=Option.bind_eq_some_iff.1 hi
    have hle:bk (elems[i.1]'ak).1<=bk x.1:=by
     have:=QV (l:=elems.map (·.1)) (d:=(elems[i.1]'ak).1) (Z6.2 ⟨_,Z4 ak,rfl⟩)
     omega
    obtain⟨b,dL,fq,fD⟩:=zB n us _ ak G_ (BM JR).1 hle;exact⟨(us,b),JR,dL,fq,fD⟩
   have⟨g,hg⟩:=aLr key
   have anq:a.spot=ah:=by
    have⟨M1,_,_⟩:=hg ⟨0,ak⟩;have⟨x_,jL⟩:=BM M1;have h0:=jL 0 hs;rw[UN ak]at h0;have:=World.cell?_spot h0
    simp_all[aLg]
   obtain⟨b,ay,spot⟩:=a;simp only at anq;subst anq
   have lX:∀i (hi:i<len) j,j<s->w.cell? ⟨b,ay+(i*s+j),ah⟩=(g ⟨i,hi⟩).1[j]? :=λi hi j hj=>by
    have:=(BM (hg ⟨i,hi⟩).1).2 j hj
    simp_all[ak4,Nat.add_assoc]
   refine⟨S3 λi=>(g i).2,by simp;have:maxLen=9223372036854775807:=rfl;omega,?_,?_,?_⟩
   .grind
   .rw[hbx]
    have:=ah_ (elems.map (·.1)) ((S3 λi=>(g i).2).map I) aI λi h1 h2=>by
     grind
    omega
   .have zB:((S3 λi=>(g i).2).map f).length=len:=az;have hR:=Rv.tree (Z:=ll (allM w)) s ((S3 λi=>(g i).2).map f) b ay cap (λk=>(w.cell? ⟨b,ay+k,ah⟩).getD Go.undef) hs ak ?_ ?_ ?_
    .grind
    .grind
    .intro k hk;rw[zB]at hk;have hi:k/s<len:=Nat.div_lt_of_lt_mul aI;have hj:k % s<s:=Nat.mod_lt _ hs;have hc:=lX (k/s) hi (k % s) hj;have er:k/s*s+k % s=k:=by rw[Nat.mul_comm];exact Nat.div_add_mod k s
     rw[er]at hc;have x_:=(BM (hg ⟨k/s,hi⟩).1).1;rw[UN ak]at hc;rw[afb hc,hc];rfl
    .intro i e' j c q7 hc;rw[List.getElem?_map,List.getElem?_ofFn]at q7;split at q7
     .rename_i hi;simp only[Option.map_some,ZY]at q7;subst q7;have hj:j<s:=aI;have sK:=lX i hi j hj;have x_:=(BM (hg ⟨i,hi⟩).1).1;rw[UN ak]at sK;simp only[sK];exact(hg ⟨i,hi⟩).2.2.2.2 j c _ hc (UN _)
     grind
def wx{fs:Array Field}{cs:aj ZQ}{x:DataW H×aj MemPlace}(ht:P.underlying t=aa (.struct fs))(h:YW enc P w 0 sp held fuel t cs=aa x):
 ∃n,fuel=n+1/\∀(i:Nat) (ty:VK) (ay k:Nat),(fs[i]?).map (λf:Field=>(f.type,f.offset))=aa (ty,ay)->P.cellsOf ty=k->∃y,bk y.1<bk x.1/\YW enc P w 0 sp held n ty ((cs.drop ay).take k)=aa y:=by
 have⟨xs,n,h1,hx,_,h4,h5⟩:=aKa ht h;refine⟨n,h1,λi ty ay k hi hk=>?_⟩;have⟨f,hf,hfe⟩:=Option.map_eq_some_iff.1 hi;obtain⟨rfl,rfl⟩:=hfe
 have Fc:i<xs.length:=by
  grind
 have:=h5 i f hf;rw[UN Fc,hk]at this;refine⟨_,?_,this⟩;have hb:bk x.1=Yg (xs.map (·.1))+1:=by rw[hx];rfl
 have:=QV (l:=xs.map (·.1)) (d:=xs[i].1) (Z6.2 ⟨_,Z4 Fc,rfl⟩);omega
def aEx:∀(fuel:Nat) (us:aj ZQ) (x:DataW H×aj MemPlace),YW enc Z2 w 0 sp held fuel 106 us=aa x->us.length=4->∃t:Tm,oM t/\mj t<=bk x.1/\bu (ll (allM w)) (aD (eo t)) us:=by
 intro fuel;induction fuel using Nat.strongRecOn with
 |ind fuel ih=>
  intro us x h hl;obtain⟨a,b,c,d,rfl⟩:=aAo hl;have⟨n,hn,hf⟩:=wx aAg h;have⟨_,_,h0⟩:=hf 0 3 0 1 aAi cl3;have⟨_,_,h1⟩:=hf 1 3 1 1 aAj cl3;have⟨_,_,h2⟩:=hf 2 9 2 1 aAk cl9;have⟨y,hy,h3⟩:=hf 3 68 3 1 aAl ak5;have⟨k,r0⟩:=HS h0;have⟨m,r1⟩:=HS h1;have⟨s,w2,r2⟩:=HT h2;have⟨ts,hs,hw,hb,r3⟩:=s8 (w:=w) eo (s:=4) ak ah9 oM mj ano avx (λn' xF x' mD oF dq _=>ih n' ak xF x' oF dq) h3;refine⟨.mk k m s ts,?_,?_,?_⟩
  .rw[rB];exact⟨w2,hs,hw⟩
  .grind [O0,mj]
  .rw[Ag];exact bu.cons r0 (bu.cons r1 (bu.cons r2 (bu.cons r3 bu.nil)))
def anr{x:DataW H×aj MemPlace}(h:YW enc Z2 w 0 sp held n 68 [u]=aa x):∃l:aj Tm,Sm l/\(∀f∈l,oM f)/\eC l<=bk x.1/\Rd w (iT l) u:=by
 have⟨l,h1,h2,h3,h4⟩:=s8 (w:=w) eo (s:=4) ak ah9 oM mj ano avx (λn' xF x' _ oF dq _=>aEx n' xF x' oF dq) h
 grind [O0]
abbrev ZA(a:At):Nat:=eC a.ts
abbrev ZG(a:Gl):Nat:=eC a.ts
def aEy(fuel:Nat)(us:aj ZQ)(x:DataW H×aj MemPlace)(h:YW enc Z2 w 0 sp held fuel 99 us=aa x)(hl:us.length=2):∃f:At,vI f/\ZA f<=bk x.1/\bu (ll (allM w)) (aD (c_ f)) us:=by
 obtain⟨a,b,rfl⟩:=afd hl;have⟨n,hn,hf⟩:=wx aAh h;have⟨_,_,h0⟩:=hf 0 9 0 1 aAm cl9;have⟨_,hy,h1⟩:=hf 1 68 1 1 aAn ak5;have⟨s,w0,r0⟩:=HT h0;have⟨ts,w1,v1,z1,r1⟩:=anr h1;exact⟨⟨s,ts⟩,⟨w0,w1,v1⟩,aI,bu.cons r0 (bu.cons r1 bu.nil)⟩
def ans{x:DataW H×aj MemPlace}(h:YW enc Z2 w 0 sp held n 64 [u]=aa x):∃l:aj At,Sm l/\(∀f∈l,vI f/\ZA f<=bk x.1)/\Rd w (db l) u:=by
 obtain⟨l,h1,h2,h3,h4⟩:=s8 (w:=w) c_ (s:=2) ak (λ_=>rfl) vI ZA aAv aEp (λn' xF x' _ oF dq _=>aEy n' xF x' oF dq) h;exact⟨l,h1,λf hf=>⟨h2 f hf,by have:=SY (Z6.2 ⟨f,hf,rfl⟩:ZA f∈l.map ZA);omega⟩,h4⟩
def aEz(fuel:Nat)(us:aj ZQ)(x:DataW H×aj MemPlace)(h:YW enc Z2 w 0 sp held fuel 70 us=aa x)(hl:us.length=3):∃f:Gl,tR f/\ZG f<=bk x.1/\bu (ll (allM w)) (aD (il f)) us:=by
 obtain⟨a,b,c,rfl⟩:=aAK hl;have⟨n,hn,hf⟩:=wx aAs h;have⟨_,_,h0⟩:=hf 0 3 0 1 aAH cl3;have⟨_,_,h1⟩:=hf 1 9 1 1 aAI cl9;have⟨_,hy,h2⟩:=hf 2 68 2 1 aAJ ak5;have⟨op,r0⟩:=HS h0;have⟨s,w1,r1⟩:=HT h1;have⟨ts,w2,v2,z2,r2⟩:=anr h2;exact⟨⟨op,s,ts⟩,⟨w1,w2,v2⟩,aI,bu.cons r0 (bu.cons r1 (bu.cons r2 bu.nil))⟩
def ant{x:DataW H×aj MemPlace}(h:YW enc Z2 w 0 sp held n 65 [u]=aa x):∃l:aj Gl,Sm l/\(∀f∈l,tR f/\ZG f<=bk x.1)/\Rd w (gw l) u:=by
 obtain⟨l,h1,h2,h3,h4⟩:=s8 (w:=w) il (s:=3) ak (λ_=>rfl) tR ZG aAw aEu (λn' xF x' _ oF dq _=>aEz n' xF x' oF dq) h;exact⟨l,h1,λf hf=>⟨h2 f hf,by have:=SY (Z6.2 ⟨f,hf,rfl⟩:ZG f∈l.map ZG);omega⟩,h4⟩
def BdR(α:Nat)(r:Rl):Prop:=(∀a∈r.aA++r.aC,eC a.ts<=α)/\∀a∈r.aL++r.bC,eC a.ts<=α
def aEA(fuel:Nat)(us:aj ZQ)(x:DataW H×aj MemPlace)(h:YW enc Z2 w 0 sp held fuel 67 us=aa x)(hl:us.length=6):∃f:Rl,(RdR f/\BdR (bk x.1) f)/\bu (ll (allM w)) (aD (cy f)) us:=by
 obtain⟨a,b,c,d,e,f,rfl⟩:=aAp hl;have⟨n,hn,hf⟩:=wx aAr h;have⟨_,_,h0⟩:=hf 0 9 0 1 aAB cl9;have⟨_,y1,h1⟩:=hf 1 64 1 1 aAC avy;have⟨_,y2,h2⟩:=hf 2 64 2 1 aAD avy;have⟨_,y3,h3⟩:=hf 3 65 3 1 aAE avz;have⟨_,y4,h4⟩:=hf 4 65 4 1 aAF avz;have⟨_,_,h5⟩:=hf 5 3 5 1 aAG cl3;have⟨s,w0,r0⟩:=HT h0;have⟨keep,w1,v1,r1⟩:=ans h1;have⟨rem,w2,v2,r2⟩:=ans h2;have⟨guard,w3,v3,r3⟩:=ant h3;have⟨body,w4,v4,r4⟩:=ant h4;have⟨vars,r5⟩:=HS h5;refine⟨⟨s,keep,rem,guard,body,vars⟩,⟨⟨⟨w0,λa ha=>?_,λa ha=>?_⟩,w1,w2,w3,w4⟩,λa ha=>?_,λa ha=>?_⟩,bu.cons r0 (bu.cons r1 (bu.cons r2 (bu.cons r3 (bu.cons r4 (bu.cons r5 bu.nil)))))⟩
 .grind
 all_goals grind
def BdR.mono{α B':Nat}{r:Rl}(h:BdR α r)(hb:α<=B'):BdR B' r:=⟨λa ha=>YE (h.1 a ha) hb,λa ha=>YE (h.2 a ha) hb⟩
def aAL{us:aj ZQ}{x:DataW H×aj MemPlace}(h:YW enc Z2 w 0 sp held fuel 25 us=aa x)(hl:us.length=2):∃p:Pg,NmP p/\(∀r∈p.aX,BdR (bk x.1) r)/\Rd w (bc p) (.agg us.toArray):=by
 obtain⟨a,b,rfl⟩:=afd hl;have⟨n,hn,hf⟩:=wx anp h;have⟨_,_,h0⟩:=hf 0 22 0 1 aAx aEq;have⟨y,hy,h1⟩:=hf 1 23 1 1 aAy aEr;obtain⟨ds,w0,v0,_,r0⟩:=s8 (w:=w) uM (s:=2) ak (λ_=>rfl) (λd=>Sm d.s) (λ_=>0) aAt aEs (λn' xF x' _ oF dq _=>by have⟨a,h1,h2⟩:=aEw n' xF x' oF dq;exact⟨a,h1,UT _,h2⟩) h0
 obtain⟨rs,w1,v1,_,r1⟩:=s8 (w:=w) cy (s:=6) ak (λ_=>rfl) (λr=>RdR r/\BdR (bk y.1) r) (λ_=>0) aAu aEt (λn' xF x' _ oF dq hb=>by
  have⟨r,hr,hv⟩:=aEA n' xF x' oF dq;exact⟨r,⟨hr.1,hr.2.mono hb⟩,UT _,hv⟩) h1
 exists ⟨ds,rs⟩,⟨w0,w1,v0,λr hr=>(v1 r hr).1⟩,λr hr=>(v1 r hr).2.mono ak;have hR:=bu.cons r0 (bu.cons r1 bu.nil);exact Rv.agg _ _ hR.1 hR.2
end Go.Proofs.YtabefplkfkfdfaaGreat
namespace Go.Proofs.YtabefplkfkfdfaaGreat
open Go Go.ChangeShapes Go.WideShapes Go.ChangeAt Go.RowKit
open Go.Ev (aj bH aY kx kr)
theorem own:ownKnob Z2.godebug=ah:=kx
theorem laidOut:laidOutB Z2=ab:=kx
variable{W:World}
theorem apV{f:FuncId}{xs:aj Ev.IV}{us:aj ZQ}{W:World}(hf:f<Z2.funcs.size)(h:CC f af xs (Ev.iB ab))(hr:Ev.bu (Ev.ll (Ev.allM W)) xs us):
 Calls Z2 f us.toArray W λe W'=>e=.returned (.bool ab)/\Below W.heap.size W W':=by
 refine callsIn_wide.1 (((h.1 hf).1 (Ev.allM W) W us Ev.Re hr).mono λe W' hR=>?_);cases e with
 |returned u=>
  obtain⟨_,M',_,_,_,h4,h5,h6,h7,h8,h9⟩:=hR
  have hu:u=.bool ab:=by
   generalize hx:Ev.IV.raw (.bool ab)=x at h4;cases h4<;>first|(cases hx;rfl)|cases hx
  rw[hu];exact⟨rfl,h5,h6,h7,h8,h9⟩
 |panicked ch=>exact bH hR.1 (by simp)
 |outgrown=>exact hR.elim
variable{before:aj MemPlace}
theorem afe{H:Type}{enc:VK×ZQ->H}{P:Program}{f:Func}{s:ChangeSpec}{apart fresh handsOn:Bool}{W W':World}{av:Array ZQ}{v:ZQ}{ds gs:aj (DataW H)}{before pa pv:aj MemPlace}
 (hW:DataW.Whole enc P f.params.toList s.vars apart W av.toList ds gs before)
 (nK:∀(b:Nat) (sp:Nat->Bool) (hd:Bool),aJA enc P W' b sp hd f.resultTypes.toList (v.resultList f.resultTypes.size) (s.fn H (ds++gs)).results [])
 (cj:∀sp:Nat->Bool,(∀p∈before,sp p.block=ab)->aJA enc P W' 0 sp ab f.params.toList av.toList (s.fn H (ds++gs)).args pa)
 (aAM:∀sp:Nat->Bool,(∀p∈before,sp p.block=ab)->DataW.TrodVars enc P W' sp s.vars (s.fn H (ds++gs)).vars pv)
 (nf:before=pa++pv)(hk:W.keptBut W' (·∈before)):s.post enc P f apart fresh handsOn af W av v W':=by
 have hold:∀p∈before,(λb=>decide (b<W.heap.size)) p.block=ab:=λp hp=>by simpa using hW.lt p hp
 refine⟨ds,gs,before,[],pa,pv,hW,nK _ _ _,cj _ hold,aAM _ hold,World.keptBut_mono (λp hp=>⟨hp,?_⟩) hk,λh=>by cases h⟩;rw[nf,ZV]at hp;exact Or.inr hp
theorem aia:Z2.readableRec 9=ab:=kx
theorem avA:9<Z2.types.size:=of_decide_eq_true kx
theorem aib:Z2.readableRec 3=ab:=kx
theorem avB:3<Z2.types.size:=of_decide_eq_true kx
theorem aff:Z2.readableRec 25=ab:=kx
theorem apW:25<Z2.types.size:=of_decide_eq_true kx
theorem avC:6<Z2.funcs.size:=of_decide_eq_true kx
set_option maxHeartbeats 8000000 in
set_option maxRecDepth 100000 in
theorem apX(os:Os)(started:os.Started)(H:Type)(enc:VK×ZQ->H)(F:Stop.Interp):
 ReturnsInHanded {} aJL os 6 .any ((E3 ZE).pre6 enc Z2 Pm [] af) (((E3 ZE).at F).post enc Z2 Pm af ab af af):=by
 refine returnsInHanded_of_cond (C:=aJL) (s:=E3 ZE) (k:=aKP) rfl own started kx aLd
  (OpenSpec.witness (s:=E3 ZE) (k:=aKP) rfl (enc:=enc) (C:=aJL) af ⟨#[], #[.agg #[.slice ah 0 0,.slice ah 0 0],.string ⟨#[]⟩,.int .i64 0],[]⟩ 8 kx kx kx
   (x:=([.agg [.nil,.nil],.lit (.string []),.lit (.int .i64 0)],[],[])) kx kx kx kx) ?_
 intro W base av ds gs before anu hW _ iR _;have ZJ:∀(j:Nat) t v,Pm.params[j]?=aa t->av[j]?=aa v->Value.okWide Z2 W .any base t v:=anu;have hW':=hW;obtain⟨p,q,hA0,hV,rfl,hfz,nj⟩:=hW;have hA:aJA enc Z2 W 0 (λ_=>ab) ab Pm.params.toList av.toList ds p:=hA0;rw[Tryz.params6]at hA ZJ;obtain⟨v0,v1,v2,d0,d1,d2,p0,p1,p2,rfl,rfl,rfl,h0,h1,h2⟩:=trodAll_three hA;obtain⟨rfl,rfl⟩:=trodVars_none hV
 have avD:Yg [d0,d1,d2]<=1048576:=by
  have lO:decide (Yg ([d0,d1,d2]++[])<=1048576)=ab:=iR;simpa using lO
 have hb0:bk d0<=1048576:=YE (QV (by simp)) avD;obtain⟨cs,rfl,cd⟩:=okWide_struct anp (ZJ 0 25 v0 rfl rfl);obtain⟨sv,rfl⟩:=okWide_string avw (ZJ 1 9 v1 rfl rfl);obtain⟨nv,rfl⟩:=okWide_int (k:=.i64) kr (ZJ 2 3 v2 rfl rfl);have h0k:=h0;have h1k:=h1;have h2k:=h2;obtain⟨fu,h0⟩:=h0;obtain⟨fu1,h1⟩:=h1;obtain⟨fu2,h2⟩:=h2;have kW:cs.toList.length=2:=by rw[Array.length_toList,cd,aEv]
 obtain⟨pg,hpg,Ut,r0⟩:=aAL h0 kW;obtain⟨s,_,r1⟩:=HT h1;obtain⟨n,r2⟩:=HS h2
 have rr:Ev.bu (Ev.ll (Ev.allM W)) [bc pg,Ev.iS s,Ev.iI n] [.agg cs,.string sv,.int .i64 nv]:=by
  have e0:(Value.agg cs.toList.toArray)=.agg cs:=by simp
  rw[<-e0];exact Ev.bu.cons r0 (Ev.bu.cons r1 (Ev.bu.cons r2 Ev.bu.nil))
 have J7:∀r∈pg.aX,zH r:=λr hr=>⟨λa ha=>by have:=(Ut r hr).1 a ha;simp only at this;omega,λa ha=>by have:=(Ut r hr).2 a ha;simp only at this;omega⟩;clear hA0 anu ZJ hA;simp only[Z_]at hW';refine(apV avC (k6 pg hpg J7 s n) rr).mono λe W' ⟨he,hb⟩=>?_;subst he;have aq:∀x∈p0++(p1++p2),x.block<W.heap.size:=λx hx=>hW'.lt x (by simpa using hx);have vR:∀x∈p0,x.block<W.heap.size:=λx hx=>aq x (by simp[hx]);have nL:∀x∈p1,x.block<W.heap.size:=λx hx=>aq x (by simp[hx]);have cR:∀x∈p2,x.block<W.heap.size:=λx hx=>aq x (by simp[hx])
 exact⟨_,rfl,afe (s:=(E3 ZE).at F) (pa:=p0++(p1++p2)) (pv:=[]) hW' (λ_ _ _=>trodAll_mk1 (shut_bool X8 _))
  (λsp J7=>trodAll_mk3 (aIJ laidOut aff apW h0k (λx hx=>hb.same (vR x hx)) (λx hx=>J7 x (by simp[hx]))) (aIJ laidOut aia avA h1k (λx hx=>hb.same (nL x hx)) (λx hx=>J7 x (by simp[hx]))) (aIJ laidOut aib avB h2k (λx hx=>hb.same (cR x hx)) (λx hx=>J7 x (by simp[hx]))))
  (λ_ _=>rfl) (by simp) (hb.frame _)⟩
theorem avE:Ns.checked.prog.funcNamed UE.func=aa 6:=kr
set_option maxHeartbeats 8000000 in
def apY:joinedFacts Ns.checked.prog 6 Pm (E3 ZE).bare UE=ab:=by
 simp only[joinedFacts,Bool.and_eq_true]
 repeat' apply And.intro
 all_goals (as_aux_lemma=>kernel_rfl)
theorem aAN:Pm.isInstance Ns.checked.prog UE.origin UE.targs:=of_decide_eq_true kr
theorem aAO:Pm.isWrapper Ns.checked.prog UE.wrapper UE.mainSum:=by
 unfold Func.isWrapper;rw[aY (by decide+kernel)];exact⟨rfl,rfl⟩
set_option maxHeartbeats 8000000 in
theorem compileImages_holds:Rows.CompileImagesUptoSaid:=
 aLs 6 Pm rfl rfl rfl rfl rfl rfl rfl ⟨rfl,rfl,rfl,rfl,rfl⟩ rfl rfl rfl rfl rfl avE aLd apY aAN aAO
  (λos started H enc _ F=>apX os started H enc F)
end Go.Proofs.YtabefplkfkfdfaaGreat

