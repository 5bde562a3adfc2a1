/- AuditMemories in the words of its row: whatever the input, true, and the arguments read as they did. The conditions of the row alone. -/
import Derived.Test.YtpfogalbnijcoaaGreatMa
import Derived.Test.YtpfogalbnijcoaaGreatRgR
import Derived.Test.YtpfogalbnijcoaaGreatRows
import Derived.Test.YtpfogalbnijcoaaGreatRuV
import Derived.JoinedCond
open Go.Proofs.YtpfogalbnijcoaaGreat.Rows renaming uptoBulkAll->atj,auditMemoriesSpec->atY,uptoSmall->aw_
open List renaming mem_cons->asS,getElem?_eq_getElem->ar2,mem_map->asv,getElem_mem->ar5,ofFn->avc,mem_append->asn
open Go.DataW renaming trod->asY
open List.cons renaming inj->auG
open Classical renaming axiomOfChoice->axJ
open Nat renaming mul_comm->awr,le_trans->asq
open Option.some renaming injEq->ar6
open Go.Proofs.Tryz renaming prog->ar1,checked->av7,f3->avB
open Go.Proofs.YtpfogalbnijcoaaGreat.Rows.OpenSpec renaming upto->atX
open Array renaming length_toList->au9
open Go.Value renaming agg->axM
open Go.WideElems renaming Trod_stays->avW
open Option renaming some->aa,none->ah
open Bool renaming true->ab,false->af
set_option linter.all false
namespace Go.Proofs.YtpfogalbnijcoaaGreat
open Go Go.Ev
variable{H:Type}{enc:TypeId×Value->H}{w:World}{sp:Nat->Bool}{held:Bool}
abbrev bk(d:DataW H):Nat:=Rows.uptoBulk d
theorem Ff:∀{l:List (DataW H)} {d:DataW H},d∈l->bk d<=atj l
 |e::l,d,h=>by
  rcases asS.1 h with h|h
  ·subst h;simp only[atj];show bk d<=bk d+_;omega
  ·have:=Ff h;simp only[atj];omega
theorem aas:∀(l:List (DataW H)) (ns:List Nat),ns.length=l.length->(∀(i:Nat) (h:i<ns.length) (h':i<l.length),ns[i]<=bk l[i])->ns.sum<=atj l
 |[],[],_,_=>by simp
 |d::l,n::ns,h,hb=>by
  have h0:=hb 0 (by simp) (by simp);have ih:=aas l ns (by simpa using h) λi h1 h2=>by have:=hb (i+1) (by simpa using h1) (by simpa using h2);simpa using this
  simp only[List.sum_cons,atj];simp only[List.getElem_cons_zero]at h0;show n+ns.sum<=bk d+_;omega
theorem Gh:∀{l:List Nat} {n:Nat},n∈l->n<=l.sum
 |m::l,n,h=>by
  rcases asS.1 h with h|h
  ·subst h;simp
  ·have:=Gh h;simp;omega
theorem H2:∀l:List Tm,cu l=(l.map jy).sum
 |[]=>rfl
 |t::l=>by simp[cu,H2 l]
theorem oB{P:Program}{α:Type}(f:α->IV){s:Nat}(hs:0<s)(bH:∀a,(cellsOf (f a)).length=s)(Ok:α->Prop)(μ:α->Nat){t e:TypeId}(ht:P.underlying t=aa (.slice e))(hP:P.cellsOf e=s){fuel:Nat}{u:Value}{x:DataW H×List MemPlace}
 (oc:∀n us x',n<fuel->asY enc P w 0 sp held n e us=aa x'->us.length=s->bk x'.1<=bk x.1->∃a,Ok a/\μ a<=bk x'.1/\aC (ew (allM w)) (cellsOf (f a)) us)
 (h:asY enc P w 0 sp held fuel t [u]=aa x):∃l:List α,l.length<=9223372036854775807/\(∀a∈l,Ok a)/\(l.map μ).sum<bk x.1/\Rv (ew (allM w)) (.tree s (l.map f)) u:=by
 rcases DataW.trod_slice ht h with⟨h1,h2⟩|⟨a,len,cap,elems,rest,n,hfu,h1,hx,_,lD,hcm,hlen,aE,_,_⟩
 ·obtain rfl:=(auG h1).1;refine⟨[],by simp,by simp,?_,.dS s ah 0 hs (λ_=>rfl)⟩;rw[h2];show 0<1;omega
 ·obtain rfl:=(auG h1).1;have hbx:bk x.1=atj (elems.map (·.1))+atj (rest.map (·.1))+1:=by rw[hx];rfl
  by_cases jn:len=0
  ·subst jn;exact⟨[],by simp,by simp,by rw[hbx];simp,.dS s (aa a) cap hs (by simp)⟩
  ·have key:∀i:Fin len,∃p:List Value×α,w.cells? 0 (a.add (i.1*s)) s=aa p.1/\Ok p.2/\μ p.2<=bk (elems[i.1]'(by have:=i.2;omega)).1/\aC (ew (allM w)) (cellsOf (f p.2)) p.1:=λi=>by
    have hi:=aE i.1 i.2;rw[hP]at hi;have uu:elems[i.1]?=aa (elems[i.1]'(by have:=i.2;omega)):=ar2 (by have:=i.2;omega)
    rw[uu]at hi;obtain⟨us,x_,q0⟩:=Option.bind_eq_some_iff.1 hi
    have hle:bk (elems[i.1]'(by have:=i.2;omega)).1<=bk x.1:=by
     have:=Ff (l:=elems.map (·.1)) (d:=(elems[i.1]'(by have:=i.2;omega)).1) (asv.2 ⟨_,ar5 (by have:=i.2;omega),rfl⟩)
     rw[hbx];omega
    obtain⟨b,cI,d_,fg⟩:=oc n us _ (by omega) q0 (kC x_).1 hle;exact⟨(us,b),x_,cI,d_,fg⟩
   obtain⟨g,hg⟩:=axJ key
   have Jo:a.spot=ah:=by
    obtain⟨pj,_,_⟩:=hg ⟨0,by omega⟩;obtain⟨qY,eR⟩:=kC pj;have h0:=eR 0 hs;rw[ar2 (by omega)]at h0;have:=World.cell?_spot h0;simpa[Addr.add]using this
   obtain⟨b,off,spot⟩:=a;simp only at Jo;subst Jo
   have gZ:∀i (hi:i<len) j,j<s->w.cell? ⟨b,off+(i*s+j),ah⟩=(g ⟨i,hi⟩).1[j]? :=λi hi j hj=>by
    have:=(kC (hg ⟨i,hi⟩).1).2 j hj;rw[CH,CH]at this;rw[<-Nat.add_assoc];exact this
   refine⟨avc λi=>(g i).2,by simp;have:maxLen=9223372036854775807:=rfl;omega,?_,?_,?_⟩
   ·intro c hc;obtain⟨i,rfl⟩:=(List.mem_ofFn (f:=λi=>(g i).2)).1 hc;exact(hg i).2.1
   ·rw[hbx]
    have:=aas (elems.map (·.1)) ((avc λi=>(g i).2).map μ) (by simp[hlen]) λi h1 h2=>by
     have hi:i<len:=by simpa using h1
     have:=(hg ⟨i,hi⟩).2.2.1;simpa using this
    omega
   ·have oc:((avc λi=>(g i).2).map f).length=len:=by simp
    have hR:=Rv.tree (ι:=ew (allM w)) s ((avc λi=>(g i).2).map f) b off cap (λk=>(w.cell? ⟨b,off+k,ah⟩).getD Go.undef) hs (by rw[oc];exact lD) ?_ ?_ ?_
    ·rw[oc]at hR;exact hR
    ·intro e' gV;obtain⟨c,_,rfl⟩:=asv.1 gV;exact bH c
    ·intro k hk;rw[oc]at hk;have hi:k/s<len:=Nat.div_lt_of_lt_mul (by rw[awr];exact hk);have hj:k % s<s:=Nat.mod_lt _ hs;have hc:=gZ (k/s) hi (k % s) hj;have cC:k/s*s+k % s=k:=by rw[awr];exact Nat.div_add_mod k s
     rw[cC]at hc;have qY:=(kC (hg ⟨k/s,hi⟩).1).1;rw[ar2 (by omega)]at hc;rw[Jn hc,hc];rfl
    ·intro i e' j c gV hc;rw[List.getElem?_map,List.getElem?_ofFn]at gV;split at gV
     ·rename_i hi;simp only[Option.map_some,ar6]at gV;subst gV;have hj:j<s:=by have:=(List.getElem?_eq_some_iff.1 hc).1;rw[bH]at this;exact this
      have kK:=gZ i hi j hj;have qY:=(kC (hg ⟨i,hi⟩).1).1;rw[ar2 (by omega)]at kK;simp only[kK,Option.getD_some];exact(hg ⟨i,hi⟩).2.2.2.2 j c _ hc (ar2 _)
     ·simp at gV
theorem kD{P:Program}{t:TypeId}{fs:Array Field}{cs:List Value}{fuel:Nat}{x:DataW H×List MemPlace}(ht:P.underlying t=aa (.struct fs))(h:asY enc P w 0 sp held fuel t cs=aa x):
 ∃n,fuel=n+1/\∀(i:Nat) (ty:TypeId) (off k:Nat),(fs[i]?).map (λf:Field=>(f.type,f.offset))=aa (ty,off)->P.cellsOf ty=k->∃y,bk y.1<bk x.1/\asY enc P w 0 sp held n ty ((cs.drop off).take k)=aa y:=by
 obtain⟨xs,n,h1,hx,_,h4,h5⟩:=DataW.trod_struct ht h;refine⟨n,h1,λi ty off k hi hk=>?_⟩;obtain⟨f,hf,Og⟩:=Option.map_eq_some_iff.1 hi;simp only[Prod.mk.injEq]at Og;obtain⟨rfl,rfl⟩:=Og
 have yb:i<xs.length:=by
  rw[h4];exact(Array.getElem?_eq_some_iff.1 hf).1
 have:=h5 i f hf;rw[ar2 yb,hk]at this;refine⟨_,?_,this⟩;have hb:bk x.1=atj (xs.map (·.1))+1:=by rw[hx];rfl
 have:=Ff (l:=xs.map (·.1)) (d:=xs[i].1) (asv.2 ⟨_,ar5 yb,rfl⟩);rw[hb];omega
theorem aqP:∀(fuel:Nat) (us:List Value) (x:DataW H×List MemPlace),asY enc ar1 w 0 sp held fuel 51 us=aa x->us.length=4->∃t:Tm,og t/\jy t<=bk x.1/\aC (ew (allM w)) (cellsOf (dH t)) us:=by
 intro fuel;induction fuel using Nat.strongRecOn with
 |ind fuel ih=>
  intro us x h hl;obtain⟨a,b,c,d,rfl⟩:=adb hl;obtain⟨n,hn,hf⟩:=kD akm h;obtain⟨_,_,h0⟩:=hf 0 3 0 1 aks GR;obtain⟨_,_,h1⟩:=hf 1 3 1 1 akt GR;obtain⟨_,_,h2⟩:=hf 2 9 2 1 aku Y3;obtain⟨y,hy,h3⟩:=hf 3 49 3 1 akv abZ;obtain⟨k,r0⟩:=re h0;obtain⟨m,r1⟩:=re h1;obtain⟨s,w2,r2⟩:=EL h2;obtain⟨ts,hs,hw,hb,r3⟩:=oB (w:=w) dH (s:=4) (by omega) Y4 og jy ada agU (λn' ph x' C6 il cq _=>ih n' (by omega) ph x' il cq) h3;refine⟨.mk k m s ts,?_,?_,?_⟩
  ·rw[mR];exact⟨w2,hs,hw⟩
  ·rw[<-H2]at hb;simp only[jy];split<;>omega
  ·rw[uR];exact aC.cons r0 (aC.cons r1 (aC.cons r2 (aC.cons r3 aC.nil)))
theorem ad1{n:Nat}{u:Value}{x:DataW H×List MemPlace}(h:asY enc ar1 w 0 sp held n 49 [u]=aa x):∃l:List Tm,Sm l/\(∀f∈l,og f)/\cu l<=bk x.1/\Rd w (iT l) u:=by
 obtain⟨l,h1,h2,h3,h4⟩:=oB (w:=w) dH (s:=4) (by omega) Y4 og jy ada agU (λn' ph x' _ il cq _=>aqP n' ph x' il cq) h;exact⟨l,h1,h2,by rw[H2];omega,h4⟩
abbrev ZA(a:At):Nat:=cu a.ts
abbrev ZG(a:Gl):Nat:=cu a.ts
theorem ai4(fuel:Nat)(us:List Value)(x:DataW H×List MemPlace)(h:asY enc ar1 w 0 sp held fuel 55 us=aa x)(hl:us.length=2):∃f:At,sL f/\ZA f<=bk x.1/\aC (ew (allM w)) (cellsOf (CJ f)) us:=by
 obtain⟨a,b,rfl⟩:=WU hl;obtain⟨n,hn,hf⟩:=kD ac_ h;obtain⟨_,_,h0⟩:=hf 0 9 0 1 akw Y3;obtain⟨_,hy,h1⟩:=hf 1 49 1 1 akx abZ;obtain⟨s,w0,r0⟩:=EL h0;obtain⟨ts,w1,v1,z1,r1⟩:=ad1 h1;exact⟨⟨s,ts⟩,⟨w0,w1,v1⟩,by show cu ts<=_;omega,aC.cons r0 (aC.cons r1 aC.nil)⟩
theorem ad2{n:Nat}{u:Value}{x:DataW H×List MemPlace}(h:asY enc ar1 w 0 sp held n 43 [u]=aa x):∃l:List At,Sm l/\(∀f∈l,sL f/\ZA f<=bk x.1)/\Rd w (nf l) u:=by
 obtain⟨l,h1,h2,h3,h4⟩:=oB (w:=w) CJ (s:=2) (by omega) (λ_=>rfl) sL ZA alE agT (λn' ph x' _ il cq _=>ai4 n' ph x' il cq) h;exact⟨l,h1,λf hf=>⟨h2 f hf,by have:=Gh (asv.2 ⟨f,hf,rfl⟩:ZA f∈l.map ZA);omega⟩,h4⟩
theorem aqQ(fuel:Nat)(us:List Value)(x:DataW H×List MemPlace)(h:asY enc ar1 w 0 sp held fuel 82 us=aa x)(hl:us.length=3):∃f:Gl,sM f/\ZG f<=bk x.1/\aC (ew (allM w)) (cellsOf (HK f)) us:=by
 obtain⟨a,b,c,rfl⟩:=alT hl;obtain⟨n,hn,hf⟩:=kD alB h;obtain⟨_,_,h0⟩:=hf 0 3 0 1 alQ GR;obtain⟨_,_,h1⟩:=hf 1 9 1 1 alR Y3;obtain⟨_,hy,h2⟩:=hf 2 49 2 1 alS abZ;obtain⟨op,r0⟩:=re h0;obtain⟨s,w1,r1⟩:=EL h1;obtain⟨ts,w2,v2,z2,r2⟩:=ad1 h2;exact⟨⟨op,s,ts⟩,⟨w1,w2,v2⟩,by show cu ts<=_;omega,aC.cons r0 (aC.cons r1 (aC.cons r2 aC.nil))⟩
theorem ad3{n:Nat}{u:Value}{x:DataW H×List MemPlace}(h:asY enc ar1 w 0 sp held n 44 [u]=aa x):∃l:List Gl,Sm l/\(∀f∈l,sM f/\ZG f<=bk x.1)/\Rd w (rf l) u:=by
 obtain⟨l,h1,h2,h3,h4⟩:=oB (w:=w) HK (s:=3) (by omega) (λ_=>rfl) sM ZG alF apG (λn' ph x' _ il cq _=>aqQ n' ph x' il cq) h;exact⟨l,h1,λf hf=>⟨h2 f hf,by have:=Gh (asv.2 ⟨f,hf,rfl⟩:ZG f∈l.map ZG);omega⟩,h4⟩
def U5(B:Nat)(r:Rl):Prop:=(∀a∈r.keep++r.remove,cu a.ts<=B)/\∀a∈r.guard++r.body,cu a.ts<=B
theorem aqR(fuel:Nat)(us:List Value)(x:DataW H×List MemPlace)(h:asY enc ar1 w 0 sp held fuel 46 us=aa x)(hl:us.length=6):∃f:Rl,(RdR f/\U5 (bk x.1) f)/\aC (ew (allM w)) (cellsOf (gO f)) us:=by
 obtain⟨a,b,c,d,e,f,rfl⟩:=ade hl;obtain⟨n,hn,hf⟩:=kD alA h;obtain⟨_,_,h0⟩:=hf 0 9 0 1 alK Y3;obtain⟨_,y1,h1⟩:=hf 1 43 1 1 alL ahw;obtain⟨_,y2,h2⟩:=hf 2 43 2 1 alM ahw;obtain⟨_,y3,h3⟩:=hf 3 44 3 1 alN ahx;obtain⟨_,y4,h4⟩:=hf 4 44 4 1 alO ahx;obtain⟨_,_,h5⟩:=hf 5 3 5 1 alP GR;obtain⟨s,w0,r0⟩:=EL h0;obtain⟨keep,w1,v1,r1⟩:=ad2 h1;obtain⟨rem,w2,v2,r2⟩:=ad2 h2;obtain⟨guard,w3,v3,r3⟩:=ad3 h3;obtain⟨body,w4,v4,r4⟩:=ad3 h4;obtain⟨vars,r5⟩:=re h5;refine⟨⟨s,keep,rem,guard,body,vars⟩,⟨⟨⟨w0,λa ha=>?_,λa ha=>?_⟩,w1,w2,w3,w4⟩,λa ha=>?_,λa ha=>?_⟩,aC.cons r0 (aC.cons r1 (aC.cons r2 (aC.cons r3 (aC.cons r4 (aC.cons r5 aC.nil)))))⟩
 ·rcases asn.1 ha with ha|ha
  ·exact(v1 a ha).1
  ·exact(v2 a ha).1
 ·rcases asn.1 ha with ha|ha
  ·exact(v3 a ha).1
  ·exact(v4 a ha).1
 ·rcases asn.1 ha with ha|ha
  ·have:cu a.ts<=_:=(v1 a ha).2;omega
  ·have:cu a.ts<=_:=(v2 a ha).2;omega
 ·rcases asn.1 ha with ha|ha
  ·have:cu a.ts<=_:=(v3 a ha).2;omega
  ·have:cu a.ts<=_:=(v4 a ha).2;omega
theorem U5.mono{B B':Nat}{r:Rl}(h:U5 B r)(hb:B<=B'):U5 B' r:=⟨λa ha=>asq (h.1 a ha) hb,λa ha=>asq (h.2 a ha) hb⟩
theorem ang{fuel:Nat}{us:List Value}{x:DataW H×List MemPlace}(h:asY enc ar1 w 0 sp held fuel 25 us=aa x)(hl:us.length=2):∃p:Pg,NmP p/\(∀r∈p.rules,U5 (bk x.1) r)/\Rd w (eI p) (.agg us.toArray):=by
 obtain⟨a,b,rfl⟩:=WU hl;obtain⟨n,hn,hf⟩:=kD adv h;obtain⟨_,_,h0⟩:=hf 0 22 0 1 alG apC;obtain⟨y,hy,h1⟩:=hf 1 23 1 1 alH apD;obtain⟨ds,w0,v0,r0⟩:=CI (w:=w) QK (s:=2) (by omega) (λ_=>rfl) (λd=>Sm d.s) alC apE (λn' ph x' _ il cq=>apI n' ph x' il cq) h0
 obtain⟨rs,w1,v1,_,r1⟩:=oB (w:=w) gO (s:=6) (by omega) (λ_=>rfl) (λr=>RdR r/\U5 (bk y.1) r) (λ_=>0) alD apF (λn' ph x' _ il cq hb=>by
  obtain⟨r,hr,hv⟩:=aqR n' ph x' il cq;exact⟨r,⟨hr.1,hr.2.mono hb⟩,Nat.zero_le _,hv⟩) h1
 refine⟨⟨ds,rs⟩,⟨w0,w1,v0,λr hr=>(v1 r hr).1⟩,λr hr=>(v1 r hr).2.mono (by omega),?_⟩;have hR:aC (ew (allM w)) [eo ds,nj rs] [a,b]:=aC.cons r0 (aC.cons r1 aC.nil);exact Rv.agg _ _ hR.1 hR.2
theorem aqS(fuel:Nat)(us:List Value)(x:DataW H×List MemPlace)(h:asY enc ar1 w 0 sp held fuel 69 us=aa x)(hl:us.length=4):∃f:Fa,yO f/\cu f.a.ts<=bk x.1/\aC (ew (allM w)) (cellsOf (eX f)) us:=by
 obtain⟨a,b,c,d,rfl⟩:=adb hl;obtain⟨n,hn,hf⟩:=kD akn h;obtain⟨_,_,h0⟩:=hf 0 3 0 1 aky GR;obtain⟨_,y1,h1⟩:=hf 1 55 1 2 akz agT;obtain⟨_,_,h2⟩:=hf 2 35 3 1 akA Ql;obtain⟨id,r0⟩:=re h0;obtain⟨j,hj,r3⟩:=Bk h2;obtain⟨f,hA,hz,hv⟩:=ai4 n _ _ h1 rfl;refine⟨⟨id,f,j⟩,⟨hA,hj⟩,by show cu f.ts<=_;have:cu f.ts<=_:=hz;omega,?_⟩;obtain⟨n',C6,hg⟩:=kD ac_ h1;have Ub:aC (ew (allM w)) [iS f.s,iT f.ts] [b,c]:=hv;obtain⟨eR,TE⟩:=Ub;exact aC.cons r0 (aC.cons (TE 0 _ _ rfl rfl) (aC.cons (TE 1 _ _ rfl rfl) (aC.cons r3 aC.nil)))
theorem ad4{n:Nat}{u:Value}{x:DataW H×List MemPlace}(h:asY enc ar1 w 0 sp held n 26 [u]=aa x):∃l:List Fa,Sm l/\(∀f∈l,yO f/\cu f.a.ts<=bk x.1)/\Rd w (iv l) u:=by
 obtain⟨l,h1,h2,h3,h4⟩:=oB (w:=w) eX (s:=4) (by omega) (λ_=>rfl) yO (λf=>cu f.a.ts) akq apd (λn' ph x' _ il cq _=>aqS n' ph x' il cq) h;exact⟨l,h1,λf hf=>⟨h2 f hf,by have:=Gh (asv.2 ⟨f,hf,rfl⟩:cu f.a.ts∈l.map λf=>cu f.a.ts);omega⟩,h4⟩
theorem aqT{fuel:Nat}{us:List Value}{x:DataW H×List MemPlace}(h:asY enc ar1 w 0 sp held fuel 29 us=aa x)(hl:us.length=5):∃m:Me,Jq m/\(∀f∈m.facts++m.past,yO f/\cu f.a.ts<=bk x.1)/\Rd w (fF m) (.agg us.toArray):=by
 obtain⟨a,b,c,d,e,rfl⟩:=akM hl;obtain⟨n,hn,hf⟩:=kD ac9 h;obtain⟨_,y0,h0⟩:=hf 0 26 0 1 akH agS;obtain⟨_,y1,h1⟩:=hf 1 26 1 1 akI agS;obtain⟨_,_,h2⟩:=hf 2 27 2 1 akJ apc;obtain⟨_,_,h3⟩:=hf 3 3 3 1 akK GR;obtain⟨_,_,h4⟩:=hf 4 3 4 1 akL GR;obtain⟨facts,w0,v0,r0⟩:=ad4 h0;obtain⟨past,w1,v1,r1⟩:=ad4 h1;obtain⟨log,w2,v2,r2⟩:=akN h2;obtain⟨nx,r3⟩:=re h3;obtain⟨gv,r4⟩:=re h4;refine⟨⟨facts,past,log,nx,gv⟩,⟨w0,w1,w2,λf hf=>(v0 f hf).1.wf,λf hf=>(v1 f hf).1.wf,v2⟩,λf hf=>?_,?_⟩
 ·rcases asn.1 hf with hf|hf
  ·exact⟨(v0 f hf).1,by have:=(v0 f hf).2;omega⟩
  ·exact⟨(v1 f hf).1,by have:=(v1 f hf).2;omega⟩
 have hR:aC (ew (allM w)) [iv facts,iv past,mu log,iI nx,iI gv] [a,b,c,d,e]:=aC.cons r0 (aC.cons r1 (aC.cons r2 (aC.cons r3 (aC.cons r4 aC.nil))));exact Rv.agg _ _ hR.1 hR.2
end Go.Proofs.YtpfogalbnijcoaaGreat
namespace Go.Proofs.YtpfogalbnijcoaaGreat
open Go Go.ChangeShapes Go.WideShapes Go.ChangeAt Go.RowKit
theorem ai5:3<ar1.funcs.size:=of_decide_eq_true (by as_aux_lemma=>kernel_rfl)
set_option maxHeartbeats 8000000 in
set_option maxRecDepth 100000 in
theorem acA(os:Os)(started:os.Started)(H:Type)(enc:TypeId×Value->H)(F:Stop.Interp):
 ReturnsInHanded {} av7 os 3 .any ((atX atY).pre6 enc ar1 avB [] af) (((atX atY).at F).post enc ar1 avB af ab af af):=by
 refine returnsInHanded_of_cond (C:=av7) (s:=atX atY) (k:=aw_) rfl own started (by as_aux_lemma=>kernel_rfl) Tryz.func3
  (OpenSpec.witness (s:=atX atY) (k:=aw_) rfl (enc:=enc) (C:=av7) af ⟨#[], #[.agg #[.slice ah 0 0,.slice ah 0 0],.agg #[.slice ah 0 0,.slice ah 0 0,.slice ah 0 0,.int .i64 0,.int .i64 0]],[]⟩ 8 (by as_aux_lemma=>kernel_rfl) (by as_aux_lemma=>kernel_rfl) (by as_aux_lemma=>kernel_rfl)
   (x:=([.agg [.nil,.nil],.agg [.nil,.nil,.nil,.lit (.int .i64 0),.lit (.int .i64 0)]],[],[])) (by as_aux_lemma=>kernel_rfl) (by as_aux_lemma=>kernel_rfl) (by as_aux_lemma=>kernel_rfl) (by as_aux_lemma=>kernel_rfl)) ?_
 intro W base args ds gs before ad5 hW _ dW _;have Xm:∀(j:Nat) t v,avB.params[j]?=aa t->args[j]?=aa v->Value.okWide ar1 W .any base t v:=ad5;have hW':=hW;obtain⟨p,q,hA0,hV,rfl,hfz,oX⟩:=hW;have hA:DataW.TrodAll enc ar1 W 0 (λ_=>ab) ab avB.params.toList args.toList ds p:=hA0;rw[Tryz.params3]at hA Xm;obtain⟨v0,v1,d0,d1,p0,p1,rfl,rfl,rfl,h0,h1⟩:=trodAll_two hA;obtain⟨rfl,rfl⟩:=trodVars_none hV
 have aat:atj [d0,d1]<=1048576:=by
  have mZ:decide (atj ([d0,d1]++[])<=1048576)=ab:=dW;simpa using mZ
 have Dr:bk d0<=1048576:=asq (Ff (by simp)) aat;have cI:bk d1<=1048576:=asq (Ff (by simp)) aat;obtain⟨cs,rfl,aT⟩:=okWide_struct adv (Xm 0 25 v0 rfl rfl);obtain⟨oa,rfl,W0⟩:=okWide_struct ac9 (Xm 1 29 v1 rfl rfl);have h0k:=h0;have h1k:=h1;obtain⟨fu,h0⟩:=h0;obtain⟨fu1,h1⟩:=h1;have dV:cs.toList.length=2:=by rw[au9,aT,apH]
 have abB:oa.toList.length=5:=by rw[au9,W0,apf]
 obtain⟨pg,hpg,hpb,r0⟩:=ang h0 dV;obtain⟨m,hm,hn,r1⟩:=aqT h1 abB
 have rr:Ev.aC (Ev.ew (Ev.allM W)) [eI pg,fF m] [.agg cs,.agg oa]:=by
  have e0:(axM cs.toList.toArray)=.agg cs:=by simp
  have e1:(axM oa.toList.toArray)=.agg oa:=by simp
  rw[<-e0,<-e1];exact Ev.aC.cons r0 (Ev.aC.cons r1 Ev.aC.nil)
 have hsp:SzP pg:=λr hr=>⟨λa ha=>by have:=(hpb r hr).1 a ha;simp only at this;omega,λa ha=>by have:=(hpb r hr).2 a ha;simp only at this;omega⟩;have sO:SzM m:=λf hf=>by have:=(hn f hf).2;simp only at this;omega
 clear hA0 ad5 Xm hA;simp only[List.append_nil]at hW';refine(aeV ai5 (cM3 pg m hpg hm (λf hf=>(hn f hf).1) hsp sO) rr).mono λe W' ⟨he,hb⟩=>?_;subst he;have ai:∀x∈p0++p1,x.block<W.heap.size:=λx hx=>hW'.lt x (by simpa using hx);have jT:∀x∈p0,x.block<W.heap.size:=λx hx=>ai x (by simp[hx]);have dZ:∀x∈p1,x.block<W.heap.size:=λx hx=>ai x (by simp[hx])
 exact⟨_,rfl,WW (s:=(atX atY).at F) (pa:=p0++p1) (pv:=[]) hW' (λ_ _ _=>trodAll_mk1 (shut_bool WJ _))
  (λsp hsp=>trodAll_mk2 (avW laidOut WX aeW h0k (λx hx=>hb.same (jT x hx)) (λx hx=>hsp x (by simp[hx]))) (avW laidOut WV aeU h1k (λx hx=>hb.same (dZ x hx)) (λx hx=>hsp x (by simp[hx]))))
  (λ_ _=>rfl) (by simp) (hb.frame _)⟩
end Go.Proofs.YtpfogalbnijcoaaGreat
