/- A part of the proof, no condition: Tell; what is told and retracted at once. -/
import Derived.Test.YtggffkaadeagbaaGreatRiP
import Derived.Test.YtggffkaadeagbaaGreatRgR
import Derived.Test.YtggffkaadeagbaaGreatRgP
open Go.IntKind renaming i64->aso
open List renaming mem_cons->asZ,length_append->asu,map_nil->atW,nil_append->as7,getElem_mem->asb,drop_eq_getElem_cons->asq,drop_of_length_le->asA,filter_cons_of_pos->as6,filter_cons_of_neg->asX,filter_nil->awV,append_nil->asp,mem_append->asE,mem_filter->asK,mem_append_left->atU,mem_append_right->atA,filter_eq_nil_iff->at0,filter_eq_self->auH
open Go.Proofs.Tryz renaming prog->ar3
open Classical renaming not_forall->auU,axiomOfChoice->avj
open List.Pairwise renaming nil->avX
open Bool renaming not_eq_true'->asN
set_option linter.all false
namespace Go.Proofs.YtggffkaadeagbaaGreat
open Go Go.Ev
def z8(e:Int):IV:=.av [.agg [.tree 4 [],.tree 4 [],.tree 6 [],iI 0,iI 0],iI 0,iI e]
def kM(g:Int):Int→List At→List Fa
 |_,[]=>[]
 |n,a::l=>⟨n,a,[g]⟩::kM g (aso.wrap (n+1)) l
def mu:Int→Nat→Int
 |n,0=>n
 |n,k+1=>aso.wrap (mu n k+1)
theorem QS(g:Int):∀(l:List At) (n:Int),∀f∈kM g n l,f.j=[g]∧f.a∈l
 |[],_,f,h=>by simp[kM]at h
 |a::l,n,f,h=>by
  rcases asZ.1 h with rfl|h
  ·exact⟨rfl,by simp⟩
  ·obtain⟨h1,h2⟩:=QS g l _ f h;exact⟨h1,by simp[h2]⟩
theorem Hj(g:Int):∀(l:List At) (n:Int),(kM g n l).length=l.length
 |[],_=>rfl
 |a::l,n=>by simp[kM,Hj g l]
theorem Ma(g:Int):∀(l:List At) (a:At) (n:Int),kM g n (l++[a])=kM g n l++[⟨mu n l.length,a,[g]⟩]
 |[],_,_=>rfl
 |b::l,a,n=>by
  have hn:∀k,mu (aso.wrap (n+1)) k=mu n (k+1):=by
   intro k;induction k with
   |zero=>rfl
   |succ k ih=>rw[mu,ih];rfl
  simp[kM,Ma g l a,hn]
section
variable{z:IV}{K:List (List IV→Prop)}{k0 k1:List IV→Prop}{x3 x4 x5 x6:IV}
theorem ang(p:Pg)(m:Me)(hm:vI m)(l:List At)(hl:l.length≤5):
 Tu.sat ar3 CC (·=.av [cV ⟨m.facts++kM (aso.wrap (m.given+1)) m.next l,m.past,m.log,mu m.next l.length,aso.wrap (m.given+1)⟩,iI (aso.wrap (m.given+1)),iI 0]) [k0,k1] [dj p,aM m,cS l,x3,x4,x5,x6,bF m.facts]:=by
 have hf:=hm.f;generalize hg:aso.wrap (m.given+1)=g;refine ao l.length (fun j (q:List Fa)=>[iI j,iI (mu m.next j),bF q]) (fun j q=>q=m.facts++kM g m.next (l.take j)) m.facts ?_ (by simp[kM]) fun j q hj hq=>?_
 ·simp[SE.den,ab,mu]
 by_cases aa:j<l.length
 ·have hw:=aw aa (by omega);have hc:=Ea (a:=q) ⟨mu m.next j,l[j],[g]⟩ (by rw[hq,asu,Hj];simp;omega);simp only[dA,iL,List.map_cons,atW]at hc;simp[SE.den,aa,hw,kZ aa,ab,cellsOf,au,hg,hc];refine .mk (q++[⟨mu m.next j,l[j],[g]⟩]) rfl (by omega) ?_;rw[hq,List.take_succ_eq_append_getElem aa,Ma,List.append_assoc,List.length_take,Nat.min_eq_left (by omega)]
 ·have he:j=l.length:=by omega
  subst he;rw[List.take_length]at hq;subst hq;simp[SE.den,aa,ab,hg,cV]
theorem anh(p:Pg)(m:Me)(hm:vI m)(l:List At)(hl:l.length≤5):
 Tv.sat ar3 CC (·=.av [cV ⟨m.facts++kM (aso.wrap (m.given+1)) m.next l,m.past,m.log,mu m.next l.length,aso.wrap (m.given+1)⟩,iI (aso.wrap (m.given+1)),iI 0]) [k0,k1] [dj p,aM m,cS l,x3,x4,x5,x6]:=by
 have hf:=hm.f;have lM:=Vv (a:=[]) (b:=m.facts) (by simp;omega);simp only[atW,as7]at lM;refine fJ (fun vs=>vs=[bF m.facts]) ?_ ?_
 ·simp only[bF,atW]at lM;simp[SE.den,lM,J1,ab];exact⟨4,_,⟨rfl,rfl⟩,by simp⟩
 ·rintro vs rfl;refine⟨rfl,?_⟩;simp[SE.den,ab];exact ang p m hm l hl
abbrev adj(m:Me)(l:List At):Me:=⟨m.facts++kM (aso.wrap (m.given+1)) m.next l,m.past,m.log,mu m.next l.length,aso.wrap (m.given+1)⟩
abbrev I6(m:Me)(l:List At):IV:=.av [cV (adj m l),iI (aso.wrap (m.given+1)),iI 0]
theorem ani(p:Pg)(m:Me)(hm:vI m)(l:List At)(hl:l.length≤5)(g:At→Bool)(hg:∀a∈l,CC 47 false [ek p.decls,iS a.s,iI a.ts.length] (iB (g a))):
 Tw.sat ar3 CC (·=if∀a∈l,g a=true then I6 m l else z8 7) [k0] [aP p.decls p.rules,aM m,cS l,x3,x4,x5]:=by
 by_cases aT:∀a∈l,g a=true
 ·rw[if_pos aT];refine ao l.length (fun j (_:Unit)=>[iI j]) (fun _ _=>True) () ?_ trivial fun j q hj hq=>?_
  ·simp[SE.den]
  by_cases aa:j<l.length
  ·have hw:=aw aa (by omega);have qj:=hg _ (asb aa);rw[aT _ (asb aa)]at qj;simp[SE.den,aa,hw,kZ aa,ab];refine⟨_,qj,?_⟩;simp;exact .mk () rfl (by omega) trivial
  ·simp[SE.den,aa,ab];exact anh p m hm l hl
 ·rw[if_neg aT];refine ao l.length (fun j (_:Unit)=>[iI j]) (fun j _=>∃a∈l.drop j,g a=false) () ?_ ?_ fun j q hj hq=>?_
  ·simp[SE.den]
  ·simp only[auU]at aT;obtain⟨a,ha,hf⟩:=aT;exact⟨a,by simpa using ha,by simpa using hf⟩
  by_cases aa:j<l.length
  ·have hw:=aw aa (by omega);have qj:=hg _ (asb aa);simp[SE.den,aa,hw,kZ aa,ab];refine⟨_,qj,?_⟩;rw[asq aa]at hq;cases hv:g l[j]
   ·simp[z8]
   ·simp;obtain⟨a,ha,hf⟩:=hq;rcases asZ.1 ha with rfl|ha
    ·rw[hv]at hf;cases hf
    ·exact .mk () rfl (by omega) ⟨a,ha,hf⟩
  ·rw[asA (by omega)]at hq;obtain⟨a,ha,_⟩:=hq;cases ha
theorem anj(p:Pg)(m:Me)(hm:vI m)(l:List At)(hl:l.length≤5)(hn:∀a∈l,pC a)(f g:At→Bool)(hf:∀a∈l,(f a=true→uJ a)∧CC 45 false [.agg [iS a.s,iT a.ts]] (iB (f a)))(hg:∀a∈l,CC 47 false [ek p.decls,iS a.s,iI a.ts.length] (iB (g a))):
 Kh.sat ar3 CC (·=if∀a∈l,f a=true∧varsOf a.ts=[]then(if∀a∈l,g a=true then I6 m l else z8 7)else z8 2) [] [aP p.decls p.rules,aM m,cS l,x3,x4]:=by
 by_cases aT:∀a∈l,f a=true∧varsOf a.ts=[]
 ·rw[if_pos aT];refine ao l.length (fun j (_:Unit)=>[iI j]) (fun _ _=>True) () ?_ trivial fun j q hj hq=>?_
  ·simp[SE.den]
  by_cases aa:j<l.length
  ·have hw:=aw aa (by omega);have hm:=asb aa;obtain⟨h1,F7⟩:=hf _ hm;obtain⟨h2,h3⟩:=aT _ hm;have Eo:=Ty false l[j] (hn _ hm) (h1 h2);rw[h2]at F7;rw[h3]at Eo;simp[SE.den,aa,hw,kZ aa,ab];refine⟨_,F7,?_⟩;simp;refine⟨_,Eo,?_⟩;simp;exact .mk () rfl (by omega) trivial
  ·simp[SE.den,aa,ab];have:=ani (x3:=x3) (x4:=x4) (x5:=iI j) (k0:=OZ l.length (fun j (_:Unit)=>[iI j]) (fun _ _=>True) j) p m hm l hl g hg;exact this
 ·rw[if_neg aT];refine ao l.length (fun j (_:Unit)=>[iI j]) (fun j _=>∃a∈l.drop j,¬(f a=true∧varsOf a.ts=[])) () ?_ ?_ fun j q hj hq=>?_
  ·simp[SE.den]
  ·simp only[auU]at aT;obtain⟨a,ha,hf⟩:=aT;exact⟨a,by simpa using ha,hf⟩
  by_cases aa:j<l.length
  ·have hw:=aw aa (by omega);have hm:=asb aa;obtain⟨h1,F7⟩:=hf _ hm;rw[asq aa]at hq;simp[SE.den,aa,hw,kZ aa,ab];refine⟨_,F7,?_⟩;cases hv:f l[j]
   ·simp[z8]
   ·have Eo:=Ty false l[j] (hn _ hm) (h1 hv);simp;refine⟨_,Eo,?_⟩;simp;by_cases hvv:varsOf l[j].ts=[]
    ·right;refine⟨hvv,?_⟩;obtain⟨a,ha,hf⟩:=hq;rcases asZ.1 ha with rfl|ha
     ·exact absurd ⟨hv,hvv⟩ hf
     ·exact .mk () rfl (by omega) ⟨a,ha,by simpa using hf⟩
    ·left;exact⟨List.length_pos_iff.2 hvv,rfl⟩
  ·rw[asA (by omega)]at hq;obtain⟨a,ha,_⟩:=hq;cases ha
end
theorem n17:(ar3.funcs[17]?).map (·.params.size)=some 3:=by kernel_rfl
theorem t17(a b c:IV):aD ar3 17 (.av [a,b,c])=true:=by kernel_rfl
theorem e17(p:Pg)(hp:Wa p)(m:Me)(hm:vI m)(tM:∀f∈m.facts++m.past,zC f)(l:List At)(hl:l.length≤5)(hn:∀a∈l,pC a):
 CC 17 false [dj p,cV m,cS l] (I6 m l)∨∃e:Int,e≠0∧CC 17 false [dj p,cV m,cS l] (z8 e):=by
 have hx:∀z,Ev.Pure z→(∃a b c,z=.av [a,b,c])→Cn.sat ar3 CC (·=z) [] [dj p,cV m,cS l]→CC 17 false [dj p,cV m,cS l] z:=fun z hz ⟨a,b,c,he⟩ hs=>by
  subst he;exact CC.of aqy n17 (t17 _ _ _) (by intro y hy;simp at hy;rcases hy with rfl|rfl|rfl;exact fA p;exact gq m;exact GU l) hz hs
 have pz:∀e,Ev.Pure (z8 e):=fun e=>.av _ (by
  intro y hy;simp at hy;rcases hy with rfl|rfl|rfl
  ·exact gq ⟨[],[],[],0,0⟩
  ·exact .raw _
  ·exact .raw _)
 have pt:Ev.Pure (I6 m l):=.av _ (by
  intro y hy;simp at hy;rcases hy with rfl|rfl|rfl
  ·exact gq _
  ·exact .raw _
  ·exact .raw _)
 obtain⟨n,hh,HI⟩:=e11 p hp;obtain⟨b13,h13⟩:=e13 p hp m hm tM;have hd:=hp.s.d
 have c45:∀a:At,∃b,a∈l→(b=true→uJ a)∧CC 45 false [.agg [iS a.s,iT a.ts]] (iB b):=fun a=>by
  by_cases ha:a∈l
  ·obtain⟨b,h1,h2⟩:=VV names a (hn a ha);exact⟨b,fun _=>⟨h1,h2⟩⟩
  ·exact⟨false,fun h=>absurd h ha⟩
 have c47:∀a:At,∃b,CC 47 false [ek p.decls,iS a.s,iI a.ts.length] (iB b):=fun a=>F6 p.decls a.s a.ts.length (by unfold Sm;omega);obtain⟨f,hf⟩:=avj c45;obtain⟨g,hg⟩:=avj c47;have h3:=fun(x3 x4:IV)=>anj (x3:=x3) (x4:=x4) p m hm l hl hn f g hf (fun a _=>hg a);have tW:=hm.f;have iW:=hm.p;have w1:aso.wrap (500-(l.length:Int))=500- l.length:=eb (by omega) (by omega);have w2:aso.wrap (5000-(l.length:Int))=5000- l.length:=eb (by omega) (by omega);have w3:aso.wrap (2147483648-(l.length:Int))=2147483648- l.length:=eb (by omega) (by omega);have w4:aso.wrap ((m.facts.length:Int)+m.past.length)=m.facts.length+m.past.length:=eb (by omega) (by omega);by_cases z0:n=0
 rotate_left
 ·refine .inr ⟨n,z0,hx _ (pz n) ⟨_,_,_,rfl⟩ ?_⟩;simp only[dj,cV]at*
  simp[Cn,SE.den,ab];refine⟨_,HI,?_⟩;simp[rM];left;exact⟨z0,rfl⟩
 cases b13 with
 |false=>
  refine .inr ⟨2,by omega,hx _ (pz 2) ⟨_,_,_,rfl⟩ ?_⟩;simp only[dj,cV]at*
  simp[Cn,SE.den,ab];refine⟨_,HI,?_⟩;simp[rM];right;refine⟨z0,_,h13,?_⟩;simp[z8]
 |true=>
 by_cases z1:64≤m.given∨2147483648-(l.length:Int)<m.next
 ·refine .inr ⟨6,by omega,hx _ (pz 6) ⟨_,_,_,rfl⟩ ?_⟩;simp only[dj,cV]at*
  simp[Cn,SE.den,ab,w1,w2,w3,w4];refine⟨_,HI,?_⟩;simp[rM];right;refine⟨z0,_,h13,?_⟩;simp[z8];by_cases y1:64≤m.given
  ·left;exact y1
  right;refine⟨by omega,?_⟩;right;refine⟨by omega,?_⟩;right;refine⟨by omega,?_⟩;right;refine⟨by omega,?_⟩;left;omega
 ·have key:∀z,Kh.sat ar3 CC (·=z) [] [aP p.decls p.rules,aM m,cS l,iI n,iB true]→Cn.sat ar3 CC (·=z) [] [dj p,cV m,cS l]:=fun z hz=>by
   simp only[dj,cV]at*
   simp[Cn,SE.den,ab,w1,w2,w3,w4];refine⟨_,HI,?_⟩;simp[rM];right;refine⟨z0,_,h13,?_⟩;simp;right;refine⟨by omega,?_⟩;right;refine⟨by omega,?_⟩;right;refine⟨by omega,?_⟩;right;refine⟨by omega,?_⟩;right;exact⟨by omega,hz⟩
  have h4:=h3 (iI n) (iB true);split at h4
  ·split at h4
   ·exact .inl (hx _ pt ⟨_,_,_,rfl⟩ (key _ h4))
   ·exact .inr ⟨7,by omega,hx _ (pz 7) ⟨_,_,_,rfl⟩ (key _ h4)⟩
  ·exact .inr ⟨2,by omega,hx _ (pz 2) ⟨_,_,_,rfl⟩ (key _ h4)⟩
end Go.Proofs.YtggffkaadeagbaaGreat
namespace Go.Proofs.YtggffkaadeagbaaGreat
open Go Go.Ev
section
variable{Q:IV→Prop}{k0 k1:List IV→Prop}
theorem aeE{v2 a c:IV}{n nx gv:Int}{ks:List Int}{lg:List Ap}{past l:List Fa}(hp:l.length+(past.filter fun f=>decide (f.id∈ks)).length≤18)(W6:past.length≤18)(FJ:∀f∈past,oP f)(IM:∀f∈l,oP f)
 (hQ:Q (.av [.agg [bF (ct (ee jd [] (l++past.filter fun f=>decide (f.id∈ks))) n),bF (ct (past.filter fun f=> !decide (f.id∈ks)) n),nR lg,iI nx,iI gv],iI 0])):
 Pl.sat ar3 CC Q [k0] [.agg [a,bF past,c,iI nx,iI gv],iI n,v2,iM ks,nR lg,bF l]:=by
 refine ao past.length (fun i (a:List Fa×List Fa)=>[iI i,bF a.1,bF a.2])
  (fun i a=>a.1.length≤l.length+i∧a.2.length≤i∧l++past.filter (fun f=>decide (f.id∈ks))=a.1++(past.drop i).filter (fun f=>decide (f.id∈ks))∧past.filter (fun f=> !decide (f.id∈ks))=a.2++(past.drop i).filter (fun f=> !decide (f.id∈ks))) (l,[]) ?_ ?_ fun j ⟨wi,wo⟩ hj ⟨eO,hwo,bk,dP⟩=>?_
 ·simp[SE.den]
 ·simp
 simp only at eO hwo bk dP;by_cases aa:j<past.length
 ·rw[asq aa]at bk dP;have hw:=aw aa (by omega);have lM:=Ea (a:=wi) past[j] (by omega);have Wb:=Ea (a:=wo) past[j] (by omega);have yw:=J5 (ν:=[iM ks,iI past[j].id]) (m:=.var 0) (key:=.var 1) (ks:=ks) (k:=past[j].id) rfl rfl;have yx:=J4 (ν:=[iM ks,iI past[j].id]) (m:=.var 0) (key:=.var 1) (ks:=ks) (k:=past[j].id) rfl rfl;simp[SE.den]at yw yx;simp only[iI]at yw yx;simp[SE.den,aa,GW aa,ab];obtain⟨hq,Lm,D1⟩:=yx;refine⟨⟨_,yw⟩,iB (decide (past[j].id∈ks)),⟨hq,Lm,by rw[D1]⟩,?_⟩;simp[SE.den,hw,lM,Wb,cellsOf];by_cases hc:past[j].id∈ks
  ·left;refine⟨hc,.mk (wi++[past[j]],wo) (by simp) (by omega) ⟨by simp;omega,by simp;omega,?_,?_⟩⟩
   ·rw[bk,as6 (by simpa using hc)];simp
   ·rw[dP,asX (by simpa using hc)]
  ·right;refine⟨hc,.mk (wi,wo++[past[j]]) (by simp) (by omega) ⟨by simp;omega,by simp;omega,?_,?_⟩⟩
   ·rw[bk,asX (by simpa using hc)]
   ·rw[dP,as6 (by simpa using hc)];simp
 ·rw[asA (by omega)]at bk dP;simp only[awV,asp]at bk dP;rw[bk,dP]at hQ
  have aqP:∀f∈wi,oP f:=fun f hf=>by
   rw[←bk]at hf;rcases asE.1 hf with hf|hf
   ·exact IM f hf
   ·exact FJ f (asK.1 hf).1
  have aqQ:∀f∈wo,oP f:=fun f hf=>FJ f (asK.1 (by rw[dP];exact hf)).1;simp[SE.den,aa];have hlen:=congrArg List.length bk;rw[asu]at hlen;exact agE (by omega) aqQ (by omega) aqP hQ
theorem aeF{v2 c:IV}{n nx gv:Int}{ks:List Int}{lg:List Ap}{past l:List Fa}(hp:l.length+(past.filter fun f=>decide (f.id∈ks)).length≤18)(W6:past.length≤18)(FJ:∀f∈past,oP f)(IM:∀f∈l,oP f)
 (hQ:Q (.av [.agg [bF (ct (ee jd [] (l++past.filter fun f=>decide (f.id∈ks))) n),bF (ct (past.filter fun f=> !decide (f.id∈ks)) n),nR lg,iI nx,iI gv],iI 0])):
 Pm.sat ar3 CC Q [k0] [.agg [bF l,bF past,c,iI nx,iI gv],iI n,v2,iM ks,nR lg]:=by
 have lM:=Vv (a:=[]) (b:=l) (by simp;omega);simp only[atW,as7]at lM;refine fJ (fun vs=>vs=[bF l]) ?_ ?_
 ·simp only[bF,atW]at lM;simp[SE.den,lM,J1];exact⟨4,_,⟨rfl,rfl⟩,by simp⟩
 ·rintro vs rfl;refine⟨rfl,?_⟩;simp[SE.den,ab];exact aeE hp W6 FJ IM hQ
end
theorem aqR(m:Me)(n:Int)(tP:CS m)(LA:m.log.length≤12)(hgx:∀x∈m.log,x.gone.length≤8)(cK:m.facts.length+(m.past.filter fun f=>decide (f.id∈gU m n)).length≤18)(fB:m.past.length≤18):CC 22 false [cV m,iI n] (.av [cV (lV m n).1,iI (lV m n).2]):=by
 have pt:Pure (.av [cV (lV m n).1,iI (lV m n).2]):=.av _ (by simp[gq]);refine CC.of aks n22 (t22 _ _) (by simp[gq]) pt ?_;simp[Yq,SE.den,cV,ab];by_cases h1:n<1
 ·left;exact⟨h1,by simp[lV,h1]⟩
 right;refine⟨by omega,?_⟩;by_cases h2:m.given<n
 ·left;exact⟨h2,by simp[lV,h2]⟩
 right;refine⟨by omega,?_⟩
 have GN:lV m n=(⟨ct (ee jd [] (m.facts++m.past.filter fun f=>decide (f.id∈gU m n))) n,ct (m.past.filter fun f=> !decide (f.id∈gU m n)) n,m.log.filter (fun x=> !decide (n∈x.fK)),m.next,m.given⟩,0):=by
  rw[lV,if_neg (by omega)]
 rw[GN]
 refine ao m.log.length (fun i (a:List Int×List Ap)=>[iI i,iM a.1,nR a.2])
  (fun i (a:List Int×List Ap)=>a.2.length≤i∧(∀k:Int,k∈gU m n↔k∈a.1∨k∈(((m.log.drop i).filter fun x:Ap=>decide (n∈x.fK)).flatMap fun x:Ap=>x.gone))∧m.log.filter (fun x=> !decide (n∈x.fK))=a.2++(m.log.drop i).filter fun x=> !decide (n∈x.fK)) ([],[]) ?_ ?_ fun i ⟨ks,lg⟩ hi ⟨hg,vH,nS⟩=>?_
 ·simp[SE.den]
 ·simp[gU]
 simp only at hg vH nS;by_cases aa:i<m.log.length
 ·rw[asq aa]at vH nS;have hw:=aw aa tP.sl;obtain⟨w1,w2,w3,w4⟩:=tP.l _ (asb aa);have IQ:=hgx _ (asb aa);have Wb:=agt (a:=lg) m.log[i] (by omega);simp[SE.den,aa,Vu aa,ab];refine⟨_,c58 _ _ w4,?_⟩;simp[SE.den,hw,ab,Wb,cellsOf];by_cases hc:n∈m.log[i].fK
  ·left;refine⟨hc,?_⟩;refine akA (x:=m.log[i]) (by omega) (by omega) fun ks' eQ=>.mk (ks',lg) (by simp) (by omega) ⟨by simp;omega,fun k=>?_,?_⟩
   ·rw[vH k,as6 (by simpa using hc),List.flatMap_cons,asE,eQ k,or_assoc];simp
   ·rw[nS,asX (by simpa using hc)]
  ·right;refine⟨hc,.mk (ks,lg++[m.log[i]]) (by simp) (by omega) ⟨by simp;omega,fun k=>?_,?_⟩⟩
   ·rw[vH k,asX (by simpa using hc)];simp
   ·rw[nS,as6 (by simpa using hc)];simp
 ·rw[asA (by omega)]at vH nS;simp at vH nS
  have FQ:(fun f:Fa=>decide (f.id∈gU m n))=fun f=>decide (f.id∈ks):=by
   funext f;simp[vH f.id]
  have PY:(fun f:Fa=> !decide (f.id∈gU m n))=fun f=> !decide (f.id∈ks):=by
   funext f;simp[vH f.id]
  rw[FQ]at cK;rw[FQ,PY,nS];simp[SE.den,aa];exact aeF cK fB tP.p tP.f rfl
theorem aqS(p:Pg)(hp:F4 p)(m:Me)(hm:vI m)(hn:∀f∈m.facts++m.past,zC f):∃b,(b=true→S5 m∧m.given≤64∧(∀f∈m.facts++m.past,∀j∈f.j,j≤m.given)∧(∀x∈m.log,∀j∈x.fK,j≤m.given)∧0≤m.given∧∀r∈p.rules,AZ r)∧CC 14 false [dj p,cV m] (iB b):=by
 refine CC.lH _ apr n14 t14 (by intro y hy;simp at hy;rcases hy with rfl|rfl;exact fA p;exact gq m) (by rfl) ?_;have hf:=hm.f;have iW:=hm.p;have hl:=hm.l;obtain⟨n12,aqT,h12⟩:=e12 p hp;obtain⟨b39,aiI,h39⟩:=e39 p (by have:=hp.d;unfold Sm;omega) m m.facts (by unfold Sm;omega) fun f hf=>hn f (atU _ hf);obtain⟨c39,aiJ,g39⟩:=e39 p (by have:=hp.d;unfold Sm;omega) m m.past (by unfold Sm;omega) fun f hf=>hn f (atA _ hf);have h40:=fun x hx=>e40 p hp m hm x (hm.x x hx);have h42:=fun id made=>e42 m.log id made (by unfold Sm;omega) hm.w.l;have LJ:=fun id=>c41 m.past id (by unfold Sm;omega);have bf:(∀f∈m.facts,findF m.past f.id=none)→iH m.facts→iH m.past→S5 m:=fun h1 h2 h3=>⟨h2,h3,fun a ha b hb he=>VM (h1 a ha) b hb he.symm⟩;obtain⟨ds,rs⟩:=p;obtain⟨mf,mp,ml,mn,mg⟩:=m;simp only[dj,cV]at*
 show VD.sat _ _ _ _ [.agg [ek ds,yn rs],_];have P9:aso.wrap ((mf.length:Int)+(mp.length:Int))=mf.length+mp.length:=eb (by omega) (by omega);simp[VD,SE.den,ab,rM];refine⟨_,h12,?_⟩;simp[rM];by_cases z0:n12=0
 rotate_left
 ·left;exact z0
 right;refine⟨z0,?_⟩;by_cases z1:mn<1
 ·left;exact z1
 right;refine⟨by omega,?_⟩;by_cases z2:2147483648<mn
 ·left;exact z2
 right;refine⟨by omega,?_⟩;by_cases z3:mg<0
 ·left;exact z3
 right;refine⟨by omega,?_⟩;by_cases z4:64<mg
 ·left;exact z4
 right;refine⟨by omega,?_⟩;right;refine⟨by omega,?_⟩;simp[P9];right;refine⟨by omega,?_⟩;refine⟨_,h39,?_⟩;cases b39<;>simp;refine⟨_,g39,?_⟩;cases c39<;>simp;unfold SI;refine ao ml.length (fun i (_:Unit)=>[iI i]) (fun i _=>∀x∈ml.take i,Eg ⟨mf,mp,ml,mn,mg⟩ x) () ?_ (by simp) fun i _ hi hL=>?_
 ·simp[SE.den]
 by_cases aa:i<ml.length
 ·have hw:=aw aa (by omega);obtain⟨b,hbj,hb⟩:=h40 _ (asb aa);simp only[jR]at hb;simp[SE.den,aa,hw,Vu aa,ab];refine⟨_,hb,?_⟩;cases b<;>simp;exact .mk () rfl (by omega) (eR aa hL (hbj rfl))
 have hL:=gV aa hL;simp[SE.den,aa];unfold SH;refine ao mf.length (fun i (_:Unit)=>[iI i]) (fun i _=>∀f∈mf.take i,findF mp f.id=none) () ?_ (by simp) fun i1 _ Nz hI=>?_
 ·simp[SE.den]
 by_cases eS:i1<mf.length
 ·have hw:=aw eS (by omega);obtain⟨n,abF⟩:=h42 mf[i1].id true;have Kj:=LJ mf[i1].id;cases he:findF mp mf[i1].id with
  |some f=>
   rw[he]at Kj;simp only[qy,dA]at Kj;simp[SE.den,eS,vW eS,ab];refine⟨_,Kj,?_⟩;simp[ab]
  |none=>
   rw[he]at Kj;simp only[qy,dA]at Kj;simp[SE.den,eS,vW eS,ab];refine⟨_,Kj,?_⟩;simp[ab,hw];refine⟨_,abF,?_⟩;simp;by_cases z:1<n
   ·left;exact z
   ·right;exact⟨by omega,.mk () rfl (by omega) (eR eS hI he)⟩
 simp[SE.den,eS];unfold SG;refine ao mp.length (fun i (_:Unit)=>[iI i]) (fun _ _=>True) () ?_ trivial fun i0 _ tS _=>?_
 ·simp[SE.den]
 by_cases kS:i0<mp.length
 ·have hw:=aw kS (by omega);obtain⟨n,abF⟩:=h42 mp[i0].id false;obtain⟨n2,aqU⟩:=h42 mp[i0].id true;simp[SE.den,kS,vW kS,ab];refine⟨_,abF,?_⟩;simp[hw];by_cases z:n=1
  rotate_left
  ·left;exact z
  right;refine⟨z,_,aqU,?_⟩;simp;by_cases z:1<n2
  ·left;exact z
  ·right;exact⟨by omega,.mk () rfl (by omega) trivial⟩
 ·simp[SE.den,kS]
  have aT:∀f∈mf++mp,∀j∈f.j,j≤mg:=fun f hf=>by
   rcases asE.1 hf with hf|hf
   ·exact(aiI rfl).2 f hf
   ·exact(aiJ rfl).2 f hf
  refine⟨bf (gV eS hI) (aiI rfl).1 (aiJ rfl).1,by omega,fun f hf=>?_,fun x hx j hj=>?_,by omega,aqT z0⟩
  ·exact aT f (by simpa using hf)
  ·obtain⟨f,hf,hjf⟩:=hL x hx j hj;exact aT f hf j hjf
end Go.Proofs.YtggffkaadeagbaaGreat
namespace Go.Proofs.YtggffkaadeagbaaGreat
open Go Go.Ev
theorem Wc{l:List Fa}(h:iH l):ee jd [] l=l:=
 aei (S6 (by simp[iH]) (.inl h) (by simp)) h fun f=>by simp[P3]
theorem abG(m:Me)(hO:S5 m)(hf:∀f∈m.facts++m.past,∀j∈f.j,j≤m.given)(hl:∀x∈m.log,∀j∈x.fK,j≤m.given)(hg:0≤m.given)(new:List Fa)(dG:∀f∈new,f.j=[m.given+1])(nx:Int):
 lV ⟨m.facts++new,m.past,m.log,nx,m.given+1⟩ (m.given+1)=(⟨m.facts,m.past,m.log,nx,m.given+1⟩,0):=by
 have hb:gU ⟨m.facts++new,m.past,m.log,nx,m.given+1⟩ (m.given+1)=[]:=by
  unfold gU;rw[at0.2]
  ·rfl
  ·intro x hx;simp only[decide_eq_true_eq];intro hc;have:=hl x hx _ hc;omega
 rw[lV,if_neg (by simp only;omega),hb]
 have e1:(m.past.filter fun f=>decide (f.id∈([]:List Int)))=[]:=by
  rw[at0];simp
 have e2:(m.past.filter fun f=> !decide (f.id∈([]:List Int)))=m.past:=by
  rw[auH];simp
 have e3:ct (ee jd [] (m.facts++new)) (m.given+1)=m.facts:=by
  rw[ct,IJ aa_ _ _ avX,awV,List.filter_append,auH.2,at0.2,asp,Wc hO.f]
  ·intro f C_;simp[dG f C_]
  ·intro f C_;have:=hf f (atU _ C_);simp only[asN,decide_eq_false_iff_not];intro hc;have:=this _ hc;omega
 have e4:ct m.past (m.given+1)=m.past:=by
  rw[ct,auH];intro f C_;simp only[asN,decide_eq_false_iff_not];intro hc;have:=hf f (atA _ C_) _ hc;omega
 have e5:(m.log.filter fun x=> !decide (m.given+1∈x.fK))=m.log:=by
  rw[auH];intro x hx;simp only[asN,decide_eq_false_iff_not];intro hc;have:=hl x hx _ hc;omega
 simp only[e1,e2,asp,e3,e4,e5]
end Go.Proofs.YtggffkaadeagbaaGreat
namespace Go.Proofs.YtggffkaadeagbaaGreat
open Go Go.Ev
theorem n8:(ar3.funcs[8]?).map (·.params.size)=some 3:=by kernel_rfl
theorem t8(z:IV):aD ar3 8 z=true:=by kernel_rfl
theorem c8(p:Pg)(m:Me)(l:List At)(hp:NmP p)(hm:CS m)(hn:∀f∈m.facts++m.past,zC f)(hl:Sm l)(tQ:∀a∈l,pC a):CC 8 false [dj p,cV m,cS l] (iB true):=by
 refine CC.of ex8 n8 (t8 _) (by intro z hz;simp at hz;rcases hz with rfl|rfl|rfl;exact fA p;exact gq m;exact GU l) (by simp) ?_;obtain⟨b10,f10,Dx⟩:=e10 p hp m hm;obtain⟨b16,f16,h16⟩:=e16 l hl tQ;cases b10 with
 |false=>
  simp only[dj,cV]at*
  simp[Kc,SE.den,ab];refine⟨_,Dx,?_⟩;simp
 |true=>
 obtain⟨hP,hL⟩:=f10 rfl;cases b16 with
 |false=>
  simp only[dj,cV]at*
  simp[Kc,SE.den,ab];refine⟨_,Dx,?_⟩;simp;refine⟨_,h16,?_⟩;simp
 |true=>
 obtain⟨hl5,_⟩:=f16 rfl;obtain⟨b14,f14,Xa⟩:=aqS p hP m hL hn;cases b14 with
 |false=>
  simp only[dj,cV]at*
  simp[Kc,SE.den,ab];refine⟨_,Dx,?_⟩;simp;refine⟨_,h16,?_⟩;simp;refine⟨_,Xa,?_⟩;simp
 |true=>
 obtain⟨hO,hg,hfj,WM,hg0,hF⟩:=f14 rfl;rcases e17 p ⟨hP,hF⟩ m hL hn l hl5 tQ with h17|⟨e,he,h17⟩
 rotate_left
 ·simp only[dj,cV,z8]at*
  simp[Kc,SE.den,ab];refine⟨_,Dx,?_⟩;simp;refine⟨_,h16,?_⟩;simp;refine⟨_,Xa,?_⟩;simp;refine⟨_,h17,?_⟩;simp[ab];left;exact⟨he,_,c15,by simp⟩
 have hgw:aso.wrap (m.given+1)=m.given+1:=eb (by omega) (by omega);rw[I6,adj,hgw]at h17;have GN:=abG m hO hfj WM hg0 (kM (m.given+1) m.next l) (fun f hf=>(QS _ l _ f hf).1) (mu m.next l.length);have tW:=hL.f;have iW:=hL.p;have LA:=hL.l;have htl:=Hj (m.given+1) l m.next;have hwA:∀a∈l,CQ a:=fun a ha=>⟨(tQ a ha).2.1,fun t ht=>((tQ a ha).2.2 t ht).wf⟩
 have hnw:∀f∈kM (m.given+1) m.next l,oP f:=fun f hf=>by
  obtain⟨h1,h2⟩:=QS _ l _ f hf;exact⟨hwA _ h2,by rw[h1];unfold Sm;simp⟩
 have Ut:gU ⟨m.facts++kM (m.given+1) m.next l,m.past,m.log,mu m.next l.length,m.given+1⟩ (m.given+1)=[]:=by
  unfold gU;rw[at0.2]
  ·rfl
  ·intro x hx;simp only[decide_eq_true_eq];intro hc;have:=WM x hx _ hc;omega
 have ZF:=aqR ⟨m.facts++kM (m.given+1) m.next l,m.past,m.log,mu m.next l.length,m.given+1⟩ (m.given+1)
  ⟨by unfold Sm;simp only[asu];omega,hm.sp,hm.sl,fun x hx=>(asE.1 hx).elim (hm.f x) (hnw x),hm.p,hm.l⟩ LA (fun x hx=>(hL.x x hx).g) (by rw[Ut];simp only[asu];rw[at0.2 (by simp)];simp only[List.length_nil];omega) (by simp only;omega)
 rw[GN]at ZF;have h24:=c24 ⟨m.facts,m.past,m.log,mu m.next l.length,m.given+1⟩ vO (by simp only;omega) hm.f;have aqV:=c24 m vO (by omega) hm.f;obtain⟨tB,hfw⟩:=Yy (m:=m) ⟨hm,tW,iW,LA,fun x hx=>(hL.x x hx).g⟩;have h23:=c23 (yl m) (yl m) tB hfw;rw[F2]at h23;have P9:aso.wrap ((m.facts.length:Int)+l.length)=m.facts.length+l.length:=eb (by omega) (by omega);generalize kM (m.given+1) m.next l=new at*
 simp only[dj,cV]at*
 simp[Kc,SE.den,ab];refine⟨_,Dx,?_⟩;simp;refine⟨_,h16,?_⟩;simp;refine⟨_,Xa,?_⟩;simp;refine⟨_,h17,?_⟩;simp only[bF,List.map_append]at ZF;simp[ab,P9];refine⟨_,ZF,?_⟩;simp[ab];refine⟨by omega,_,h24,?_⟩;simp;refine⟨_,aqV,?_⟩;simp;exact⟨_,h23,⟨_,rfl⟩,rfl,_,c15,⟨_,rfl⟩,rfl⟩
end Go.Proofs.YtggffkaadeagbaaGreat
