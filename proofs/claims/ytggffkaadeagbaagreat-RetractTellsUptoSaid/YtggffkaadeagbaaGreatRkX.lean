/- A part of the proof, no condition: Tell of the program, and the closed law. -/
import Derived.Test.YtggffkaadeagbaaGreatRiP
import Derived.Test.YtggffkaadeagbaaGreatRkS
open Go.IntKind renaming i64->as7
open List renaming mem_cons->aty,length_append->atc,map_cons->atJ,map_nil->aun,take_succ_eq_append_getElem->asX,append_assoc->atf,length_take->at5,take_length->awv,nil_append->atO,getElem_mem->asO,drop_eq_getElem_cons->ata,drop_of_length_le->atg,length_pos_iff->aur
open Go.Proofs.Tryz renaming prog->asK
open Nat renaming min_eq_left->avQ
open Classical renaming not_forall->awe
open Option renaming some->aa
open Bool renaming true->ab,false->af
set_option linter.all false
namespace Go.Proofs.YtggffkaadeagbaaGreat
open Go Go.Ev
def kL(e:Int):IV:=.az [.agg [.tree 4 [],.tree 4 [],.tree 6 [],iI 0,iI 0],iI 0,iI e]
def oA(g:Int):Int->List At->List Fa
 |_,[]=>[]
 |n,a::l=>⟨n,a,[g]⟩::oA g (as7.wrap (n+1)) l
def mY:Int->Nat->Int
 |n,0=>n
 |n,k+1=>as7.wrap (mY n k+1)
theorem abd(g:Int):∀(l:List At) (n:Int),∀f∈oA g n l,f.j=[g]/\f.a∈l
 |[],_,f,h=>by simp[oA]at h
 |a::l,n,f,h=>by
  rcases aty.1 h with rfl|h
  ·exact⟨rfl,by simp⟩
  ·obtain⟨h1,h2⟩:=abd g l _ f h;exact⟨h1,by simp[h2]⟩
theorem Di(g:Int):∀(l:List At) (n:Int),(oA g n l).length=l.length
 |[],_=>rfl
 |a::l,n=>by simp[oA,Di g l]
theorem FE(g:Int):∀(l:List At) (a:At) (n:Int),oA g n (l++[a])=oA g n l++[⟨mY n l.length,a,[g]⟩]
 |[],_,_=>rfl
 |b::l,a,n=>by
  have hn:∀k,mY (as7.wrap (n+1)) k=mY n (k+1):=by
   intro k;induction k with
   |zero=>rfl
   |succ k ih=>rw[mY,ih];rfl
  simp[oA,FE g l a,hn]
section
variable{z:IV}{K:List (List IV->Prop)}{k0 k1:List IV->Prop}{x3 x4 x5 x6:IV}
theorem an8(p:Pg)(m:Me)(hm:q8 m)(l:List At)(hl:l.length<=5):
 UO.sat asK CC (·=.az [dr ⟨m.facts++oA (as7.wrap (m.given+1)) m.next l,m.past,m.log,mY m.next l.length,as7.wrap (m.given+1)⟩,iI (as7.wrap (m.given+1)),iI 0]) [k0,k1] [dm p,aM m,h_ l,x3,x4,x5,x6,gL m.facts]:=by
 have hf:=hm.f;generalize hg:as7.wrap (m.given+1)=g;refine aw l.length (λj (q:List Fa)=>[iI j,iI (mY m.next j),gL q]) (λj q=>q=m.facts++oA g m.next (l.take j)) m.facts ?_ (by simp[oA]) λj q hj hq=>?_
 ·simp[SE.den,aj,mY]
 by_cases ai:j<l.length
 ·have hw:=aD ai (by omega);have hc:=JU (a:=q) ⟨mY m.next j,l[j],[g]⟩ (by rw[hq,atc,Di];simp;omega);simp only[ef,iL,atJ,aun]at hc;simp[SE.den,ai,hw,ly ai,aj,cellsOf,aA,hg,hc];refine .mk (q++[⟨mY m.next j,l[j],[g]⟩]) rfl (by omega) ?_;rw[hq,asX ai,FE,atf,at5,avQ (by omega)]
 ·have he:j=l.length:=by omega
  subst he;rw[awv]at hq;subst hq;simp[SE.den,ai,aj,hg,dr]
theorem an9(p:Pg)(m:Me)(hm:q8 m)(l:List At)(hl:l.length<=5):
 UP.sat asK CC (·=.az [dr ⟨m.facts++oA (as7.wrap (m.given+1)) m.next l,m.past,m.log,mY m.next l.length,as7.wrap (m.given+1)⟩,iI (as7.wrap (m.given+1)),iI 0]) [k0,k1] [dm p,aM m,h_ l,x3,x4,x5,x6]:=by
 have hf:=hm.f;have pU:=Xn (a:=[]) (b:=m.facts) (by simp;omega);simp only[aun,atO]at pU;refine ot (λvs=>vs=[gL m.facts]) ?_ ?_
 ·simp only[gL,aun]at pU;simp[SE.den,pU,Ly,aj];exact⟨4,_,⟨rfl,rfl⟩,by simp⟩
 ·rintro vs rfl;refine⟨rfl,?_⟩;simp[SE.den,aj];exact an8 p m hm l hl
abbrev X3(m:Me)(l:List At):Me:=⟨m.facts++oA (as7.wrap (m.given+1)) m.next l,m.past,m.log,mY m.next l.length,as7.wrap (m.given+1)⟩
abbrev xH(m:Me)(l:List At):IV:=.az [dr (X3 m l),iI (as7.wrap (m.given+1)),iI 0]
theorem an_(p:Pg)(m:Me)(hm:q8 m)(l:List At)(hl:l.length<=5)(g:At->Bool)(hg:∀a∈l,CC 47 af [eK p.decls,iS a.s,iI a.ts.length] (iB (g a))):
 UQ.sat asK CC (·=if∀a∈l,g a=ab then xH m l else kL 7) [k0] [aP p.decls p.rules,aM m,h_ l,x3,x4,x5]:=by
 by_cases bg:∀a∈l,g a=ab
 ·rw[if_pos bg];refine aw l.length (λj (_:Unit)=>[iI j]) (λ_ _=>True) () ?_ trivial λj q hj hq=>?_
  ·simp[SE.den]
  by_cases ai:j<l.length
  ·have hw:=aD ai (by omega);have q9:=hg _ (asO ai);rw[bg _ (asO ai)]at q9;simp[SE.den,ai,hw,ly ai,aj];refine⟨_,q9,?_⟩;simp;exact .mk () rfl (by omega) trivial
  ·simp[SE.den,ai,aj];exact an9 p m hm l hl
 ·rw[if_neg bg];refine aw l.length (λj (_:Unit)=>[iI j]) (λj _=>∃a∈l.drop j,g a=af) () ?_ ?_ λj q hj hq=>?_
  ·simp[SE.den]
  ·simp only[awe]at bg;obtain⟨a,ha,hf⟩:=bg;exact⟨a,by simpa using ha,by simpa using hf⟩
  by_cases ai:j<l.length
  ·have hw:=aD ai (by omega);have q9:=hg _ (asO ai);simp[SE.den,ai,hw,ly ai,aj];refine⟨_,q9,?_⟩;rw[ata ai]at hq;cases hv:g l[j]
   ·simp[kL]
   ·simp;obtain⟨a,ha,hf⟩:=hq;rcases aty.1 ha with rfl|ha
    ·rw[hv]at hf;cases hf
    ·exact .mk () rfl (by omega) ⟨a,ha,hf⟩
  ·rw[atg (by omega)]at hq;obtain⟨a,ha,_⟩:=hq;cases ha
theorem aoa(p:Pg)(m:Me)(hm:q8 m)(l:List At)(hl:l.length<=5)(hn:∀a∈l,nz a)(f g:At->Bool)(hf:∀a∈l,(f a=ab->wN a)/\CC 45 af [.agg [iS a.s,iT a.ts]] (iB (f a)))(hg:∀a∈l,CC 47 af [eK p.decls,iS a.s,iI a.ts.length] (iB (g a))):
 LM.sat asK CC (·=if∀a∈l,f a=ab/\varsOf a.ts=[]then(if∀a∈l,g a=ab then xH m l else kL 7)else kL 2) [] [aP p.decls p.rules,aM m,h_ l,x3,x4]:=by
 by_cases bg:∀a∈l,f a=ab/\varsOf a.ts=[]
 ·rw[if_pos bg];refine aw l.length (λj (_:Unit)=>[iI j]) (λ_ _=>True) () ?_ trivial λj q hj hq=>?_
  ·simp[SE.den]
  by_cases ai:j<l.length
  ·have hw:=aD ai (by omega);have hm:=asO ai;obtain⟨h1,Hl⟩:=hf _ hm;obtain⟨h2,h3⟩:=bg _ hm;have DM:=US af l[j] (hn _ hm) (h1 h2);rw[h2]at Hl;rw[h3]at DM;simp[SE.den,ai,hw,ly ai,aj];refine⟨_,Hl,?_⟩;simp;refine⟨_,DM,?_⟩;simp;exact .mk () rfl (by omega) trivial
  ·simp[SE.den,ai,aj];have:=an_ (x3:=x3) (x4:=x4) (x5:=iI j) (k0:=Hc l.length (λj (_:Unit)=>[iI j]) (λ_ _=>True) j) p m hm l hl g hg;exact this
 ·rw[if_neg bg];refine aw l.length (λj (_:Unit)=>[iI j]) (λj _=>∃a∈l.drop j,¬(f a=ab/\varsOf a.ts=[])) () ?_ ?_ λj q hj hq=>?_
  ·simp[SE.den]
  ·simp only[awe]at bg;obtain⟨a,ha,hf⟩:=bg;exact⟨a,by simpa using ha,hf⟩
  by_cases ai:j<l.length
  ·have hw:=aD ai (by omega);have hm:=asO ai;obtain⟨h1,Hl⟩:=hf _ hm;rw[ata ai]at hq;simp[SE.den,ai,hw,ly ai,aj];refine⟨_,Hl,?_⟩;cases hv:f l[j]
   ·simp[kL]
   ·have DM:=US af l[j] (hn _ hm) (h1 hv);simp;refine⟨_,DM,?_⟩;simp;by_cases hvv:varsOf l[j].ts=[]
    ·right;refine⟨hvv,?_⟩;obtain⟨a,ha,hf⟩:=hq;rcases aty.1 ha with rfl|ha
     ·exact absurd ⟨hv,hvv⟩ hf
     ·exact .mk () rfl (by omega) ⟨a,ha,by simpa using hf⟩
    ·left;exact⟨aur.2 hvv,rfl⟩
  ·rw[atg (by omega)]at hq;obtain⟨a,ha,_⟩:=hq;cases ha
end
theorem n17:(asK.funcs[17]?).map (·.params.size)=aa 3:=by kernel_rfl
theorem t17(a b c:IV):aO asK 17 (.az [a,b,c])=ab:=by kernel_rfl
end Go.Proofs.YtggffkaadeagbaaGreat
namespace Go.Proofs.YtggffkaadeagbaaGreat
open Go Go.Ev
def Ak(l:List At):Prop:=∀a∈l,cC a=ab/\varsOf a.ts=[]
def Al(ds:List De)(l:List At):Prop:=∀a∈l,br ds a.s a.ts.length=ab
open Classical in
noncomputable def iK(p:Pg)(m:Me)(l:List At):IV:=
 if iZ p≠0 then kL (iZ p)else if¬eX p m then kL 2 else if m.given=64\/2147483648<m.next+l.length then kL 6
 else if Ak l then(if Al p.decls l then xH m l else kL 7)else kL 2
theorem abe(e:Int):Ev.Pure (kL e):=.az _ (by
 intro y hy;simp at hy;rcases hy with rfl|rfl|rfl
 ·exact iQ ⟨[],[],[],0,0⟩
 ·exact .raw _
 ·exact .raw _)
theorem X4(m:Me)(l:List At):Ev.Pure (xH m l):=.az _ (by
 intro y hy;simp at hy;rcases hy with rfl|rfl|rfl
 ·exact iQ _
 ·exact .raw _
 ·exact .raw _)
theorem Dj(p:Pg)(m:Me)(l:List At):(∃e,iK p m l=kL e)\/iK p m l=xH m l:=by
 unfold iK;split
 ·exact .inl ⟨_,rfl⟩
 split
 ·exact .inl ⟨_,rfl⟩
 split
 ·exact .inl ⟨_,rfl⟩
 split
 ·split
  ·exact .inr rfl
  ·exact .inl ⟨_,rfl⟩
 ·exact .inl ⟨_,rfl⟩
theorem Ko(p:Pg)(m:Me)(l:List At):Ev.Pure (iK p m l):=by
 rcases Dj p m l with⟨e,h⟩|h<;>rw[h]
 ·exact abe e
 ·exact X4 m l
theorem NY(p:Pg)(m:Me)(l:List At):∃a b c,iK p m l=.az [a,b,c]:=by
 rcases Dj p m l with⟨e,h⟩|h<;>exact⟨_,_,_,h⟩
theorem Vt{p:Pg}{m:Me}{l:List At}(h:iZ p≠0):iK p m l=kL (iZ p):=by rw[iK,if_pos h]
theorem Vu{p:Pg}{m:Me}{l:List At}(h:iZ p=0)(h2:¬eX p m):iK p m l=kL 2:=by rw[iK,if_neg (by simp[h]),if_pos h2]
theorem Vv{p:Pg}{m:Me}{l:List At}(h:iZ p=0)(h2:eX p m)(h3:m.given=64\/2147483648<m.next+l.length):iK p m l=kL 6:=by rw[iK,if_neg (by simp[h]),if_neg (by simp[h2]),if_pos h3]
theorem Vw{p:Pg}{m:Me}{l:List At}(h:iZ p=0)(h2:eX p m)(h3:¬(m.given=64\/2147483648<m.next+l.length))(h4:¬Ak l):iK p m l=kL 2:=by rw[iK,if_neg (by simp[h]),if_neg (by simp[h2]),if_neg h3,if_neg h4]
theorem Vx{p:Pg}{m:Me}{l:List At}(h:iZ p=0)(h2:eX p m)(h3:¬(m.given=64\/2147483648<m.next+l.length))(h4:Ak l)(h5:¬Al p.decls l):iK p m l=kL 7:=by rw[iK,if_neg (by simp[h]),if_neg (by simp[h2]),if_neg h3,if_pos h4,if_neg h5]
theorem Vy{p:Pg}{m:Me}{l:List At}(h:iZ p=0)(h2:eX p m)(h3:¬(m.given=64\/2147483648<m.next+l.length))(h4:Ak l)(h5:Al p.decls l):iK p m l=xH m l:=by rw[iK,if_neg (by simp[h]),if_neg (by simp[h2]),if_neg h3,if_pos h4,if_pos h5]
theorem v17(p:Pg)(hp:yW p)(m:Me)(hm:q8 m)(nD:∀f∈m.facts++m.past,yX f)(l:List At)(hl:l.length<=5)(hn:∀a∈l,nz a):
 CC 17 af [dm p,dr m,h_ l] (iK p m l):=by
 refine CC.of aq4 n17 (by obtain⟨a,b,c,h⟩:=NY p m l;rw[h];exact t17 _ _ _) (by intro y hy;simp at hy;rcases hy with rfl|rfl|rfl;exact fx p;exact iQ m;exact C3 l) (Ko p m l) ?_;have Dw:=v11 p hp;obtain⟨b13,ajL,TI⟩:=v13 p hp m hm nD;have hd:=hp.d;have h3:=λ(x3 x4:IV)=>aoa (x3:=x3) (x4:=x4) p m hm l hl hn cC (λa=>br p.decls a.s a.ts.length) (λa ha=>⟨lB,v45 a (hn a ha)⟩) (λa _=>Hj p.decls a.s a.ts.length (by unfold Sm;omega));have s6:=hm.f;have mZ:=hm.p;have w1:as7.wrap (500-(l.length:Int))=500- l.length:=cQ (by omega) (by omega);have w2:as7.wrap (5000-(l.length:Int))=5000- l.length:=cQ (by omega) (by omega);have w3:as7.wrap (2147483648-(l.length:Int))=2147483648- l.length:=cQ (by omega) (by omega);have w4:as7.wrap ((m.facts.length:Int)+m.past.length)=m.facts.length+m.past.length:=cQ (by omega) (by omega);have q1:=Vt (p:=p) (m:=m) (l:=l);have q2:=Vu (p:=p) (m:=m) (l:=l);have q3:=Vv (p:=p) (m:=m) (l:=l);have q4:=Vw (p:=p) (m:=m) (l:=l);have q5:=Vx (p:=p) (m:=m) (l:=l);have q6:=Vy (p:=p) (m:=m) (l:=l);have Mo:eX p m->m.given<=64/\m.next<=2147483648:=λo=>⟨o.g.2,o.n.2⟩;generalize iK p m l=Z at*
 generalize iZ p=n at*
 generalize eX p m=R at*
 have key:n=0->b13=ab->¬(m.given=64\/2147483648<m.next+l.length)->m.given<=64->LM.sat asK CC (·=Z) [] [aP p.decls p.rules,aM m,h_ l,iI n,iB ab]->GB.sat asK CC (·=Z) [] [dm p,dr m,h_ l]:=λz0 zb z1 z2 hz=>by
  subst zb;simp only[dm,dr]at*
  simp[GB,SE.den,aj,w1,w2,w3,w4];refine⟨_,Dw,?_⟩;simp[ov];right;refine⟨z0,_,TI,?_⟩;simp;right;refine⟨by omega,?_⟩;right;refine⟨by omega,?_⟩;right;refine⟨by omega,?_⟩;right;refine⟨by omega,?_⟩;right;exact⟨by omega,hz⟩
 by_cases z0:n=0
 rotate_left
 ·have:=q1 z0;subst Z;simp only[dm,dr]at*
  simp[GB,SE.den,aj];refine⟨_,Dw,?_⟩;simp[ov];left;exact⟨z0,rfl⟩
 cases b13 with
 |false=>
  have:=q2 z0 λo=>by have:=ajL.2 o;cases this
  subst Z;simp only[dm,dr]at*
  simp[GB,SE.den,aj];refine⟨_,Dw,?_⟩;simp[ov];right;refine⟨z0,_,TI,?_⟩;simp[kL]
 |true=>
 have hR:=ajL.1 rfl;have Mo:=Mo hR;by_cases z1:m.given=64\/2147483648<m.next+l.length
 ·have:=q3 z0 hR z1;subst Z;simp only[dm,dr]at*
  simp[GB,SE.den,aj,w1,w2,w3,w4];refine⟨_,Dw,?_⟩;simp[ov];right;refine⟨z0,_,TI,?_⟩;simp[kL];by_cases y1:64<=m.given
  ·left;exact y1
  right;refine⟨by omega,?_⟩;right;refine⟨by omega,?_⟩;right;refine⟨by omega,?_⟩;right;refine⟨by omega,?_⟩;left;omega
 ·refine key z0 rfl z1 Mo.1 ?_;have h4:=h3 (iI n) (iB ab);by_cases hA:Ak l
  ·have hA':∀a∈l,cC a=ab/\varsOf a.ts=[]:=hA;rw[if_pos hA']at h4;by_cases hD:Al p.decls l
   ·have hD':∀a∈l,br p.decls a.s a.ts.length=ab:=hD;rw[if_pos hD']at h4;rw[q6 z0 hR z1 hA hD];exact h4
   ·have hD':¬∀a∈l,br p.decls a.s a.ts.length=ab:=hD;rw[if_neg hD']at h4;rw[q5 z0 hR z1 hA hD];exact h4
  ·have hA':¬∀a∈l,cC a=ab/\varsOf a.ts=[]:=hA;rw[if_neg hA']at h4;rw[q4 z0 hR z1 hA];exact h4
section
variable{k0 k1:List IV->Prop}{x3 x4 x5 x6:IV}{Z:IV}
theorem aob(p:Pg)(m:Me)(hm:q8 m)(l:List At)(hl:l.length<=5)(Vz:m.next+l.length<=2147483648)(L0:1<=m.next):
 LZ.sat asK CC (·=xH m l) [k0,k1] [dm p,aM m,h_ l,x3,x4,x5,x6,gL m.facts]:=by
 have hf:=hm.f;show LZ.sat asK CC (·=.az [dr (X3 m l),iI (as7.wrap (m.given+1)),iI 0]) _ _;unfold X3;generalize hg:as7.wrap (m.given+1)=g;refine aw l.length (λj (q:List Fa)=>[iI j,iI (mY m.next j),gL q]) (λj q=>q=m.facts++oA g m.next (l.take j)) m.facts ?_ (by simp[oA]) λj q hj hq=>?_
 ·simp[SE.den,aj,mY]
 by_cases ai:j<l.length
 ·have hw:=aD ai (by omega);have hc:=JU (a:=q) ⟨mY m.next j,l[j],[g]⟩ (by rw[hq,atc,Di];simp;omega);simp only[ef,iL,atJ,aun]at hc;simp[SE.den,ai,hw,ly ai,aj,cellsOf,aA,hg,hc];refine .mk (q++[⟨mY m.next j,l[j],[g]⟩]) rfl (by omega) ?_;rw[hq,asX ai,FE,atf,at5,avQ (by omega)]
 ·have he:j=l.length:=by omega
  subst he;rw[awv]at hq;subst hq;simp[SE.den,ai,aj,hg,dr]
theorem aoc(p:Pg)(hd:Sm p.decls)(m:Me)(hm:q8 m)(l:List At)(hl:l.length<=5)(Vz:m.next+l.length<=2147483648)(L0:1<=m.next)(hZ1:Al p.decls l->Z=xH m l)(hZ2:¬Al p.decls l->Z=kL 7):
 Vp.sat asK CC (·=Z) [k0] [dm p,aM m,h_ l,x3,x4,x5]:=by
 have hf:=hm.f;refine aw l.length (λj (_:Unit)=>[iI j]) (λj _=>∀a∈l.take j,br p.decls a.s a.ts.length=ab) () ?_ (by simp) λj q hj hI=>?_
 ·simp[SE.den]
 by_cases ai:j<l.length
 ·have hw:=aD ai (by omega);have h51:=v51 p.decls l[j].s l[j].ts.length hd;have hs:=λa=>aC (p:=λa:At=>br p.decls a.s a.ts.length=ab) ai hI a;simp only[dm]at*
  simp[SE.den,ai,hw,ly ai,aj];refine⟨_,h51,?_⟩;cases hb:br p.decls l[j].s l[j].ts.length<;>simp
  ·exact(hZ2 λo=>by have:=o _ (asO ai);simp[hb]at this).symm
  ·exact .mk () rfl (by omega) (hs hb)
 ·have:=aK ai hI;have pU:=Xn (a:=[]) (b:=m.facts) (by simp;omega);simp only[aun,atO]at pU;have h0:=aob (k0:=k0) (k1:=Hc l.length (λj (_:Unit)=>[iI j]) (λj _=>∀a∈l.take j,br p.decls a.s a.ts.length=ab) j) (x3:=x3) (x4:=x4) (x5:=x5) (x6:=iI j) p m hm l hl Vz L0;rw[<-hZ1 this]at h0;simp only[gL,aun]at pU;simp[SE.den,ai,aj,pU];exact h0
theorem aod(p:Pg)(hd:Sm p.decls)(m:Me)(hm:q8 m)(l:List At)(hl:l.length<=5)(hn:∀a∈l,nz a)(hz:∀a∈l,cg a.ts<=1000000000000)(Vz:m.next+l.length<=2147483648)(L0:1<=m.next)(hZ1:Ak l->Al p.decls l->Z=xH m l)(hZ2:Ak l->¬Al p.decls l->Z=kL 7)(hZ3:¬Ak l->Z=kL 2):
 Vq.sat asK CC (·=Z) [] [dm p,aM m,h_ l,x3,x4]:=by
 refine aw l.length (λj (_:Unit)=>[iI j]) (λj _=>∀a∈l.take j,cC a=ab/\varsOf a.ts=[]) () ?_ (by simp) λj q hj hI=>?_
 ·simp[SE.den]
 by_cases ai:j<l.length
 ·have hw:=aD ai (by omega);have gh:=asO ai;have h49:=v49 l[j] (hn _ gh).1 ((hn _ gh).b (hz _ gh));have hs:=λa=>aC (p:=λa:At=>cC a=ab/\varsOf a.ts=[]) ai hI a;have bC:=λ(h:¬(cC l[j]=ab/\varsOf l[j].ts=[]))=>hZ3 λo=>h (o _ gh);simp[SE.den,ai,hw,ly ai,aj];refine⟨_,h49,?_⟩;cases hb:cC l[j]<;>simp
  ·exact(bC (by simp[hb])).symm
  have h50:=v50 l[j] (hn _ gh).2.1 λt ht=>⟨((hn _ gh).2.2 t ht).wf,lB hb t ht⟩;refine⟨_,h50,?_⟩;simp;by_cases hv:varsOf l[j].ts=[]
  ·right;exact⟨hv,.mk () rfl (by omega) (hs ⟨hb,hv⟩)⟩
  ·left;exact⟨aur.2 hv,(bC λh=>hv h.2).symm⟩
 ·have hA:=aK ai hI;have h1:=aoc (k0:=Hc l.length (λj (_:Unit)=>[iI j]) (λj _=>∀a∈l.take j,cC a=ab/\varsOf a.ts=[]) j) (x3:=x3) (x4:=x4) (x5:=iI j) (Z:=Z) p hd m hm l hl Vz L0 (hZ1 hA) (hZ2 hA);simp[SE.den,ai,aj];exact h1
end
theorem n18:(asK.funcs[18]?).map (·.params.size)=aa 3:=by kernel_rfl
theorem t18(a b c:IV):aO asK 18 (.az [a,b,c])=ab:=by kernel_rfl
theorem v18(p:Pg)(hp:yW p)(hzp:SzP p)(m:Me)(hm:q8 m)(nD:∀f∈m.facts++m.past,yX f)(Vn:SzM m)(l:List At)(hl:l.length<=5)(hn:∀a∈l,nz a)(hz:∀a∈l,cg a.ts<=1000000000000):
 CC 18 af [dm p,dr m,h_ l] (iK p m l):=by
 refine CC.of ary n18 (by obtain⟨a,b,c,h⟩:=NY p m l;rw[h];exact t18 _ _ _) (by intro y hy;simp at hy;rcases hy with rfl|rfl|rfl;exact fx p;exact iQ m;exact C3 l) (Ko p m l) ?_;have DB:=v12 p hp hzp;obtain⟨b14,ajM,YP⟩:=v14 p hp hzp m hm nD Vn;have hd:=hp.d;have s6:=hm.f;have mZ:=hm.p;have w1:as7.wrap ((m.facts.length:Int)+l.length)=m.facts.length+l.length:=cQ (by omega) (by omega);have w4:as7.wrap ((m.facts.length:Int)+m.past.length)=m.facts.length+m.past.length:=cQ (by omega) (by omega);have w2:as7.wrap ((m.facts.length:Int)+m.past.length+l.length)=m.facts.length+m.past.length+l.length:=cQ (by omega) (by omega);have q1:=Vt (p:=p) (m:=m) (l:=l);have q2:=Vu (p:=p) (m:=m) (l:=l);have q3:=Vv (p:=p) (m:=m) (l:=l);have q4:=Vw (p:=p) (m:=m) (l:=l);have q5:=Vx (p:=p) (m:=m) (l:=l);have q6:=Vy (p:=p) (m:=m) (l:=l);have Mo:eX p m->m.given<=64/\1<=m.next/\m.next<=2147483648:=λo=>⟨o.g.2,o.n⟩;have h2:=λVz L0 a b c=>aod (x3:=iI (iZ p)) (x4:=iB ab) (Z:=iK p m l) p (by unfold Sm;omega) m hm l hl hn hz Vz L0 a b c;generalize iK p m l=Z at*
 generalize iZ p=n at*
 generalize eX p m=R at*
 by_cases z0:n=0
 rotate_left
 ·have:=q1 z0;subst Z;simp only[dm,dr]at*
  simp[Kn,SE.den,aj];refine⟨_,DB,?_⟩;simp[ov];left;exact⟨z0,rfl⟩
 cases b14 with
 |false=>
  have:=q2 z0 λo=>by have:=ajM.2 o;cases this
  subst Z;simp only[dm,dr]at*
  simp[Kn,SE.den,aj];refine⟨_,DB,?_⟩;simp[ov];right;refine⟨z0,_,YP,?_⟩;simp[kL]
 |true=>
 have hR:=ajM.1 rfl;have Mo:=Mo hR;have w3:as7.wrap (m.next+(l.length:Int))=m.next+l.length:=cQ (by omega) (by omega);by_cases z1:m.given=64\/2147483648<m.next+l.length
 ·have:=q3 z0 hR z1;subst Z;simp only[dm,dr]at*
  simp[Kn,SE.den,aj,w1,w2,w3,w4];refine⟨_,DB,?_⟩;simp[ov];right;refine⟨z0,_,YP,?_⟩;simp[kL];by_cases y1:m.given=64
  ·left;exact y1
  right;refine⟨by omega,?_⟩;right;refine⟨by omega,?_⟩;right;refine⟨by omega,?_⟩;right;refine⟨by omega,?_⟩;left;omega
 ·have h2:=h2 (by omega) (by omega) (q6 z0 hR z1) (q5 z0 hR z1) (q4 z0 hR z1);simp only[dm,dr]at*
  simp[Kn,SE.den,aj,w1,w2,w3,w4];refine⟨_,DB,?_⟩;simp[ov];right;refine⟨z0,_,YP,?_⟩;simp;right;refine⟨by omega,?_⟩;right;refine⟨by omega,?_⟩;right;refine⟨by omega,?_⟩;right;refine⟨by omega,?_⟩;right;exact⟨by omega,h2⟩
end Go.Proofs.YtggffkaadeagbaaGreat
namespace Go.Proofs.YtggffkaadeagbaaGreat
open Go Go.Ev
theorem n4:(asK.funcs[4]?).map (·.params.size)=aa 3:=by kernel_rfl
theorem t4(z:IV):aO asK 4 z=ab:=by kernel_rfl
theorem af7(p:Pg)(m:Me)(l:List At)(hm:DI m)(hL:q8 m)(hl5:l.length<=5)(qR:∀a∈l,nz a):∃M n e,iK p m l=.az [dr M,iI n,iI e]/\DI M:=by
 rcases Dj p m l with⟨e,h⟩|h
 ·exact⟨⟨[],[],[],0,0⟩,0,e,h,⟨by simp,by simp,by simp,by simp,by simp,by simp⟩⟩
 ·refine⟨_,_,_,h,?_⟩;have s6:=hL.f;have htl:=Di (as7.wrap (m.given+1)) l m.next;have hwA:∀a∈l,ZT a:=λa ha=>⟨(qR a ha).2.1,λt ht=>((qR a ha).2.2 t ht).wf⟩
  exact⟨by unfold Sm;simp only[atc];omega,hm.sp,hm.sl,λx hx=>(List.mem_append.1 hx).elim (hm.f x) (λhx=>by
   obtain⟨h1,h2⟩:=abd _ l _ x hx;exact⟨hwA _ h2,by rw[h1];unfold Sm;simp⟩),hm.p,hm.l⟩
theorem c4(p:Pg)(m:Me)(l:List At)(hp:NmP p)(hm:DI m)(hn:∀f∈m.facts++m.past,yX f)(hl:Sm l)(qR:∀a∈l,nz a)(hz:SzP p)(Vn:SzM m)(ME:∀a∈l,cg a.ts<=1000000000000):CC 4 af [dm p,dr m,h_ l] (iB ab):=by
 refine CC.of ex4 n4 (t4 _) (by intro z hz;simp at hz;rcases hz with rfl|rfl|rfl;exact fx p;exact iQ m;exact C3 l) (by simp) ?_;obtain⟨b10,f10,Ep⟩:=e10 p hp m hm;obtain⟨b16,f16,h16⟩:=e16 l hl qR;cases b10 with
 |false=>
  simp only[dm,dr]at*
  simp[X1,SE.den,aj];refine⟨_,Ep,?_⟩;simp
 |true=>
 obtain⟨hP,hL⟩:=f10 rfl;cases b16 with
 |false=>
  simp only[dm,dr]at*
  simp[X1,SE.den,aj];refine⟨_,Ep,?_⟩;simp;refine⟨_,h16,?_⟩;simp
 |true=>
 obtain⟨hl5,_⟩:=f16 rfl;have h17:=v17 p hP m hL hn l hl5 qR;have h18:=v18 p hP hz m hL hn Vn l hl5 qR ME;obtain⟨M,n,e,hZ,hM⟩:=af7 p m l hm hL hl5 qR;rw[hZ]at h17 h18;have h19:=c19 M M hM;rw[Xs]at h19;simp only[dm,dr]at*
 simp[X1,SE.den,aj];refine⟨_,Ep,?_⟩;simp;refine⟨_,h16,?_⟩;simp;refine⟨_,h17,?_⟩;simp[aj];refine⟨_,h18,?_⟩;simp[aj];refine⟨_,h19,?_⟩;simp;exact⟨_,c15,by simp⟩
end Go.Proofs.YtggffkaadeagbaaGreat
