/- A part of the proof, no condition: the check of a program; justifications. -/
import Derived.Test.YtggffkaadeagbaaGreatRkG
import Derived.Test.YtggffkaadeagbaaGreatRgI
import Derived.Test.YtggffkaadeagbaaGreatRiM
import Derived.Test.YtggffkaadeagbaaGreatRiP
open Go.Proofs.Tryz renaming prog->aqD
open List renaming getElem_mem->aqI,length_append->aq3,take_of_length_le->aqT,mem_append_right->arn,drop_eq_getElem_cons->arj,map_cons->arC,map_nil->as_,drop_of_length_le->aro,take_succ_eq_append_getElem->aqR,mem_append->aqX,mem_singleton->arx,take_append_drop->asi,pairwise_append->asa,singleton_append->auT,pairwise_cons->atU,mem_cons->arv,nil_append->arI,mem_cons_of_mem->arW,pairwise_iff_getElem->asM
open Nat renaming lt_succ_iff_lt_or_eq->asV,le_of_lt->awg
open Go.Lib renaming compactUpTo->atL,keeps->avM
open Classical renaming byContradiction->arq
set_option linter.all false
namespace Go.Proofs.YtggffkaadeagbaaGreat
open Go Go.Ev
def mT(a:List Int):List Gl→Prop
 |[]=>True
 |g::l=>if g.op=3 then False else if g.op=0 then(∀v∈varsOf g.ts,v∈a)∧mT a l
  else if g.op=4 then∃t0 t1,g.ts=[t0,t1]∧t0.k=1∧t0.n∉a∧(∀v∈varsOf [t1],v∈a)∧mT (a++[t0.n]) l
  else mT a l
theorem Ax:∀(l:List Gl) (a b:List Int),(∀v,v∈a↔v∈b)→(mT a l↔mT b l)
 |[],_,_,_=>Iff.rfl
 |g::l,a,b,h=>by
  unfold mT;split
  ·rfl
  split
  ·rw[Ax l a b h];simp only[h]
  split
  ·refine exists_congr fun t0=>exists_congr fun t1=>?_;rw[Ax l (a++[t0.n]) (b++[t0.n]) (fun v=>by simp[h])];simp only[h]
  ·exact Ax l a b h
def ME(r:Rl):Prop:=mT (eX (r.keep++r.remove)) r.body
theorem acZ{a:List Int}{g:Gl}{l:List Gl}(h:g.op=3):mT a (g::l)↔False:=by rw[mT,if_pos h]
theorem ac0{a:List Int}{g:Gl}{l:List Gl}(h:g.op=0):mT a (g::l)↔(∀v∈varsOf g.ts,v∈a)∧mT a l:=by rw[mT,if_neg (by omega),if_pos h]
theorem ac1{a:List Int}{g:Gl}{l:List Gl}{t0 t1:Tm}(h:g.op=4)(ht:g.ts=[t0,t1]):mT a (g::l)↔t0.k=1∧t0.n∉a∧(∀v∈varsOf [t1],v∈a)∧mT (a++[t0.n]) l:=by
 rw[mT,if_neg (by omega),if_neg (by omega),if_pos h];refine⟨fun⟨u0,u1,e,h⟩=>?_,fun h=>⟨t0,t1,ht,h⟩⟩;rw[ht]at e;injection e with e1 e2;injection e2 with e2 _;subst e1;subst e2;exact h
theorem Wj{a:List Int}{g:Gl}{l:List Gl}(h3:g.op≠3)(h0:g.op≠0)(h4:g.op≠4):mT a (g::l)↔mT a l:=by rw[mT,if_neg h3,if_neg h0,if_neg h4]
theorem v95(t:Tm)(h:WF t):CC 95 false [dB t] (iL (varsOf [t])):=by
 refine CC.B9 aor n95 t95 (by simpa using mQ t) (by rfl) ?_;have hb:=abo t h.1 h.2 [] Vr.nil;have e:cK [] (fX t)=varsOf [t]:=by show _=cK [] (fq [t]);simp[fq]
 rw[e]at hb;rw[cI]at hb⊢;simp[acr,SE.den,af,aw,cellsOf];exact⟨_,hb,by simp⟩
section rule
variable{Q:IV→Prop}{k0 k1 k2 k3 k4 k5:List IV→Prop}
theorem alS{x0 x1 x2 x3 x4 x6 x7 x8:IV}{kn:List Int}{n:Int}(hk:kn.length≤1000000000)(h:k4 [iB (decide (n∈kn))]):
 Tk.sat aqD CC Q [k0,k1,k2,k3,k4] [x0,x1,x2,x3,x4,iL kn,x6,x7,x8,iI n]:=by
 refine ao kn.length (fun i (_:Unit)=>[iI i]) (fun i _=>∀x∈kn.take i,x≠n) () ?_ (by simp) fun i _ hi hI=>?_
 ·simp[SE.den]
 by_cases aa:i<kn.length
 ·have hw:=az aa (by omega);simp[SE.den,aa,hw,dC aa,cellsOf];by_cases he:kn[i]=n
  ·left;refine⟨he,?_⟩;rw[decide_eq_true (he▸aqI aa)]at h;exact h
  ·right;exact⟨he,.mk () rfl (by omega) (ay aa hI he)⟩
 ·have:=aF aa hI;simp[SE.den,aa];rw[decide_eq_false (fun hm=>this _ hm rfl)]at h;exact h
theorem ahM{x0 x1 x2 x3 x4 x6 x7 x8 x9 eh iV iD:IV}{kn:List Int}{n:Int}(hk:kn.length≤1000000000)(h:k4 [iB (decide (n∈kn))]):
 P4.sat aqD CC Q [k0,k1,k2,k3,k4] [x0,x1,x2,x3,x4,iL kn,x6,x7,x8,x9,eh,iV,iD,iI n]:=by
 refine ao kn.length (fun i (_:Unit)=>[iI i]) (fun i _=>∀x∈kn.take i,x≠n) () ?_ (by simp) fun i _ hi hI=>?_
 ·simp[SE.den]
 by_cases aa:i<kn.length
 ·have hw:=az aa (by omega);simp[SE.den,aa,hw,dC aa,cellsOf];by_cases he:kn[i]=n
  ·left;refine⟨he,?_⟩;rw[decide_eq_true (he▸aqI aa)]at h;exact h
  ·right;exact⟨he,.mk () rfl (by omega) (ay aa hI he)⟩
 ·have:=aF aa hI;simp[SE.den,aa];rw[decide_eq_false (fun hm=>this _ hm rfl)]at h;exact h
theorem ahN{x0 x1 x2 x3 x4 x6 x7 a c d:IV}{kn:List Int}{n:Int}(hk:kn.length≤1000000000)(h:k2 [iB (decide (n∈kn))]):
 P3.sat aqD CC Q [k0,k1,k2] [x0,x1,x2,x3,x4,iL kn,x6,x7,.agg [a,iI n,c,d]]:=by
 refine ao kn.length (fun i (_:Unit)=>[iI i]) (fun i _=>∀x∈kn.take i,x≠n) () ?_ (by simp) fun i _ hi hI=>?_
 ·simp[SE.den]
 by_cases aa:i<kn.length
 ·have hw:=az aa (by omega);simp[SE.den,aa,hw,dC aa,cellsOf];by_cases he:kn[i]=n
  ·left;refine⟨he,?_⟩;rw[decide_eq_true (he▸aqI aa)]at h;exact h
  ·right;exact⟨he,.mk () rfl (by omega) (ay aa hI he)⟩
 ·have:=aF aa hI;simp[SE.den,aa];rw[decide_eq_false (fun hm=>this _ hm rfl)]at h;exact h
theorem alT{x0 x1 x2 x3 x4 x6:IV}{kn l:List Int}(hk:kn.length≤1000000000)(hl:l.length≤1000000000)(h:∀b,(b=true↔∀v∈l,v∈kn)→k2 [iB b]):
 Tl.sat aqD CC Q [k0,k1,k2] [x0,x1,x2,x3,x4,iL kn,x6,iL l]:=by
 refine ao l.length (fun i (_:Unit)=>[iI i]) (fun i _=>∀v∈l.take i,v∈kn) () ?_ (by simp) fun i _ hi hI=>?_
 ·simp[SE.den]
 by_cases aa:i<l.length
 ·have hw:=az aa (by omega);simp[SE.den,aa,hw,dC aa];refine pe (fun vs=>vs=[iB (decide (l[i]∈kn))]) (alS hk rfl) ?_;rintro vs rfl;refine⟨rfl,?_⟩;by_cases hq:l[i]∈kn<;>simp[SE.den,hw,hq]
  ·exact .mk () rfl (by omega) (ay aa hI hq)
  ·exact h _ ⟨fun h=>(by cases h),fun h=>absurd (h _ (aqI aa)) hq⟩
 ·simp[SE.den,aa];exact h _ ⟨fun _=>aF aa hI,fun _=>rfl⟩
theorem ahO{x0 x1 x2 x3 x4 x6 x7 x8 x9 eh:IV}{kn l:List Int}(hk:kn.length≤1000000000)(hl:l.length≤1000000000)(h:∀b,(b=true↔∀v∈l,v∈kn)→k2 [iB b]):
 P5.sat aqD CC Q [k0,k1,k2] [x0,x1,x2,x3,x4,iL kn,x6,x7,x8,x9,eh,iL l]:=by
 refine ao l.length (fun i (_:Unit)=>[iI i]) (fun i _=>∀v∈l.take i,v∈kn) () ?_ (by simp) fun i _ hi hI=>?_
 ·simp[SE.den]
 by_cases aa:i<l.length
 ·have hw:=az aa (by omega);simp[SE.den,aa,hw,dC aa];refine pe (fun vs=>vs=[iB (decide (l[i]∈kn))]) (ahM hk rfl) ?_;rintro vs rfl;refine⟨rfl,?_⟩;by_cases hq:l[i]∈kn<;>simp[SE.den,hw,hq]
  ·exact .mk () rfl (by omega) (ay aa hI hq)
  ·exact h _ ⟨fun h=>(by cases h),fun h=>absurd (h _ (aqI aa)) hq⟩
 ·simp[SE.den,aa];exact h _ ⟨fun _=>aF aa hI,fun _=>rfl⟩
end rule
theorem Jg{l:List At}{i:Nat}(h:i<l.length):eX (l.take (i+1))=eX (l.take i)++varsOf l[i].ts:=vm (f:=fun a:At=>varsOf a.ts) h
theorem v35(r:Rl)(h:IW r)(hF:An r):∃b,(b=true↔ME r)∧CC 35 false [oc r] (iB b):=by
 refine CC.q7 _ aox n35 t35 (by simpa using ji r) (by rfl) ?_;have h91:=c91 r (by have:=h.h;omega);have hl:=h.h;have hb:=h.b;have h1:=h.hs;have h2:=hF.hs;have g1:=h.gs;have g2:=hF.gs;rw[←aq3]at hl;unfold ME;rw[iQ]at h91⊢;generalize r.keep++r.remove=hs at h91 hl h1 h2⊢;obtain⟨rn,rk,rr,rg,rb,rv⟩:=r;simp only at*
 simp[acx,SE.den,af];refine⟨_,h91,?_⟩;simp;unfold P7;refine ao hs.length (fun i (a:List Int)=>[iI i,iL a]) (fun i a=>a=eX (hs.take i)∧a.length≤1048577*i) [] ?_ (by simp[eX]) fun i a hi hI=>?_
 ·simp[SE.den]
 obtain⟨ig,hI⟩:=hI;by_cases aa:i<hs.length
 ·have hw:=az aa (by omega);have hm:=aqI aa;have hb:=v50 hs[i] (by have:=h1 _ hm;unfold Sm;omega) (h2 _ hm);have Zh:=(pB fun t ht=>(h2 _ hm t ht).2).len;have Zt:=Jg aa;generalize varsOf hs[i].ts=l at hb Zh Zt;have hc:=nO (a:=a) (b:=l) (by omega);have hr:=YH l;simp[SE.den,aa,hw,rB aa,af];refine⟨_,hb,?_⟩;simp[SE.den,hc,hr,hw];refine⟨?_,.mk (a++l) (by simp) (by omega) ⟨by rw[Zt,ig],by simp;omega⟩⟩;simp[cellsOf,aw]
 rw[aqT (by omega)]at ig;rw[←ig];clear ig;simp[SE.den,aa,af];unfold P6;refine ao rb.length (fun i (a:List Int)=>[iI i,iL a]) (fun i b=>b.length≤4000000+i∧(mT a rb↔mT b (rb.drop i))) a ?_ ⟨by omega,by simp⟩ fun i b hi hI=>?_
 ·simp[SE.den]
 obtain⟨hI,hG⟩:=hI;by_cases dY:i<rb.length
 ·have hw:=az dY (by omega);have hm:rb[i]∈rg++rb:=arn _ (aqI dY);have r8:=g1 _ hm;obtain⟨har,jd⟩:=g2 _ hm;have hb:=v93 rb[i] (by unfold Sm;omega) jd;have Zh:=(pB fun t ht=>(jd t ht).2).len;rw[arj dY]at hG;generalize mT a rb=O at hG⊢;simp[SE.den,dY,lT dY,af];by_cases o3:rb[i].op=3
  ·left;exact⟨o3,by rw[acZ o3]at hG;exact hG.1⟩
  right;refine⟨o3,?_⟩;by_cases o0:rb[i].op=0
  ·left;refine⟨o0,_,hb,?_⟩;rw[ac0 o0]at hG;generalize varsOf rb[i].ts=l at*
   simp;refine pe (fun vs=>∃c,vs=[iB c]∧(c=true↔∀v∈l,v∈b)) (alT (by omega) (by omega) fun c hc=>⟨c,rfl,hc⟩) ?_;rintro vs ⟨c,rfl,hc⟩;refine⟨rfl,?_⟩;cases c<;>simp[SE.den,o0,hw]
   ·intro o;have:=hc.2 (hG.1 o).1;cases this
   ·exact .mk b (by simp) (by omega) ⟨by omega,hG.trans ⟨fun h=>h.2,fun h=>⟨hc.1 rfl,h⟩⟩⟩
  right;refine⟨o0,?_⟩;by_cases o4:rb[i].op=4
  rotate_left
  ·right;refine⟨o4,?_⟩;simp[hw];rw[Wj o3 o0 o4]at hG;exact .mk b (by simp) (by omega) ⟨by omega,hG⟩
  left;refine⟨o4,?_⟩
  have hlen:rb[i].ts.length=2:=by
   have:=har o0;rw[o4]at this;simp[gu]at this;omega
  obtain⟨t0,t1,qd⟩:∃t0 t1,rb[i].ts=[t0,t1]:=by
   match hq:rb[i].ts,hlen with
   |[a,b],_=>exact⟨a,b,rfl⟩
  rw[ac1 o4 qd]at hG;have w1:WF t1:=jd _ (by rw[qd];simp);have h95:=v95 t1 w1;have qz:=(pB (ts:=[t1]) (by simpa using w1.2)).len;generalize varsOf [t1]=l1 at*
  rw[cI]at h95;have i0:dx 4 (iT rb[i].ts) (iI 0)=some (dB t0):=by rw[qd];exact uh (l:=[t0,t1]) (i:=0) (by simp)
  have i1:dx 4 (iT rb[i].ts) (iI 1)=some (dB t1):=by rw[qd];exact uh (l:=[t0,t1]) (i:=1) (by simp)
  rw[cI]at i0 i1;simp only[iT]at i0 i1;simp[SE.den,i0,af];by_cases kk:t0.k=1
  rotate_left
  ·left;exact⟨kk,fun o=>kk (hG.1 o).1⟩
  right;refine⟨kk,?_⟩;refine pe (fun vs=>vs=[iB (decide (t0.n∈b))]) (ahN (by omega) rfl) ?_;rintro vs rfl;refine⟨rfl,?_⟩;by_cases hn:t0.n∈b
  ·simp[SE.den,i1,af,hn];exact fun o=>(hG.1 o).2.1 hn
  simp[SE.den,i1,af,hn];refine⟨_,h95,?_⟩;simp;refine pe (fun vs=>∃c,vs=[iB c]∧(c=true↔∀v∈l1,v∈b)) (ahO (by omega) (by omega) fun c hc=>⟨c,rfl,hc⟩) ?_;rintro vs ⟨c,rfl,oN⟩;refine⟨rfl,?_⟩;have hc:=nO (a:=b) (b:=[t0.n]) (by simp;omega);simp only[iL,arC,as_]at hc;cases c<;>simp[SE.den,i0,af,aw,cellsOf,hc,hw]
  ·intro o;have:=oN.2 (hG.1 o).2.2.1;cases this
  ·exact .mk (b++[t0.n]) (by simp) (by omega) ⟨by simp;omega,hG.trans ⟨fun h=>h.2.2.2,fun h=>⟨kk,hn,oN.1 rfl,h⟩⟩⟩
 ·rw[aro (by omega),mT]at hG;simp[SE.den,dY];exact hG.2 trivial
structure MF(p:Pg):Prop where
 o:oH p
 c:∀r∈p.rules,ME r
theorem tH.fo{ds:List De}{r:Rl}(h:tH ds r)(hn:IX r):An r:=hn.for (fun a ha=>ny (h.hs a ha)) (fun a ha=>uo (h.gs a ha))
open Classical in
noncomputable def pC(p:Pg):Int:=if oH p then(if MF p then 0 else 19)else 2
theorem Ra{p:Pg}(h:MF p):pC p=0:=by rw[pC,if_pos h.o,if_pos h]
theorem KE{p:Pg}(h:oH p)(h':¬MF p):pC p=19:=by rw[pC,if_pos h,if_neg h']
theorem Rb{p:Pg}(h:¬oH p):pC p=2:=by rw[pC,if_neg h]
theorem xU{p:Pg}:pC p=0↔MF p:=by
 refine⟨fun h=>?_,Ra⟩;by_cases h1:oH p
 ·by_cases h2:MF p
  ·exact h2
  ·rw[KE h1 h2]at h;omega
 ·rw[Rb h1]at h;omega
theorem CC.abw{n:Nat}{new:Bool}{f:FuncId}{cB:ab}{args:List IV}{cfg:bj}{s:Int}(he:aI aqD cfg n new f=cB)(hl:(aqD.funcs[f]?).map (·.params.size)=some args.length)(ht:∀z,aN aqD f z=true)(hp:∀x∈args,Pure x)(hn:noTwo cB=true)
 (hs:cB.sat aqD CC (gH (·=s)) [] args):CC f new args (iI s):=by
 obtain⟨_,rfl,h⟩:=CC.Ki (·=s) he hl ht hp hn hs;exact h
theorem v12(p:Pg)(h:Ao p)(hz:∀r∈p.rules,SzR r):CC 12 false [f_ p] (iI (pC p)):=by
 refine CC.abw aoi n12 t12 (by simpa using ga p) (by rfl) ?_;obtain⟨a34,n34,hF,h34⟩:=v34 p h hz;have e2:=fun m:¬oH p=>Rb m;have Rc:=fun(a:oH p) (r) (hr:r∈p.rules) (m:¬ME r)=>KE a fun o=>m (o.c r hr);have e0:=fun a b=>Ra (⟨a,b⟩:MF p);have hfo:oH p→∀r∈p.rules,An r:=fun o r hr=>(o.r r hr).fo (h.rn r hr);generalize pC p=N at e2 Rc e0⊢;generalize oH p=O' at e2 Rc e0 hF hfo;obtain⟨ds,rs⟩:=p;obtain⟨hd,hr,dn,vn,C5⟩:=h;simp only at*
 change CC 34 false [.agg [eI ds,xN rs]] _ at h34;show VQ.sat _ _ _ _ [.agg [eI ds,xN rs]];simp[VQ,SE.den,af];refine⟨_,h34,?_⟩;simp;by_cases z:n34=0
 rotate_left
 ·left;exact⟨z,(e2 fun o=>z (hF.2 o)).symm⟩
 right;refine⟨z,?_⟩;unfold S5;refine ao rs.length (fun i (_:Unit)=>[iI i]) (fun i _=>∀r∈rs.take i,ME r) () ?_ (by simp) fun i _ hi hI=>?_
 ·simp[SE.den]
 by_cases aa:i<rs.length
 ·have hw:=az aa (by omega);have hm:=aqI aa;obtain⟨b,CH,hb⟩:=v35 rs[i] (vn _ hm) (hfo (hF.1 z) _ hm);rw[iQ]at hb;simp[SE.den,aa,hw,Ha aa,af];refine⟨_,hb,?_⟩;cases b<;>simp
  ·exact(Rc (hF.1 z) _ hm fun o=>by have:=CH.2 o;cases this).symm
  ·exact .mk () rfl (by omega) (ay aa hI (CH.1 rfl))
 ·simp[SE.den,aa];exact(e0 (hF.1 z) (aF aa hI)).symm
end Go.Proofs.YtggffkaadeagbaaGreat
namespace Go.Proofs.YtggffkaadeagbaaGreat
open Go Go.Ev
theorem aer(l:List Int)(x:Int):tE l x=qu l x:=rfl
theorem Eu{v x:Int}{l:List Int}:v∈tE l x↔v∈l∨v=x:=by
 have:=nz (v:=v) [x] l;simpa[cK,aer]using this
section
variable{Q:IV→Prop}{k0:List IV→Prop}{D:Prop}
def T6(ds:List De):Prop:=(∀d∈ds,fN d.s=true∧0≤d.n∧d.n≤6)∧∀(i:Nat) (h:i<ds.length),bu (ds.take i) ds[i].s ds[i].n=false
theorem Re{ds:List De}{d:De}:bu ds d.s d.n=true↔d∈ds:=by
 rw[Eo];refine⟨fun⟨e,h1,h2,h3⟩=>?_,fun h=>⟨d,h,rfl,rfl⟩⟩;cases d;cases e;simp only at h2 h3;subst h2;subst h3;exact h1
theorem alU(p:Pg)(h:Ao p){x1:IV}(hk:∀n:Int,(n=0↔T6 p.decls)→k0 [iI n]):Tz.sat aqD CC Q [k0] [.agg [eI p.decls,xN p.rules],x1]:=by
 obtain⟨ds,rs⟩:=p;obtain⟨hd,hr,dn,vn,C5⟩:=h;simp only at*
 refine ao ds.length (fun j (dl:List De)=>[iI j,.av (dl.map yZ)]) (fun j dl=>dl=ds.take j∧(∀d∈ds.take j,fN d.s=true∧0≤d.n∧d.n≤6)∧∀(i:Nat) (h:i<ds.length),i<j→bu (ds.take i) ds[i].s ds[i].n=false) [] ?_ ⟨rfl,by simp,fun _ _ h=>absurd h (by omega)⟩ fun j dl hj hI=>?_
 ·simp[SE.den]
 obtain⟨CQ,nQ,jh⟩:=hI;by_cases aa:j<ds.length
 ·have hw:=az aa (by omega);have iE:=aqI aa;have h83:=Zk ds[j].s;have bx:∀n:Int,n≠0→¬T6 ds→k0 [iI n]:=fun n h1 h2=>hk n ⟨fun h=>absurd h h1,fun h=>absurd h h2⟩;simp[SE.den,aa,hw,tF aa,af,aw];refine⟨_,h83,?_⟩;cases b83:fN ds[j].s<;>simp[aw]
  ·exact bx 7 (by omega) fun m=>by have:=(m.1 _ iE).1;simp[b83]at this
  by_cases z1:0≤ds[j].n
  rotate_left
  ·right;exact⟨by omega,bx 9 (by omega) fun m=>z1 (m.1 _ iE).2.1⟩
  left;refine⟨z1,?_⟩;by_cases z2:ds[j].n≤6
  rotate_left
  ·left;exact⟨by omega,bx 9 (by omega) fun m=>z2 (m.1 _ iE).2.2⟩
  right;refine⟨by omega,?_⟩;by_cases hm:ds[j]∈dl
  ·obtain⟨q,g1,g2⟩:=(Tp dl ds[j]).1 hm;simp only[iS,iI]at g1;simp[g1,g2,yZ,aw];exact bx 8 (by omega) fun m=>by have:=m.2 j aa;rw[Re.2 (CQ▸hm)]at this;cases this
  ·have g1:=(Tp dl ds[j]).2 hm;simp only[iS,iI]at g1
   have hf:bu (ds.take j) ds[j].s ds[j].n=false:=by
    cases hb:bu (ds.take j) ds[j].s ds[j].n with
    |false=>rfl
    |true=>exact absurd (CQ▸Re.1 hb) hm
   simp[g1,aw];refine .mk (dl++[ds[j]]) (by simp[yZ]) (by omega) ⟨by rw[aqR aa,CQ],ay aa nQ ⟨b83,z1,z2⟩,fun i hi mI=>?_⟩;rcases asV.1 mI with mI|rfl
   ·exact jh i hi mI
   ·exact hf
 ·have hD:T6 ds:=⟨aF aa nQ,fun i hi=>jh i hi (by omega)⟩;simp[SE.den,aa,aw,af];right;exact⟨by omega,hk 0 ⟨fun _=>hD,fun _=>rfl⟩⟩
theorem v32(p:Pg)(h:Ao p):∃a n,(n=0↔oH p)∧CC 32 false [f_ p] (.av [iI a,iI n]):=by
 refine CC.agt _ aoW n32 t32 (by simpa using ga p) (by rfl) ?_;show Wb.sat _ _ _ _ [.agg [eI p.decls,xN p.rules]];have hd:=h.d;have hr:=h.r;have CE:=fun m:oH p=>(⟨m.d,m.u⟩:T6 p.decls);have CF:=fun m:oH p=>m.r;have hO:=fun(a:T6 p.decls) b=>(⟨a.1,a.2,b⟩:oH p);generalize oH p=O at CE CF hO⊢;simp[Wb,SE.den,af];unfold TB;refine pe (fun vs=>∃n:Int,vs=[iI n]∧(n=0↔T6 p.decls)) ?_ ?_
 ·simp[SE.den,af];refine⟨_,acR true (.av []),?_⟩;by_cases z:30<p.decls.length
  ·omega
  ·right;exact⟨by omega,alU p h fun n hn=>⟨n,rfl,hn⟩⟩
 ·rintro vs ⟨n,rfl,hn⟩;refine⟨rfl,?_⟩;simp[SE.den,af,xO];by_cases z:n=0
  rotate_left
  ·left;exact⟨z,by simp[z];exact fun o=>z (hn.2 (CE o))⟩
  right;refine⟨z,?_⟩;unfold TA;refine ao p.rules.length (fun i (_:Unit)=>[iI i]) (fun i _=>∀r∈p.rules.take i,tH p.decls r) () ?_ (by simp) fun i _ hi hI=>?_
  ·simp[SE.den]
  by_cases aa:i<p.rules.length
  ·have hw:=az aa (by omega);have hm:=aqI aa;obtain⟨m,hF,hb⟩:=v84 p.decls p.rules[i] ⟨by unfold Sm;omega,h.rs _ hm,h.rn _ hm⟩;rw[iQ]at hb;simp[SE.den,aa,hw,Ha aa,af];refine⟨_,hb,?_⟩;simp[xO];by_cases z:m=0
   ·right;exact⟨z,.mk () rfl (by omega) (ay aa hI (hF.1 z))⟩
   ·left;exact⟨z,by simp[z];exact fun o=>z (hF.2 (CF o _ hm))⟩
  ·simp[SE.den,aa];exact hO (hn.1 z) (aF aa hI)
end
theorem apm(ks l:List Int)(hl:Sm l):∃b,(b=true↔∀v∈l,v∈ks)∧q6 aqD 86 (ks.map mb) [iL l] (iB b):=by
 have hs:Qp.sat aqD CC (nu fun b=>b=true↔∀v∈l,v∈ks) [] [iM ks,iL l]:=by
  simp[Qp,Qo,SE.den,af];refine ao l.length (fun i (_:Unit)=>[iI i]) (fun i _=>∀v∈l.take i,v∈ks) () ?_ (by simp) fun i _ hi hI=>?_
  ·simp[SE.den]
  by_cases aa:i<l.length
  ·have hw:=az aa hl;have uj:=S1 (ν:=[iM ks,iI l[i]]) (m:=.var 0) (key:=.var 1) (ks:=ks) (k:=l[i]) rfl rfl;have Ho:=S0 (ν:=[iM ks,iI l[i]]) (m:=.var 0) (key:=.var 1) (ks:=ks) (k:=l[i]) rfl rfl;simp[SE.den]at uj Ho;simp only[iI]at uj Ho;simp[SE.den,aa,hw,dC aa,af];obtain⟨hq,SO,Iy⟩:=Ho;refine⟨⟨_,uj⟩,iB (decide (l[i]∈ks)),⟨hq,SO,by rw[Iy]⟩,?_⟩;by_cases z:l[i]∈ks
   ·simp[z,aw];exact .mk () rfl (by omega) (ay aa hI z)
   ·simp[z,aw];exact⟨_,aqI aa,z⟩
  ·simp[SE.den,aa,aw];exact aF aa hI
 obtain⟨z,⟨b,rfl,hb⟩,h2⟩:=xL (by rfl) hs;exact⟨b,hb,q6.nj mixed vD aln n86 (by simp) (I8 _) ⟨_,rfl,rfl⟩ h2⟩
theorem Wk(new:Bool)(ks l:List Int)(hl:Sm l):∃b,(b=true↔∀v∈l,v∈ks)∧CC 2222 new [iM ks,iL l] (iB b):=by
 obtain⟨b,h0,hb⟩:=apm ks l hl;have h:=mR.look (new:=new) (kG n86) hb;rw[dK]at h;refine⟨b,h0,?_⟩;unfold CC;rw[dK];exact h
section
variable{Q:IV→Prop}{k0 k1 k2:List IV→Prop}{x0 x1 x2 x3 x4 x5 x6 x7 x8 x9 eh iV:IV}
theorem alV(i:Nat)(hi:i<1000)(ks l:List Int)(hl:Sm l)(hk:∀q,(∀v,v∈q↔v∈ks∨v∈l)→k0 [iI (i+1:Nat),iM q]):TD.sat aqD CC Q [k0] [x0,x1,iI i,iM ks,x4,iL l]:=by
 have gd:=az hi (by omega);refine ao l.length (fun j (q:List Int)=>[iI j,iM q]) (fun j q=>∀v,v∈q↔v∈ks∨v∈l.take j) ks ?_ (by simp) fun j q hj hI=>?_
 ·simp[SE.den]
 by_cases aa:j<l.length
 ·have hw:=az aa hl;have rC:=Fq (ν:=[iM q,iI l[j]]) (m:=.var 0) (key:=.var 1) (ks:=q) (k:=l[j]) rfl rfl;simp[SE.den]at rC;simp only[iI]at rC;simp[SE.den,aa,hw,dC aa,af];refine⟨_,rC,.mk _ rfl (by omega) fun v=>?_⟩;rw[Eu,hI,aqR aa,aqX,arx,or_assoc]
 ·simp[SE.den,aa,gd];rw[aqT (by omega)]at hI;exact hk q hI
theorem alW(i:Nat)(hi:i<1000)(ks:List Int)(a n:Int)(s t:IV)(hk:∀q,(∀v,v∈q↔v∈ks∨v=n)→k1 [iI (i+1:Nat),iM q]):TE.sat aqD CC Q [k0,k1] [x0,x1,x2,x3,iI i,iM ks,x6,.agg [iI a,iI n,s,t],x8,x9,eh,iV]:=by
 have gd:=az hi (by omega);have hx:∀j (hj:j<[n].length),dx 1 (iL [n]) (iI (j:Nat))=some (iI [n][j]):=fun j hj=>dC hj;refine ao 1 (fun j (q:List Int)=>[iI j,iM q]) (fun j q=>∀v,v∈q↔v∈ks∨(j=1∧v=n)) ks ?_ (by simp) fun j q hj hI=>?_
 ·simp[SE.den]
 by_cases aa:j<1
 ·have hw:=az aa (by omega);have h0:j=0:=by omega
  subst h0;have rC:=Fq (ν:=[iM q,iI n]) (m:=.var 0) (key:=.var 1) (ks:=q) (k:=n) rfl rfl;simp[SE.den]at rC;simp only[iI]at rC;have ie:dx 1 (.tree 1 [iI n]) (iI 0)=some (iI n):=hx 0 (by simp);simp[SE.den,af,cellsOf,ie];refine⟨_,rC,?_⟩;have Pm:IntKind.i64.wrap 1=1:=dL (by omega) (by omega);simp[Pm];refine .mk _ rfl (by omega) fun v=>?_;rw[Eu,hI];simp
 ·have h1:j=1:=by omega
  subst h1;simp[SE.den,af,cellsOf,gd];exact hk q fun v=>by rw[hI];simp
theorem alX{O:Prop}(r:Rl)(hg:r.body.length≤6)(hb:∀g∈r.body,r6 g∧vE g∧(g.op≠0→gu g.op=g.ts.length))(fi:∀g∈r.body,g.op=0∨g.op=1∨g.op=2∨g.op=3∨g.op=4)(ks:List Int)(hO:mT ks r.body↔O):TF.sat aqD CC (nu fun b=>b=true↔O) [k0] [aR r,x1,x2,iM ks]:=by
 refine ao r.body.length (fun j (q:List Int)=>[iI j,iM q]) (fun j q=>O↔mT q (r.body.drop j)) ks ?_ (by simpa using hO.symm) fun j q hj hG=>?_
 ·simp[SE.den,af]
 by_cases aa:j<r.body.length
 ·have hw:=az aa (by omega);obtain⟨h1,h2,h3⟩:=hb _ (aqI aa);have ho:=fi _ (aqI aa);have TI:=c87 false r.body[j] h1 h2;obtain⟨b,CH,h22⟩:=Wk true q (varsOf r.body[j].ts) (by have:=xP h2;unfold Sm;omega);rw[arj aa]at hG;simp[SE.den,aa,hw,lT aa,af];by_cases z1:r.body[j].op=1
  ·rw[Wj (by omega) (by omega) (by omega)]at hG;left;exact⟨z1,.mk _ rfl (by omega) hG⟩
  right;refine⟨z1,?_⟩;by_cases z2:r.body[j].op=2
  ·rw[Wj (by omega) (by omega) (by omega)]at hG;left;exact⟨z2,.mk _ rfl (by omega) hG⟩
  right;refine⟨z2,?_⟩;by_cases z3:r.body[j].op=0
  ·left;refine⟨z3,_,TI,?_⟩;rw[ac0 z3]at hG;simp;refine⟨_,h22,?_⟩;cases b<;>simp
   ·intro o;have:=CH.2 (hG.1 o).1;cases this
   exact .mk _ rfl (by omega) (hG.trans ⟨fun h=>h.2,fun h=>⟨CH.1 rfl,h⟩⟩)
  right;refine⟨z3,?_⟩;by_cases z4:r.body[j].op=4
  rotate_left
  ·rw[acZ (by omega)]at hG;right;exact⟨z4,hG.1⟩
  left;refine⟨z4,?_⟩;have hlen:r.body[j].ts.length=2:=by have:=h3 z3;rw[z4]at this;simp[gu]at this;omega
  have i0:=uh (l:=r.body[j].ts) (i:=0) (by omega);have i1:=uh (l:=r.body[j].ts) (i:=1) (by omega);have m0:=aqI (l:=r.body[j].ts) (n:=0) (by omega);have m1:=aqI (l:=r.body[j].ts) (n:=1) (by omega)
  have qd:r.body[j].ts=[r.body[j].ts[0],r.body[j].ts[1]]:=by
   apply List.ext_getElem
   ·simp[hlen]
   ·intro i g1 g2
    match i,g2 with
    |0,_=>rfl
    |1,_=>rfl
  rw[ac1 z4 qd]at hG;have h88:=c88 false r.body[j].ts[1] (h1.2.2 _ m1) (h2 _ m1);have hv:(varsOf [r.body[j].ts[1]]).length≤1048577:=xP (by simpa using h2 _ m1);obtain⟨b',cD,g22⟩:=Wk true q (varsOf [r.body[j].ts[1]]) (by unfold Sm;omega);generalize varsOf [r.body[j].ts[1]]=l1 at*
  have uj:=S1 (ν:=[iM q,iI r.body[j].ts[0].n]) (m:=.var 0) (key:=.var 1) (ks:=q) (k:=r.body[j].ts[0].n) rfl rfl;have Ho:=S0 (ν:=[iM q,iI r.body[j].ts[0].n]) (m:=.var 0) (key:=.var 1) (ks:=q) (k:=r.body[j].ts[0].n) rfl rfl;simp[SE.den]at uj Ho;simp only[iI]at uj Ho;rw[cI]at i0 i1 h88;simp only[iI,Int.natCast_zero,Int.natCast_one]at i0 i1;generalize r.body[j].ts[0].n=tn at*
  refine⟨_,i0,?_⟩;simp[af];by_cases y1:r.body[j].ts[0].k=1
  rotate_left
  ·left;exact⟨y1,fun o=>y1 (hG.1 o).1⟩
  right;refine⟨y1,?_⟩;obtain⟨hq,SO,Iy⟩:=Ho;refine⟨⟨_,uj⟩,iB (decide (tn∈q)),⟨hq,SO,by rw[Iy]⟩,?_⟩;by_cases y2:tn∈q
  ·simp[y2];exact fun o=>(hG.1 o).2.1 y2
  simp[y2];refine⟨_,i1,?_⟩;simp[af];refine⟨_,h88,?_⟩;simp;refine⟨_,g22,?_⟩;cases b'<;>simp
  ·intro o;have:=cD.2 (hG.1 o).2.2.1;cases this
  exact⟨rfl,⟨_,rfl⟩,alW j (by omega) q _ _ _ _ fun q' vb=>.mk q' rfl (by omega) (hG.trans (by
   rw[Ax _ q' (q++[tn]) (fun v=>by rw[vb];simp)];exact⟨fun h=>h.2.2.2,fun h=>⟨y1,y2,cD.1 rfl,h⟩⟩))⟩
 ·rw[aro (by omega),mT]at hG;simp[SE.den,aa];exact hG.2 trivial
theorem alY(r:Rl)(hg:r.body.length≤6)(hb:∀g∈r.body,r6 g∧vE g∧(g.op≠0→gu g.op=g.ts.length))(fi:∀g∈r.body,g.op=0∨g.op=1∨g.op=2∨g.op=3∨g.op=4)(l:List At)(hl:l.length≤100)(hn:∀a∈l,rZ a∧xQ a):
 TG.sat aqD CC (nu fun b=>b=true↔mT (eX l) r.body) [] [aR r,mP l]:=by
 refine ao l.length (fun j (q:List Int)=>[iI j,iM q]) (fun j q=>∀v,v∈q↔v∈eX (l.take j)) [] ?_ (by simp[eX]) fun j q hj hI=>?_
 ·simp[SE.den,af]
 by_cases aa:j<l.length
 ·obtain⟨h1,h2⟩:=hn _ (aqI aa);have Qu:=c46 false l[j] h1 h2;have Zt:=Jg aa;have FG:=xP h2;generalize varsOf l[j].ts=u at Qu Zt FG;simp[SE.den,aa,rB aa,af];refine⟨_,Qu,?_⟩;simp;exact alV j (by omega) q _ (by unfold Sm;omega) fun q' vb=>.mk q' rfl (by omega) fun v=>by rw[vb,hI,Zt,aqX]
 ·rw[aqT (by omega)]at hI;simp[SE.den,aa,af];exact alX r hg hb fi q (Ax _ _ _ hI)
end
theorem Zu{g:Gl}(h:dW g=true):0≤g.op∧g.op≤12:=by
 unfold dW at h;split at h
 ·omega
 ·simp only[Bool.and_eq_true]at h;have h1:=of_decide_eq_true h.1.2;unfold gu at h1;split at h1
  ·omega
  split at h1
  ·omega
  split at h1<;>omega
theorem v33(ds:List De)(r:Rl)(h:MD ds r)(ho:tH ds r):∃b,(b=true↔ME r)∧CC 33 false [oc r] (iB b):=by
 refine CC.q7 _ aoY n33 t33 (by simpa using ji r) (by rfl) ?_;have h3:=h.s.h;have hk:jk ds r:=⟨h.d,h.s,h.n,ho.fo h.n⟩;have h85:=c85 r (by omega);rw[iQ]at h85⊢;simp[acM,SE.den,af];refine⟨_,h85,?_⟩;simp;refine alY r h.s.b (fun g hg=>?_) (fun g hg=>?_) (r.keep++r.remove) (by rw[aq3];omega) fun a ha=>?_
 ·exact⟨(hk.body.2 g hg).1,(hk.body.2 g hg).2,(hk.f.gs g (arn _ hg)).1⟩
 ·have h1:=Zu (ho.gs g (arn _ hg));have h2:=ho.m.b g hg;simp[jW]at h2;omega
 ·rcases aqX.1 ha with ha|ha
  ·exact hk.keep.2 a ha
  ·exact hk.remove.2 a ha
theorem v11(p:Pg)(h:Ao p):CC 11 false [f_ p] (iI (pC p)):=by
 refine CC.abw aoX n11 t11 (by simpa using ga p) (by rfl) ?_;obtain⟨a,n,hn,h32⟩:=v32 p h;have hd:=h.d;have hr:=h.r;have e2:=fun m:¬oH p=>Rb m;have Rc:=fun(a:oH p) (r) (hr:r∈p.rules) (m:¬ME r)=>KE a fun o=>m (o.c r hr);have e0:=fun a b=>Ra (⟨a,b⟩:MF p);have cx:oH p→∀r∈p.rules,tH p.decls r:=fun o=>o.r;generalize pC p=N at e2 Rc e0⊢;generalize oH p=O' at e2 Rc e0 hn cx;simp only[f_]at*
 simp[acL,SE.den,af];refine⟨_,h32,?_⟩;simp[xO];by_cases z:n=0
 rotate_left
 ·left;exact⟨z,(e2 fun o=>z (hn.2 o)).symm⟩
 right;refine⟨z,?_⟩;unfold TC;refine ao p.rules.length (fun i (_:Unit)=>[iI i]) (fun i _=>∀r∈p.rules.take i,ME r) () ?_ (by simp) fun i _ hi hI=>?_
 ·simp[SE.den]
 by_cases aa:i<p.rules.length
 ·have hw:=az aa (by omega);have hm:=aqI aa;obtain⟨b,CH,hb⟩:=v33 p.decls p.rules[i] ⟨by unfold Sm;omega,h.rs _ hm,h.rn _ hm⟩ (cx (hn.1 z) _ hm);rw[iQ]at hb;simp[SE.den,aa,hw,Ha aa,af];refine⟨_,hb,?_⟩;cases b<;>simp
  ·exact(Rc (hn.1 z) _ hm fun o=>by have:=CH.2 o;cases this).symm
  exact .mk () rfl (by omega) (ay aa hI (CH.1 rfl))
 ·simp[SE.den,aa];exact(e0 (hn.1 z) (aF aa hI)).symm
end Go.Proofs.YtggffkaadeagbaaGreat
namespace Go.Proofs.YtggffkaadeagbaaGreat
open Go Go.Ev
abbrev mD(l:List Int):Prop:=l.Pairwise (·<·)
theorem T7{o:List Int}{n:Int}{k:Nat}(h:mD o)(h1:∀x∈o.take k,x<n)(h2:∀x∈o.drop k,n<x):mD (o.take k++[n]++o.drop k):=by
 have h0:mD (o.take k++o.drop k):=by rw[asi];exact h
 rw[mD,asa]at h0;rw[mD,List.append_assoc,asa];refine⟨h0.1,?_,?_⟩
 ·simp only[auT,atU];exact⟨h2,h0.2.1⟩
 ·intro a ha b hb;simp only[auT,arv]at hb;rcases hb with rfl|hb
  ·exact h1 a ha
  ·exact h0.2.2 a ha b hb
theorem T8{o:List Int}{n:Int}(k:Nat)(x:Int):x∈o.take k++[n]++o.drop k↔x∈o∨x=n:=by
 have:x∈o↔x∈o.take k++o.drop k:=by rw[asi]
 rw[this];simp only[aqX,arx];exact⟨fun h=>by rcases h with(h|h)|h<;>simp[h],fun h=>by rcases h with(h|h)|h<;>simp[h]⟩
theorem T9{o:List Int}{n:Int}{k:Nat}(h:mD o)(hk:k<o.length)(hn:n<o[k]):∀x∈o.drop k,n<x:=by
 rw[arj hk];have h0:mD (o.take k++o.drop k):=by rw[asi];exact h
 rw[mD,asa,arj hk,atU]at h0;intro x hx;rcases arv.1 hx with rfl|hx
 ·exact hn
 ·have:=h0.2.1.1 x hx;omega
section
variable{Q:IV→Prop}{k0 k1 k2:List IV→Prop}
theorem ahP{x0 x1 x3:IV}{a o:List Int}{i:Nat}(hi:i<a.length)(ha:a.length≤1000000)(ho:o.length≤1000000)(hs:mD o)(h:∀o':List Int,o'.length≤o.length+1→mD o'→(∀x,x∈o'↔x∈o∨x=a[i])→k1 [iI (i+1:Nat),iL o']):
 L0.sat aqD CC Q [k0,k1] [x0,x1,iL a,x3,iI i,iL o]:=by
 have gd:=az hi (by omega);refine ao o.length (fun k (_:Unit)=>[iI k]) (fun k _=>∀x∈o.take k,x<a[i]) () ?_ (by simp) fun k _ hk hI=>?_
 ·simp[SE.den]
 have bA:=Qc (L:=o) (k:=k) hk;have dw:=Qd (L:=o) (k:=k) hk;have l0:(o.take k).length≤o.length:=by simp;omega
 have l1:(o.take k).length+(o.drop k).length=o.length:=by simp;omega
 have hA:=fun(h2:∀x∈o.drop k,a[i]<x)=>T7 (n:=a[i]) hs hI h2;have hM:=fun x=>T8 (o:=o) (n:=a[i]) k x;have hD:(∀x∈o.drop k,a[i]<x)→mD (o.take k++[a[i]]++o.drop k):=hA;have qg:¬k<o.length→∀x∈o.drop k,a[i]<x:=fun h x hx=>by rw[aro (by omega)]at hx;cases hx
 have yc:=fun(h:k<o.length) (hn:a[i]<o[k])=>T9 hs h hn;have cg:=fun(h:k<o.length) (hn:o[k]<a[i])=>ay h hI hn;have r8:∀(h:k<o.length),o[k]=a[i]→∀x,x∈o↔x∈o∨x=a[i]:=fun h e x=>⟨.inl,fun q=>q.elim id fun q=>by rw[q,←e];exact aqI h⟩;clear hA;generalize hP:(∀x∈o.drop k,a[i]<x)=PP at hD qg yc;generalize hQ:(∀x∈o.take (k+1),x<a[i])=QQ at cg;generalize o.take k=tk at bA l0 l1 hM hD;generalize o.drop k=dk at dw l1 hM hD;have oN:=nO (a:=[]) (b:=tk) (by simp;omega);have bH:=nO (a:=tk) (b:=[a[i]]) (by simp;omega);have eN:(tk++[a[i]]).length=tk.length+1:=by simp
 generalize tk++[a[i]]=u1 at bH eN hM hD;have gm:=nO (a:=u1) (b:=dk) (by omega);have FM:(u1++dk).length=u1.length+dk.length:=by simp
 generalize u1++dk=u2 at gm FM hM hD;have rf:PP→k1 [iI (i+1:Nat),iL u2]:=fun q=>h _ (by omega) (hD q) hM;have Jh:=fun q=>h o (by omega) hs q;have hai:=dC hi;simp only[iL,as_,arC,arI]at bA dw oN bH gm rf hai Jh;by_cases aa:k<o.length
 ·have hw:=az aa (by omega);have bo:=dC aa;simp only[iL]at bo;simp[SE.den,aa,hw,gd,bo,hai,cellsOf,bA,dw,oN,bH,gm,aw];by_cases z:o[k]<a[i]
  ·left;exact⟨z,.mk () rfl (by omega) (hQ▸cg aa z)⟩
  right;refine⟨by omega,?_⟩;by_cases z2:o[k]=a[i]
  ·left;exact⟨z2,Jh (r8 aa z2)⟩
  ·right;exact⟨z2,rf (yc aa (by omega))⟩
 ·simp[SE.den,aa,gd,hai,cellsOf,bA,dw,oN,bH,gm,aw];exact rf (qg aa)
theorem ahQ{x0 x1 x2 x3 x4 x5 x7:IV}{o:List Int}{n:Int}{i m:Nat}(hi:i<m)(ha:m≤1000000)(ho:o.length≤1000000)(hs:mD o)(h:∀o':List Int,o'.length≤o.length+1→mD o'→(∀x,x∈o'↔x∈o∨x=n)→k2 [iI (i+1:Nat),x7,iL o']):
 L4.sat aqD CC Q [k0,k1,k2] [x0,x1,x2,x3,x4,x5,iI i,x7,iL o,iI n]:=by
 have gd:=az hi (by omega);refine ao o.length (fun k (_:Unit)=>[iI k]) (fun k _=>∀x∈o.take k,x<n) () ?_ (by simp) fun k _ hk hI=>?_
 ·simp[SE.den]
 have bA:=Qc (L:=o) (k:=k) hk;have dw:=Qd (L:=o) (k:=k) hk;have l0:(o.take k).length≤o.length:=by simp;omega
 have l1:(o.take k).length+(o.drop k).length=o.length:=by simp;omega
 have hA:=fun(h2:∀x∈o.drop k,n<x)=>T7 (n:=n) hs hI h2;have hM:=fun x=>T8 (o:=o) (n:=n) k x;have hD:(∀x∈o.drop k,n<x)→mD (o.take k++[n]++o.drop k):=hA;have qg:¬k<o.length→∀x∈o.drop k,n<x:=fun h x hx=>by rw[aro (by omega)]at hx;cases hx
 have yc:=fun(h:k<o.length) (hn:n<o[k])=>T9 hs h hn;have cg:=fun(h:k<o.length) (hn:o[k]<n)=>ay h hI hn;have r8:∀(h:k<o.length),o[k]=n→∀x,x∈o↔x∈o∨x=n:=fun h e x=>⟨.inl,fun q=>q.elim id fun q=>by rw[q,←e];exact aqI h⟩;clear hA;generalize hP:(∀x∈o.drop k,n<x)=PP at hD qg yc;generalize hQ:(∀x∈o.take (k+1),x<n)=QQ at cg;generalize o.take k=tk at bA l0 l1 hM hD;generalize o.drop k=dk at dw l1 hM hD;have oN:=nO (a:=[]) (b:=tk) (by simp;omega);have bH:=nO (a:=tk) (b:=[n]) (by simp;omega);have eN:(tk++[n]).length=tk.length+1:=by simp
 generalize tk++[n]=u1 at bH eN hM hD;have gm:=nO (a:=u1) (b:=dk) (by omega);have FM:(u1++dk).length=u1.length+dk.length:=by simp
 generalize u1++dk=u2 at gm FM hM hD;have rf:PP→k2 [iI (i+1:Nat),x7,iL u2]:=fun q=>h _ (by omega) (hD q) hM;have Jh:=fun q=>h o (by omega) hs q;simp only[iL,as_,arC,arI]at bA dw oN bH gm rf Jh;by_cases aa:k<o.length
 ·have hw:=az aa (by omega);have bo:=dC aa;simp only[iL]at bo;simp[SE.den,aa,hw,gd,bo,cellsOf,bA,dw,oN,bH,gm,aw];by_cases z:o[k]<n
  ·left;exact⟨z,.mk () rfl (by omega) (hQ▸cg aa z)⟩
  right;refine⟨by omega,?_⟩;by_cases z2:o[k]=n
  ·left;exact⟨z2,Jh (r8 aa z2)⟩
  ·right;exact⟨z2,rf (yc aa (by omega))⟩
 ·simp[SE.den,aa,gd,cellsOf,bA,dw,oN,bH,gm,aw];exact rf (qg aa)
end
theorem alZ(l:List Fa)(hl:l.length≤100)(hj:∀f∈l,f.j.length≤20):∃v:List Int,(v.length≤2000∧mD v∧∀x,x∈v↔∃f∈l,x∈f.j)∧CC 101 true [kb l] (iL v):=by
 refine CC.agq (fun v=>v.length≤2000∧mD v∧∀x,x∈v↔∃f∈l,x∈f.j) agB n101 t101 (by simp) (by rfl) ?_;simp[Tn,SE.den,af];unfold L7;refine ao l.length (fun i (a:List Int)=>[iI i,iL a]) (fun i a=>a.length≤20*i∧mD a∧∀x,x∈a↔∃f∈l.take i,x∈f.j) [] ?_ (by simp) fun i a hi hI=>?_
 ·simp[SE.den]
 obtain⟨hI,hIa,hIm⟩:=hI;by_cases aa:i<l.length
 ·have hw:=az aa (by omega);have Ci:=hj _ (aqI aa);simp[SE.den,aa,xM aa,af];unfold L6;refine ao a.length (fun i (o:List Int)=>[iI i,iL o]) (fun i o=>o.length≤i∧mD o∧∀x,x∈o↔x∈a.take i) [] ?_ (by simp) fun i1 o N3 nQ=>?_
  ·simp[SE.den]
  obtain⟨nQ,ahR,abx⟩:=nQ;by_cases dY:i1<a.length
  ·simp[SE.den,dY,dC dY]
   exact ahP dY (by omega) (by omega) ahR fun o' ho' ha hm=>.mk o' rfl (by omega) ⟨by omega,ha,fun x=>by
    rw[hm,abx,aqR dY,aqX,arx]⟩
  rw[aqT (by omega)]at abx;simp[SE.den,dY];unfold L5;refine ao l[i].j.length (fun i (o:List Int)=>[iI i,iL a,iL o]) (fun j o'=>o'.length≤o.length+j∧mD o'∧∀x,x∈o'↔x∈a∨x∈l[i].j.take j) o ?_ ⟨by omega,ahR,by simpa using abx⟩ fun i2 o2 WQ jh=>?_
  ·simp[SE.den]
  obtain⟨jh,ahS,aby⟩:=jh;by_cases dX:i2<l[i].j.length
  ·simp[SE.den,dX,dC dX]
   exact ahQ dX (by omega) (by omega) ahS fun o' ho' ha hm=>.mk o' rfl (by omega) ⟨by omega,ha,fun x=>by
    rw[hm,aby,aqR dX,aqX,arx,or_assoc]⟩
  ·rw[aqT (by omega)]at aby;simp[SE.den,dX,hw]
   exact .mk o2 (by simp) (by omega) ⟨by omega,ahS,fun x=>by
    rw[aby,hIm,aqR aa];simp only[aqX,arx];exact⟨fun h=>h.elim (fun⟨f,h1,h2⟩=>⟨f,.inl h1,h2⟩) fun h=>⟨_,.inr rfl,h⟩,fun⟨f,h1,h2⟩=>h1.elim (fun h=>.inl ⟨f,h,h2⟩) fun h=>.inr (h▸h2)⟩⟩
 ·rw[aqT (by omega)]at hIm;simp[SE.den,aa];exact⟨by omega,hIa,hIm⟩
end Go.Proofs.YtggffkaadeagbaaGreat
namespace Go.Proofs.YtggffkaadeagbaaGreat
open Go Go.Ev
theorem Ji:∀{a b:List Int},mD a→mD b→(∀x,x∈a↔x∈b)→a=b
 |[],[],_,_,_=>rfl
 |[],y::b,_,_,h=>absurd ((h y).2 (by simp)) (by simp)
 |x::a,[],_,_,h=>absurd ((h x).1 (by simp)) (by simp)
 |x::a,y::b,ha,hb,h=>by
  rw[mD,atU]at ha hb
  have e:x=y:=by
   have h1:=(h x).1 (by simp);have h2:=(h y).2 (by simp);rcases arv.1 h1 with h1|h1
   ·exact h1
   ·rcases arv.1 h2 with h2|h2
    ·exact h2.symm
    ·have:=ha.1 y h2;have:=hb.1 x h1;omega
  subst e
  congr 1
  refine Ji ha.2 hb.2 fun z=>⟨fun hz=>?_,fun hz=>?_⟩
  ·rcases arv.1 ((h z).1 (arW _ hz))with e|e
   ·subst e;have:=ha.1 z hz;omega
   ·exact e
  ·rcases arv.1 ((h z).2 (arW _ hz))with e|e
   ·subst e;have:=hb.1 z hz;omega
   ·exact e
theorem Ge(d:Array Int)(hs:∀i j,i≤j→j<d.size→d[i]! ≤d[j]!):∀m,m≤d.size→mD (atL d m)∧∀x,x∈atL d m↔∃j,j<m∧d[j]! =x
 |0,_=>by simp[atL]
 |m+1,h=>by
  obtain⟨h1,h2⟩:=Ge d hs m (by omega);rw[Go.Lib.compactUpTo_succ];by_cases hk:m=0∨d[m]! ≠d[m- 1]!
  ·have mB:avM d m=true:=by
    by_cases h0:m=0
    ·exact Go.Lib.keeps_lt_one d m (by omega)
    ·exact Go.Lib.keeps_pos (hk.resolve_left h0)
   rw[if_pos mB];refine⟨?_,fun x=>?_⟩
   ·rw[mD,asa];refine⟨h1,by simp,fun a ha b hb=>?_⟩;obtain⟨j,hj,rfl⟩:=(h2 a).1 ha;simp at hb;subst hb;have hm:=hk.resolve_left (by omega);have g1:=hs j (m- 1) (by omega) (by omega);have g2:=hs (m- 1) m (by omega) (by omega);omega
   ·rw[aqX,h2,arx];exact⟨fun h=>h.elim (fun⟨j,hj,e⟩=>⟨j,by omega,e⟩) fun e=>⟨m,by omega,e.symm⟩,fun⟨j,hj,e⟩=>(asV.1 hj).elim (fun h=>.inl ⟨j,h,e⟩) fun h=>.inr (by rw[←e,h])⟩
  ·have hm:0<m:=by omega
   have he:d[m]! =d[m- 1]! :=arq fun h=>hk (.inr h);have hkn:avM d m=false:=Go.Lib.keeps_neg hm he;rw[hkn];refine⟨by simpa using h1,fun x=>?_⟩;simp only[Bool.false_eq_true,if_false,List.append_nil];rw[h2];exact⟨fun⟨j,hj,e⟩=>⟨j,by omega,e⟩,fun⟨j,hj,e⟩=>(asV.1 hj).elim (fun h=>⟨j,h,e⟩) fun h=>⟨m- 1,by omega,by rw[←e,h,he]⟩⟩
theorem Wl(ls:List (List Int)):mD (eJ ls)∧∀x,x∈eJ ls↔x∈ls.flatten:=by
 have hp:=List.mergeSort_perm ls.flatten fun x y=>decide (x≤y);have ahT:=List.pairwise_mergeSort (le:=fun(x y:Int)=>decide (x≤y)) (fun a b c=>by simp;omega) (fun a b=>by simp;omega) ls.flatten;unfold eJ;generalize ls.flatten.mergeSort (fun x y=>decide (x≤y))=s at hp ahT;unfold Go.Lib.compact;have hg:∀i (h:i<s.length),s.toArray[i]! =s[i]:=fun i h=>by simp[h]
 obtain⟨h1,h2⟩:=Ge s.toArray (fun i j mI hj=>by
  have fJ:j<s.length:=by simpa using hj
  rw[hg i (by omega),hg j fJ];by_cases e:i=j
  ·subst e;omega
  ·have:=asM.1 ahT i j (by omega) fJ (by omega);simpa using this) s.length (by simp)
 refine⟨h1,fun x=>?_⟩;rw[h2,←hp.mem_iff];constructor
 ·rintro⟨j,hj,e⟩;rw[hg j hj]at e;exact e▸aqI hj
 ·intro hx;obtain⟨j,hj,e⟩:=List.getElem_of_mem hx;exact⟨j,hj,by rw[hg j hj,e]⟩
theorem al0(l:List Fa)(hl:l.length≤100)(hj:∀f∈l,f.j.length≤20):(eJ (l.map Fa.j)).length≤2000∧CC 101 true [kb l] (iL (eJ (l.map Fa.j))):=by
 obtain⟨v,⟨h0,h1,h2⟩,h⟩:=alZ l hl hj;obtain⟨g1,g2⟩:=Wl (l.map Fa.j)
 have e:v=eJ (l.map Fa.j):=Ji h1 g1 fun x=>by
  rw[h2,g2];simp only[List.mem_flatten,List.mem_map];exact⟨fun⟨f,a,b⟩=>⟨_,⟨f,a,rfl⟩,b⟩,fun⟨_,⟨f,a,e⟩,b⟩=>⟨f,a,e▸b⟩⟩
 subst e;exact⟨h0,h⟩
def JOk(l:List Int):Prop:=(∀x∈l,1≤x∧x≤64)∧mD l
theorem Zv{l:List Int}{i:Nat}(h:i<l.length)(h0:0<i)(hk:l[i]≤l[i- 1]):¬mD l:=fun ha=>by
 have:=asM.1 ha (i- 1) i (by omega) h (by omega);omega
theorem v99(l:List Int)(hl:Sm l):∃b,(b=true↔JOk l)∧CC 99 false [iL l] (iB b):=by
 refine CC.q7 _ aot n99 t99 (by simp) (by rfl) ?_;simp[acu,Tc,SE.den,af];refine ao l.length (fun i (_:Unit)=>[iI i]) (fun i _=>(∀x∈l.take i,1≤x∧x≤64)∧(l.take i).Pairwise (·<·)) () ?_ (by simp) fun i _ hi hI=>?_
 ·simp[SE.den]
 obtain⟨ig,hI⟩:=hI;by_cases aa:i<l.length
 ·have hw:=az aa hl;have hm:=aqI aa;simp[SE.den,aa,hw,dC aa,af];by_cases z1:l[i]<1
  ·left;exact⟨z1,fun o=>by have:=o.1 _ hm;omega⟩
  right;refine⟨by omega,?_⟩;by_cases z2:64<l[i]
  ·left;exact⟨z2,fun o=>by have:=o.1 _ hm;omega⟩
  right;refine⟨by omega,?_⟩;have cg:=ay (p:=fun x:Int=>1≤x∧x≤64) aa ig ⟨by omega,by omega⟩;by_cases z3:0<i
  ·left;refine⟨z3,?_⟩;have hm:=Ft z3 (awg aa) hl;have fR:i- 1<l.length:=by omega
   have hx:=dC fR;simp only[iL]at hx;simp[hm,hx];by_cases z4:l[i]≤l[i- 1]
   ·left;exact⟨z4,fun o=>Zv aa z3 z4 o.2⟩
   ·right;exact⟨by omega,.mk () rfl (by omega) ⟨cg,BW aa hI fun _ _=>by omega⟩⟩
  ·right;exact⟨by omega,.mk () rfl (by omega) ⟨cg,BW aa hI fun h=>absurd h z3⟩⟩
 ·simp[SE.den,aa];rw[aqT (by omega)]at hI ig;exact⟨ig,hI⟩
theorem v96(l:List Int)(hl:Sm l):∃b,(b=true↔JOk l)∧CC 96 false [iL l] (iB b):=by
 refine CC.q7 _ aoU n96 t96 (by simp) (by rfl) ?_;simp[acJ,Tw,SE.den,af];refine ao l.length (fun i (_:Unit)=>[iI i]) (fun i _=>(∀x∈l.take i,1≤x∧x≤64)∧(l.take i).Pairwise (·<·)) () ?_ (by simp) fun i _ hi hI=>?_
 ·simp[SE.den]
 obtain⟨ig,hI⟩:=hI;by_cases aa:i<l.length
 ·have hw:=az aa hl;have hm:=aqI aa;simp[SE.den,aa,hw,dC aa,af];by_cases z1:l[i]<1
  ·left;exact⟨z1,fun o=>by have:=o.1 _ hm;omega⟩
  right;refine⟨by omega,?_⟩;by_cases z2:64<l[i]
  ·left;exact⟨z2,fun o=>by have:=o.1 _ hm;omega⟩
  right;refine⟨by omega,?_⟩;have cg:=ay (p:=fun x:Int=>1≤x∧x≤64) aa ig ⟨by omega,by omega⟩;by_cases z3:0<i
  ·left;refine⟨z3,?_⟩;have hm:=Ft z3 (awg aa) hl;have fR:i- 1<l.length:=by omega
   have hx:=dC fR;simp only[iL]at hx;simp[hm,hx];by_cases z4:l[i]≤l[i- 1]
   ·left;exact⟨z4,fun o=>Zv aa z3 z4 o.2⟩
   ·right;exact⟨by omega,.mk () rfl (by omega) ⟨cg,BW aa hI fun _ _=>by omega⟩⟩
  ·right;exact⟨by omega,.mk () rfl (by omega) ⟨cg,BW aa hI fun h=>absurd h z3⟩⟩
 ·simp[SE.den,aa];rw[aqT (by omega)]at hI ig;exact⟨ig,hI⟩
end Go.Proofs.YtggffkaadeagbaaGreat
