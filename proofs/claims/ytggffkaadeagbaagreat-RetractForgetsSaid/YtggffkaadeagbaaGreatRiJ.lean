/- A part of the proof, no condition: small functions of the checks of the program come to an end. -/
import Derived.Test.YtggffkaadeagbaaGreatRhA
import Derived.Test.YtggffkaadeagbaaGreatRiS
import Derived.Test.YtggffkaadeagbaaGreatRjF
import Derived.Test.YtggffkaadeagbaaGreatRhC
import Derived.Test.YtggffkaadeagbaaGreatEvJ
import Derived.Test.YtggffkaadeagbaaGreatRuA
import Derived.Test.YtggffkaadeagbaaGreatEvP
open List renaming foldl_cons->asI,mem_flatten->avM,mem_map->asO,map_nil->atW,take_succ_eq_append_getElem->asm,take_of_length_le->asV,map_append->awU,flatten_append->atu,map_cons->asY,flatten_cons->auD,length_append->asu,getElem_mem->asb,length_flatten->atv,append_assoc->asv,getElem?_cons_zero->atF,flatten_eq_nil_iff->aum
open Go.Proofs.Tryz renaming prog->ar3
open Option renaming bind_some->asc
set_option linter.all false
namespace Go.Proofs.YtggffkaadeagbaaGreat
open Go Go.Ev
theorem aeC(l:List Int)(x:Int):x∈Zt l↔x∈l:=by
 have key:∀(l acc:List Int),x∈(l.foldl (fun acc x=>if x∈acc then acc else acc++[x]) acc)↔x∈acc∨x∈l:=by
  intro l;induction l with
  |nil=>simp
  |cons y l ih=>
   intro acc;rw[asI,ih];split
   ·rename_i h;constructor
    ·rintro(h1|h1)
     ·exact .inl h1
     ·exact .inr (by simp[h1])
    ·rintro(h1|h1)
     ·exact .inl h1
     ·rcases List.mem_cons.1 h1 with rfl|h1
      ·exact .inl h
      ·exact .inr h1
   ·simp[or_assoc]
 simpa[Zt]using key l []
theorem ZA(l:List Int):(Zt l).Nodup:=by
 have key:∀(l acc:List Int),acc.Nodup→(l.foldl (fun acc x=>if x∈acc then acc else acc++[x]) acc).Nodup:=by
  intro l;induction l with
  |nil=>intro acc h;exact h
  |cons y l ih=>
   intro acc h;rw[asI];refine ih _ ?_;split
   ·exact h
   ·rename_i hy;rw[List.nodup_append];exact⟨h,by simp,fun a ha b hb=>by simp at hb;subst hb;exact fun he=>hy (he▸ha)⟩
 exact key l [] (by simp)
theorem I2:∀(d:Nat) (t:Tm),SizeOf.sizeOf t≤d→bx t→∀x∈pF t,0≤x∧x≤1048576
 |0,.mk k n s ts,hd,_,_,_=>by simp at hd
 |d+1,.mk k n s ts,hd,h,x,hx=>by
  obtain⟨h1,h2⟩:=(jX _).1 h;simp only[Tm.k,Tm.n,Tm.ts]at h1 h2;unfold pF at hx;split at hx
  ·simp at hx;subst hx;exact h1 ‹_›
  ·split at hx
   ·rw[Hb]at hx;obtain⟨l,hl,hx⟩:=avM.1 hx;obtain⟨u,hu,rfl⟩:=asO.1 hl;refine I2 d u ?_ (h2 ‹_› u hu) x hx;have:=List.sizeOf_lt_of_mem hu;simp at hd;omega
   ·simp at hx
theorem ZB(t:Tm)(h:bx t):∀x∈pF t,0≤x∧x≤1048576:=I2 _ t (Nat.le_refl _) h
theorem yv{ts:List Tm}(hf:∀t∈ts,bx t):(varsOf ts).length≤1048577:=
 Kb 1048577 _ (ZA _) fun x hx=>by
  rw[varsOf,aeC]at hx;obtain⟨l,hl,hx⟩:=avM.1 hx;obtain⟨u,hu,rfl⟩:=asO.1 hl;have:=ZB u (hf u hu) x hx;omega
theorem t46(z:IV):aD ar3 46 z=true:=by kernel_rfl
theorem t87(z:IV):aD ar3 87 z=true:=by kernel_rfl
theorem t88(z:IV):aD ar3 88 z=true:=by kernel_rfl
def uJ(a:At):Prop:=∀t∈a.ts,bx t
def vX(g:Gl):Prop:=∀t∈g.ts,bx t
theorem Ty(new:Bool)(a:At)(h:pC a)(hf:uJ a):CC 46 new [.agg [iS a.s,iT a.ts]] (iL (varsOf a.ts)):=
 CC.plain (by rw[dJ];decide) (aqm new a.s h.2.1 h.2.2 hf) (AT _) (t46 _)
theorem c87(new:Bool)(g:Gl)(h:tG g)(hf:vX g):CC 87 new [.agg [iI g.op,iS g.s,iT g.ts]] (iL (varsOf g.ts)):=
 CC.plain (by rw[dJ];decide) (aqn new g.op g.s h.2.1 h.2.2 hf) (AT _) (t87 _)
theorem c88(new:Bool)(t:Tm)(h:nU t)(hf:bx t):CC 88 new [bV t] (iL (varsOf [t])):=
 CC.plain (by rw[dJ];decide) (aqo new t h hf) (AT _) (t88 _)
theorem adb(l:List Int)(n:Int)(hl:Sm l):CC 121 true [iL l,iI n] (iB (l.contains n)):=by
 refine CC.of ahU n121 (t121 _) (by simp) (by simp) ?_;simp[Ti,SE.den];refine⟨_,agf l n hl,?_⟩;have:=GV n l 0;simp at this⊢;simp[au];exact this
theorem V7(a b:List Int)(hl:Sm a):∃t,CC 78 true [iL a,iL b] (iB t):=by
 refine CC.bool amv n78 t78 (by simp) (by rfl) ?_;simp[Zv,SE.den];by_cases bR:a.length=b.length
 ·right;simp[bR];unfold Qh;refine ao a.length (fun i (_:Unit)=>[iI i]) (fun _ _=>True) () ?_ trivial fun i _ hi _=>?_
  ·simp[SE.den]
  by_cases aa:i<a.length
  ·have Cq:i<b.length:=by omega
   have hw:=aw aa hl;simp[SE.den,aa,hw,dB aa,dB Cq,au];by_cases h:a[i]=b[i]
   ·right;exact⟨h,.mk () rfl (by omega) trivial⟩
   ·left;exact h
  ·simp[SE.den,aa,au]
 ·left;exact⟨by omega,by simp[au]⟩
theorem n47:(ar3.funcs[47]?).map (·.params.size)=some 3:=by kernel_rfl
theorem t47(z:IV):aD ar3 47 z=true:=by kernel_rfl
theorem F6(ds:List De)(s:List UInt8)(n:Int)(hl:Sm ds):∃b,CC 47 false [ek ds,iS s,iI n] (iB b):=by
 refine CC.bool aqt n47 t47 (by simp) (by rfl) ?_;simp[ac7,Tj,SE.den,ab];refine ao ds.length (fun i (_:Unit)=>[iI i]) (fun _ _=>True) () ?_ trivial fun i _ hi _=>?_
 ·simp[SE.den]
 by_cases aa:i<ds.length
 ·have hw:=aw aa hl;simp[SE.den,aa,hw,tH aa,ab,ahN];by_cases h1:s=ds[i].s∧n=ds[i].n
  ·left;exact h1
  ·right;exact⟨fun h=>fun h'=>h1 ⟨h,h'⟩,.mk () rfl (by omega) trivial⟩
 ·simp[SE.den,aa]
theorem n143:(ar3.funcs[143]?).map (·.params.size)=some 1:=by kernel_rfl
theorem t143(z:IV):aD ar3 143 z=true:=by kernel_rfl
theorem V8(n:Int):∃b,CC 143 false [iI n] (iB b):=by
 refine CC.bool amu n143 t143 (by simp) (by rfl) ?_;simp[Zu,SE.den];omega
theorem n96:(ar3.funcs[96]?).map (·.params.size)=some 1:=by kernel_rfl
theorem t96(z:IV):aD ar3 96 z=true:=by kernel_rfl
theorem e96(l:List Int)(hl:Sm l):∃b,CC 96 false [iL l] (iB b):=by
 refine CC.bool aqs n96 t96 (by simp) (by rfl) ?_;simp[ac6,Th,SE.den,ab];refine ao l.length (fun i (_:Unit)=>[iI i]) (fun _ _=>True) () ?_ trivial fun i _ hi _=>?_
 ·simp[SE.den]
 by_cases aa:i<l.length
 ·have hw:=aw aa hl;simp[SE.den,aa,hw,dB aa,ab];by_cases z1:l[i]<1
  ·left;exact z1
  right;refine⟨by omega,?_⟩;by_cases z2:64<l[i]
  ·left;exact z2
  right;refine⟨by omega,?_⟩;by_cases z3:0<i
  ·left;refine⟨z3,?_⟩;have hm:=Fm z3 (Nat.le_of_lt aa) hl;have fR:i- 1<l.length:=by omega
   have hx:=dB fR;simp only[iL]at hx;simp[hm,hx];by_cases z4:l[i]≤l[i- 1]
   ·left;exact z4
   ·right;exact⟨by omega,.mk () rfl (by omega) trivial⟩
  ·right;exact⟨by omega,.mk () rfl (by omega) trivial⟩
 ·simp[SE.den,aa]
theorem n85:(ar3.funcs[85]?).map (·.params.size)=some 1:=by kernel_rfl
theorem t85(z:IV):aD ar3 85 z=true:=by kernel_rfl
theorem c85(r:Rl)(h:r.keep.length+r.remove.length≤1000):CC 85 false [oB r] (cS (r.keep++r.remove)):=by
 refine CC.of aqr n85 (t85 _) (by simpa using je r) (by simp) ?_;have h1:=Cj (a:=[]) (b:=r.keep) (by simp;omega);have h2:=Cj h;have hw:IntKind.i64.wrap ((r.keep.length:Int)+r.remove.length)=r.keep.length+r.remove.length:=eb (by omega) (by omega);simp only[List.nil_append,atW]at h1;rw[iG];simp[ac5,SE.den,ab,hw,lO];exact⟨by omega,_,h1,h2⟩
theorem n16:(ar3.funcs[16]?).map (·.params.size)=some 1:=by kernel_rfl
theorem t16(z:IV):aD ar3 16 z=true:=by kernel_rfl
theorem e16(l:List At)(hl:Sm l)(hw:∀g∈l,pC g):∃b,(b=true→l.length≤5∧∀a∈l,a.ts.length≤8)∧CC 16 false [cS l] (iB b):=by
 refine CC.lH _ aqq n16 t16 (by simp) (by rfl) ?_;obtain⟨b,hb,h44⟩:=e44 l hl hw;simp[ac4,SE.den,ab];by_cases z:l.length≤5
 ·left;exact⟨by omega,_,h44,by simp;exact fun h=>⟨z,hb h⟩⟩
 ·right;omega
theorem n36:(ar3.funcs[36]?).map (·.params.size)=some 3:=by kernel_rfl
theorem t36(z:IV):aD ar3 36 z=true:=by kernel_rfl
end Go.Proofs.YtggffkaadeagbaaGreat
namespace Go.Proofs.YtggffkaadeagbaaGreat
open Go Go.Ev
def V9(l:List Int):List Int:=l.foldl Ec []
theorem I3(ks:List Int):r8 (ks.map my):=by
 intro d hd;obtain⟨k,_,rfl⟩:=asO.1 hd;exact⟨.int .i64 k,.agg #[],rfl⟩
theorem n97:(ar3.funcs[97]?).map (·.params.size)=some 1:=by kernel_rfl
theorem f97(l:List Int)(hl:Sm l):lE ar3 97 [iL l] ((V9 l).map my):=by
 refine lE.nz mixed vV amB n97 (by simp) (I3 _) ?_;simp[Zw,Qi,SE.den,ab];refine ao l.length (fun i (q:List Int)=>[iI i,iM q]) (fun i q=>q=(l.take i).foldl Ec []) [] ?_ (by simp) fun i q hi hq=>?_
 ·simp[SE.den]
 by_cases aa:i<l.length
 ·have hw:=aw aa hl;have nC:=AU (ν:=[iM q,iI l[i]]) (m:=.var 0) (key:=.var 1) (ks:=q) (k:=l[i]) rfl rfl;simp[SE.den]at nC;simp only[iI]at nC;simp[SE.den,aa,hw,dB aa,ab];refine⟨_,nC,?_⟩;refine .mk _ rfl (by omega) ?_;rw[hq,asm aa,List.foldl_append];rfl
 ·simp[SE.den,aa];rw[hq,asV (by omega),V9]
theorem n86:(ar3.funcs[86]?).map (·.params.size)=some 2:=by kernel_rfl
theorem l86(ks l:List Int)(hl:Sm l):∃b,rq ar3 86 (ks.map my) [iL l] (iB b):=by
 have hs:Qk.sat ar3 CC AX [] [iM ks,iL l]:=by
  simp[Qk,Qj,SE.den,ab];refine ao l.length (fun i (_:Unit)=>[iI i]) (fun _ _=>True) () ?_ trivial fun i _ hi _=>?_
  ·simp[SE.den]
  by_cases aa:i<l.length
  ·have hw:=aw aa hl;have yw:=J5 (ν:=[iM ks,iI l[i]]) (m:=.var 0) (key:=.var 1) (ks:=ks) (k:=l[i]) rfl rfl;have yx:=J4 (ν:=[iM ks,iI l[i]]) (m:=.var 0) (key:=.var 1) (ks:=ks) (k:=l[i]) rfl rfl;simp[SE.den]at yw yx;simp only[iI]at yw yx;simp[SE.den,aa,hw,dB aa,ab];obtain⟨hq,Lm,D1⟩:=yx;refine⟨⟨_,yw⟩,iB (decide (l[i]∈ks)),⟨hq,Lm,by rw[D1]⟩,?_⟩;by_cases z:l[i]∈ks
   ·simp[z,au];exact .mk () rfl (by omega) trivial
   ·simp[z,au]
  ·simp[SE.den,aa,au]
 obtain⟨z,⟨b,rfl⟩,h2⟩:=yk (by rfl) hs;exact⟨b,rq.nz mixed vV amC n86 (by simp) (I3 _) ⟨_,rfl,rfl⟩ h2⟩
theorem amJ(new:Bool)(l:List Int)(hl:Sm l):CC 1877 new [iL l] (iM (V9 l)):=by
 have h:=mT.age (new:=new) (ky n97) (f97 l hl);rw[dJ]at h;unfold CC;rw[dJ];exact h
theorem V_(new:Bool)(ks l:List Int)(hl:Sm l):∃b,CC 2222 new [iM ks,iL l] (iB b):=by
 obtain⟨b,hb⟩:=l86 ks l hl;have h:=mT.look (new:=new) (ky n86) hb;rw[dJ]at h;refine⟨b,?_⟩;unfold CC;rw[dJ];exact h
end Go.Proofs.YtggffkaadeagbaaGreat
namespace Go.Proofs.YtggffkaadeagbaaGreat
open Go Go.Ev
abbrev Ql(ls:List (List At)):IV:=.tree 1 (ls.map cS)
abbrev L5(ls:List (List Gl)):IV:=.tree 1 (ls.map qT)
def tI(l:List At):List Int:=(l.map fun a=>varsOf a.ts).flatten
def tJ(l:List Gl):List Int:=(l.map fun a=>varsOf a.ts).flatten
def fX(ls:List (List At)):List Int:=(ls.map tI).flatten
def eJ(ls:List (List Gl)):List Int:=(ls.map tJ).flatten
theorem ZC{ls:List (List At)}{i:Nat}(h:i<ls.length):cq 1 (Ql ls) (iI (i:Nat))=some (cS ls[i]):=dv (by simp[h]) rfl
theorem ZD{ls:List (List Gl)}{i:Nat}(h:i<ls.length):cq 1 (L5 ls) (iI (i:Nat))=some (qT ls[i]):=dv (by simp[h]) rfl
theorem Qm(ls:List (List At)):Pure (Ql ls):=by
 refine .tree 1 _ fun e he c hc=>?_;obtain⟨x,_,rfl⟩:=asO.1 he;simp[cellsOf]at hc;subst hc;exact GU x
theorem Qn(ls:List (List Gl)):Pure (L5 ls):=by
 refine .tree 1 _ fun e he c hc=>?_;obtain⟨x,_,rfl⟩:=asO.1 he;simp[cellsOf]at hc;subst hc;exact abk x
theorem zH{α:Type}{f:α→List Int}{l:List α}{i:Nat}(h:i<l.length):((l.take (i+1)).map f).flatten=((l.take i).map f).flatten++f l[i]:=by
 rw[asm h,awU,atu];simp only[asY,atW,auD,List.flatten_nil,List.append_nil]
theorem Co{α:Type}{f:α→List Int}{n:Nat}:∀{l:List α},(∀a∈l,(f a).length≤n)→((l.map f).flatten).length≤l.length*n
 |[],_=>by simp
 |a::l,h=>by
  have:=Co (f:=f) (l:=l) fun a ha=>h a (by simp[ha]);have h1:=h a (by simp);rw[asY,auD,asu,List.length_cons,Nat.add_mul];omega
theorem Cp{α:Type}{f:α→List Int}(l:List α)(i:Nat):((l.take i).map f).flatten.length≤(l.map f).flatten.length:=by
 conv=>rhs;rw[←List.take_append_drop i l,awU,atu,asu]
 omega
theorem uK(l:List Int):∀e∈l.map iI,(cellsOf e).length=1:=fun e he=>by obtain⟨x,_,rfl⟩:=asO.1 he;rfl
theorem Fv(l:List Int):∀c∈flat (l.map iI),(∃v,c=.raw v)∧ab c=true:=fun c hc=>by
 unfold flat at hc;obtain⟨e,he,hc⟩:=List.mem_flatMap.1 hc;obtain⟨x,_,rfl⟩:=asO.1 he;simp[cellsOf]at hc;subst hc;exact⟨⟨_,rfl⟩,rfl⟩
section
variable{k0:List IV→Prop}{Q:IV→Prop}
theorem ah6(l:List At)(hl:Sm l)(hn:∀a∈l,pC a∧uJ a){x0:IV}(acc:List Int)(i:Nat)(hi:i<1000)(hlen:acc.length+(tI l).length≤1000000000)(hk:k0 [iI (i+1:Nat),iL (acc++tI l)]):
 LU.sat ar3 CC Q [k0] [x0,iI i,iL acc,cS l]:=by
 have eO:=aw hi (by omega);refine ao l.length (fun j (q:List Int)=>[iI j,iL q]) (fun j q=>q=acc++tI (l.take j)) acc ?_ (by simp[tI]) fun j q hj hq=>?_
 ·simp[SE.den]
 by_cases aa:j<l.length
 ·have hw:=aw aa hl;obtain⟨h1,h2⟩:=hn _ (asb aa);have Eo:=Ty false l[j] h1 h2;have ht:=zH (f:=fun a:At=>varsOf a.ts) aa;have dT:=Cp (f:=fun a:At=>varsOf a.ts) l (j+1);rw[ht,asu]at dT;have hc:=nV (a:=q) (b:=varsOf l[j].ts) (by rw[hq,asu];unfold tI at hlen⊢;omega);simp[SE.den,aa,hw,kZ aa,ab];refine⟨_,Eo,?_⟩;simp[hc, -atv];refine⟨fun x a ha hx=>?_,.mk _ rfl (by omega) (by rw[hq,tI,tI,ht,asv])⟩;simp[cellsOf]at hx;subst hx;rfl
 ·rw[asV (by omega)]at hq;simp[SE.den,aa,eO];rw[hq];exact hk
theorem aqI(ls:List (List At))(hl:ls.length≤1000)(hn:∀l∈ls,Sm l∧∀a∈l,pC a∧uJ a)(hlen:(fX ls).length≤1000000000):
 Kd.sat ar3 CC (·=iL (fX ls)) [] [Ql ls]:=by
 simp only[Kd,nB,SE.den,atF,asc,rH];refine⟨⟨_,rfl⟩,⟨_,rfl⟩,?_⟩;unfold LV;refine ao ls.length (fun i (q:List Int)=>[iI i,iL q]) (fun i q=>q=fX (ls.take i)) [] ?_ (by simp[fX]) fun i q hi hq=>?_
 ·simp[SE.den]
 by_cases aa:i<ls.length
 ·obtain⟨h1,h2⟩:=hn _ (asb aa);have ht:=zH (f:=tI) aa;have dT:=Cp (f:=tI) ls (i+1);rw[ht,asu]at dT;simp[SE.den,aa,ZC aa, -atv];refine ah6 ls[i] h1 h2 q i (by omega) (by rw[hq];unfold fX at hlen⊢;omega) ?_;exact .mk _ rfl (by omega) (by rw[hq,fX,fX,ht])
 ·rw[asV (by omega)]at hq;simp[SE.den,aa];rw[hq];exact⟨fun x a ha hx=>by simp[cellsOf]at hx;subst hx;rfl,rfl⟩
theorem ah7(l:List At)(hl:Sm l)(hn:∀a∈l,pC a∧uJ a){x0:IV}(i:Nat)(hi:i<1000)(hz:∀a∈l,varsOf a.ts=[])(hk:k0 [iI (i+1:Nat)]):
 LW.sat ar3 CC Q [k0] [x0,iI i,cS l]:=by
 have eO:=aw hi (by omega);refine ao l.length (fun j (_:Unit)=>[iI j]) (fun _ _=>True) () ?_ trivial fun j _ hj _=>?_
 ·simp[SE.den]
 by_cases aa:j<l.length
 ·have hw:=aw aa hl;obtain⟨h1,h2⟩:=hn _ (asb aa);have Eo:=Ty false l[j] h1 h2;rw[hz _ (asb aa)]at Eo;simp[SE.den,aa,hw,kZ aa,ab];refine⟨_,Eo,?_⟩;simp;exact⟨⟨.tree 1 [],by simp[jF,fa]⟩,.mk () rfl (by omega) trivial⟩
 ·simp[SE.den,aa,eO];exact hk
theorem z139(ls:List (List At))(hl:ls.length≤1000)(hn:∀l∈ls,Sm l∧∀a∈l,pC a∧uJ a)(hz:fX ls=[]):
 Ke.sat ar3 CC (·=iL []) [] [Ql ls]:=by
 simp only[Ke,nB,SE.den,atF,asc,rH];refine⟨⟨_,rfl⟩,⟨_,rfl⟩,?_⟩;unfold LX;refine ao ls.length (fun i (_:Unit)=>[iI i]) (fun _ _=>True) () ?_ trivial fun i _ hi _=>?_
 ·simp[SE.den]
 by_cases aa:i<ls.length
 ·obtain⟨h1,h2⟩:=hn _ (asb aa);simp[SE.den,aa,ZC aa];refine ah7 ls[i] h1 h2 i (by omega) (fun a ha=>?_) (.mk () rfl (by omega) trivial);have:=aum.1 hz _ (asO.2 ⟨_,asb aa,rfl⟩);exact aum.1 this _ (asO.2 ⟨a,ha,rfl⟩)
 ·simp[SE.den,aa]
theorem n139:(ar3.funcs[139]?).map (·.params.size)=some 1:=by kernel_rfl
theorem ah8:cA ar3 139=1:=by kernel_rfl
theorem f139(ls:List (List At))(hl:ls.length≤1000)(hn:∀l∈ls,Sm l∧∀a∈l,pC a∧uJ a)(hlen:(fX ls).length≤1000000000):jt ar3 (cA ar3 139) 139 [Ql ls] ((fX ls).map iI):=by
 have h1:=ah8;by_cases hp:fX ls=[]
 ·exact .nz (nm:=true) mixed vV ahX n139 (by simpa using Qm ls) (by rw[h1];exact uK _) (Fv _) (by simp) (by rw[h1,hp];exact z139 ls hl hn hp)
 ·exact .nz (nm:=false) mixed vV ahW n139 (by simpa using Qm ls) (by rw[h1];exact uK _) (Fv _) (fun _=>by simpa using hp) (by rw[h1];exact aqI ls hl hn hlen)
theorem amK(new:Bool)(ls:List (List At))(hl:ls.length≤1000)(hn:∀l∈ls,Sm l∧∀a∈l,pC a∧uJ a)(hlen:(fX ls).length≤1000000000):CC 1563 new [Ql ls] (iL (fX ls)):=by
 have h:=mT.fresh (new:=new) (ky n139) (f139 ls hl hn hlen);rw[dJ,ah8]at h;unfold CC;rw[dJ];exact h
theorem ah9(l:List Gl)(hl:Sm l)(hn:∀a∈l,tG a∧vX a){x0:IV}(acc:List Int)(i:Nat)(hi:i<1000)(hlen:acc.length+(tJ l).length≤1000000000)(hk:k0 [iI (i+1:Nat),iL (acc++tJ l)]):
 LY.sat ar3 CC Q [k0] [x0,iI i,iL acc,qT l]:=by
 have eO:=aw hi (by omega);refine ao l.length (fun j (q:List Int)=>[iI j,iL q]) (fun j q=>q=acc++tJ (l.take j)) acc ?_ (by simp[tJ]) fun j q hj hq=>?_
 ·simp[SE.den]
 by_cases aa:j<l.length
 ·have hw:=aw aa hl;obtain⟨h1,h2⟩:=hn _ (asb aa);have Tz:=c87 false l[j] h1 h2;have ht:=zH (f:=fun a:Gl=>varsOf a.ts) aa;have dT:=Cp (f:=fun a:Gl=>varsOf a.ts) l (j+1);rw[ht,asu]at dT;have hc:=nV (a:=q) (b:=varsOf l[j].ts) (by rw[hq,asu];unfold tJ at hlen⊢;omega);simp[SE.den,aa,hw,lW aa,ab];refine⟨_,Tz,?_⟩;simp[hc, -atv];refine⟨fun x a ha hx=>?_,.mk _ rfl (by omega) (by rw[hq,tJ,tJ,ht,asv])⟩;simp[cellsOf]at hx;subst hx;rfl
 ·rw[asV (by omega)]at hq;simp[SE.den,aa,eO];rw[hq];exact hk
theorem aqJ(ls:List (List Gl))(hl:ls.length≤1000)(hn:∀l∈ls,Sm l∧∀a∈l,tG a∧vX a)(hlen:(eJ ls).length≤1000000000):
 Kf.sat ar3 CC (·=iL (eJ ls)) [] [L5 ls]:=by
 simp only[Kf,nB,SE.den,atF,asc,rH];refine⟨⟨_,rfl⟩,⟨_,rfl⟩,?_⟩;unfold LZ;refine ao ls.length (fun i (q:List Int)=>[iI i,iL q]) (fun i q=>q=eJ (ls.take i)) [] ?_ (by simp[eJ]) fun i q hi hq=>?_
 ·simp[SE.den]
 by_cases aa:i<ls.length
 ·obtain⟨h1,h2⟩:=hn _ (asb aa);have ht:=zH (f:=tJ) aa;have dT:=Cp (f:=tJ) ls (i+1);rw[ht,asu]at dT;simp[SE.den,aa,ZD aa, -atv];refine ah9 ls[i] h1 h2 q i (by omega) (by rw[hq];unfold eJ at hlen⊢;omega) ?_;exact .mk _ rfl (by omega) (by rw[hq,eJ,eJ,ht])
 ·rw[asV (by omega)]at hq;simp[SE.den,aa];rw[hq];exact⟨fun x a ha hx=>by simp[cellsOf]at hx;subst hx;rfl,rfl⟩
theorem ah_(l:List Gl)(hl:Sm l)(hn:∀a∈l,tG a∧vX a){x0:IV}(i:Nat)(hi:i<1000)(hz:∀a∈l,varsOf a.ts=[])(hk:k0 [iI (i+1:Nat)]):
 L0.sat ar3 CC Q [k0] [x0,iI i,qT l]:=by
 have eO:=aw hi (by omega);refine ao l.length (fun j (_:Unit)=>[iI j]) (fun _ _=>True) () ?_ trivial fun j _ hj _=>?_
 ·simp[SE.den]
 by_cases aa:j<l.length
 ·have hw:=aw aa hl;obtain⟨h1,h2⟩:=hn _ (asb aa);have Tz:=c87 false l[j] h1 h2;rw[hz _ (asb aa)]at Tz;simp[SE.den,aa,hw,lW aa,ab];refine⟨_,Tz,?_⟩;simp;exact⟨⟨.tree 1 [],by simp[jF,fa]⟩,.mk () rfl (by omega) trivial⟩
 ·simp[SE.den,aa,eO];exact hk
theorem aqK(ls:List (List Gl))(hl:ls.length≤1000)(hn:∀l∈ls,Sm l∧∀a∈l,tG a∧vX a)(hz:eJ ls=[]):
 Kg.sat ar3 CC (·=iL []) [] [L5 ls]:=by
 simp only[Kg,nB,SE.den,atF,asc,rH];refine⟨⟨_,rfl⟩,⟨_,rfl⟩,?_⟩;unfold L4;refine ao ls.length (fun i (_:Unit)=>[iI i]) (fun _ _=>True) () ?_ trivial fun i _ hi _=>?_
 ·simp[SE.den]
 by_cases aa:i<ls.length
 ·obtain⟨h1,h2⟩:=hn _ (asb aa);simp[SE.den,aa,ZD aa];refine ah_ ls[i] h1 h2 i (by omega) (fun a ha=>?_) (.mk () rfl (by omega) trivial);have:=aum.1 hz _ (asO.2 ⟨_,asb aa,rfl⟩);exact aum.1 this _ (asO.2 ⟨a,ha,rfl⟩)
 ·simp[SE.den,aa]
theorem n140:(ar3.funcs[140]?).map (·.params.size)=some 1:=by kernel_rfl
theorem aia:cA ar3 140=1:=by kernel_rfl
theorem f140(ls:List (List Gl))(hl:ls.length≤1000)(hn:∀l∈ls,Sm l∧∀a∈l,tG a∧vX a)(hlen:(eJ ls).length≤1000000000):jt ar3 (cA ar3 140) 140 [L5 ls] ((eJ ls).map iI):=by
 have h1:=aia;by_cases hp:eJ ls=[]
 ·exact .nz (nm:=true) mixed vV ahZ n140 (by simpa using Qn ls) (by rw[h1];exact uK _) (Fv _) (by simp) (by rw[h1,hp];exact aqK ls hl hn hp)
 ·exact .nz (nm:=false) mixed vV ahY n140 (by simpa using Qn ls) (by rw[h1];exact uK _) (Fv _) (fun _=>by simpa using hp) (by rw[h1];exact aqJ ls hl hn hlen)
theorem ade(new:Bool)(ls:List (List Gl))(hl:ls.length≤1000)(hn:∀l∈ls,Sm l∧∀a∈l,tG a∧vX a)(hlen:(eJ ls).length≤1000000000):CC 1564 new [L5 ls] (iL (eJ ls)):=by
 have h:=mT.fresh (new:=new) (ky n140) (f140 ls hl hn hlen);rw[dJ,aia]at h;unfold CC;rw[dJ];exact h
end
end Go.Proofs.YtggffkaadeagbaaGreat
namespace Go.Proofs.YtggffkaadeagbaaGreat
open Go Go.Ev
def aib:List Nat:=[123,127,126,186,189,44,79,30,102,9,10,23,31,15,257,149,89,148,198,147,199,50,191,71,214,93,163,49,152,64,164,158,95,108,206,250,213,130,131,107,129,155,34,90,51,202,153,201,200,151,203,150,204,154,91,41,67,101,99,109,157,210,12,26,28,25,14,19,100,40,39,70,69,35,53,52,68,42,58,98,96,75,211,136,83,192,85,11,24,27,22,13,29,61,36,33,32,84,47,143,46,190,66,87,45,138,133,88,128,249,121,78,183,256,156]
def aic:List Nat:=[48,118,216]
def aid:List Nat:=[185,188,254]
def aie:List Nat:=[155,159,103,173000080,500139,500140,500097,600086]
def TA:af:=
 (lC 16 2 16 (vf 2 17 .eql 9 17 (cW 15) (zh 16 16 7 7 (vb 47 15 0 wI (lP 18 18 (iD 9 9) 5 14))) 6 16) (iD 7 7))
def TB:af:=
 (lC 18 2 18 (vf 2 19 .eql 9 19 (cW 17) (zh 18 18 7 7 (vb 47 17 0 (kH 17) (kW 20 20 (iD 9 9) (nw 6 15 kX)))) 7 18) (iD 7 7))
def TC:af:=
 (lC 19 2 19 (vf 2 20 .eql 9 20 (gQ 18) (zh 19 19 7 7 (vb 47 18 1 (gA 18) (lP 21 21 (iD 9 9) 7 17))) 8 19) (iD 7 7))
def TD:af:=
 (lC 20 2 20 (vf 2 21 .eql 9 21 (gQ 19) (zh 20 20 7 7 (vb 47 19 1 (gA 19) (lP 22 22 (iD 9 9) 8 18))) 9 20) (iD 7 7))
def TE:af:=
 (sX (ko (.var 21) bz) 3 24 (jz 22) (uU (mq 22 24) 121 (.var 23) (gz 22 24) (kW 25 25 (iD 17 17) (oJ 24 (.next 11 (ko (.var 23) (oI 24)))))) kD)
def TF:af:=
 (pP 20 ti 3 pR 20 (kY 3 21 143 (cW 21) (eI 22 (y8 (sV (fF 22)) (sV (fF 22)) 10 10 (gb 10 20)))) (te 1563 (.tr 1 (ov 1 1 1 2)) (te 1564 (u7 1 1 3) (.aG (jz 22) TE))))
def TG:af:=
 (u_ 19 eE 3 oK 19 (kY 3 20 143 (cW 20) (.nt (fF 21) (gb 9 19) (y8 (uT .eql (cW 20)) (uT .eql (cW 20)) 10 10 (gb 9 19)))) 4 TF)
def TH:af:=
 (u_ 18 ti 3 pR 18 (ig (kV 3 19) (cW 19) (cB (gA 19) bI TD) (gb 8 18)) 3 TG)
def TI:af:=
 (u_ 17 eE 3 oK 17 (ig (kV 3 18) (cW 18) (cB (gA 18) bI TC) (gb 7 17)) 4 TH)
def TJ:af:=
 (kF xV 15 ie 2 wK 15 (jJ 2 17 (kH 17) (y9 TB)) (nf 3 TI))
def Qo:af:=
 (u_ 14 kE 2 qZ 14 (jJ 2 15 wI (y9 TA)) 2 TJ)
def Qp:af:=
 (lC 17 2 17 (vf 2 18 .eql 9 18 (cW 16) (zh 17 17 7 7 (vb 47 16 0 BA (lP 19 19 (iD 9 9) 5 15))) 6 17) (iD 7 7))
def Qq:af:=
 (lC 19 2 19 (vf 2 20 .eql 9 20 (cW 18) (zh 19 19 7 7 (vb 47 18 0 (kH 18) (kW 21 21 (iD 9 9) (nw 6 16 kX)))) 7 19) (iD 7 7))
def Qr:af:=
 (lC 20 2 20 (vf 2 21 .eql 9 21 (gQ 19) (zh 20 20 7 7 (vb 47 19 1 (gA 19) (lP 22 22 (iD 9 9) 7 18))) 8 20) (iD 7 7))
def Qs:af:=
 (lC 21 2 21 (vf 2 22 .eql 9 22 (gQ 20) (zh 21 21 7 7 (vb 47 20 1 (gA 20) (lP 23 23 (iD 9 9) 8 19))) 9 21) (iD 7 7))
def Qt:af:=
 (sX (ko (.var 22) bz) 3 25 (jz 23) (uU (mq 23 25) 121 (.var 24) (gz 23 25) (kW 26 26 (iD 17 17) (oJ 25 (.next 11 (ko (.var 24) (oI 25)))))) kD)
def Qu:af:=
 (pP 21 ti 3 pR 21 (kY 3 22 143 (cW 22) (eI 23 (y8 (sV (fF 23)) (sV (fF 23)) 10 10 (gb 10 21)))) (te 1563 (.tr 1 (ov 1 1 1 2)) (te 1564 (u7 1 1 3) (.aG (jz 23) Qt))))
def Qv:af:=
 (u_ 20 eE 3 oK 20 (kY 3 21 143 (cW 21) (.nt (fF 22) (gb 9 20) (y8 (uT .eql (cW 21)) (uT .eql (cW 21)) 10 10 (gb 9 20)))) 4 Qu)
def Qw:af:=
 (u_ 19 ti 3 pR 19 (ig (kV 3 20) (cW 20) (cB (gA 20) bI Qs) (gb 8 19)) 3 Qv)
def Qx:af:=
 (u_ 18 eE 3 oK 18 (ig (kV 3 19) (cW 19) (cB (gA 19) bI Qr) (gb 7 18)) 4 Qw)
def Qy:af:=
 (kF xV 16 ie 2 wK 16 (jJ 2 18 (kH 18) (y9 Qq)) (nf 3 Qx))
def Qz:af:=
 (u_ 15 kE 2 qZ 15 (jJ 2 16 BA (y9 Qp)) 2 Qy)
def QA:af:=
 (sX (My bz) 3 12 (jz 11) (.aG (mq 11 12) (y8 (zU .leq (gz 11 12) nu) (zU .leq (gz 11 12) nu) 2 2 (kK .eql (gz 11 12) nu (oJ 13 (nw 4 12 (oI 13))) (er 4 12 13)))) (y8 (zU .eql (EV 5) nu) (zU .eql (EV 5) nu) 2 2 (tq 9 1 0 (nf 1 Qo) (iC 83 th (kW 14 14 (iD 7 7) (nf 1 Qz))))))
def QB:af:=
 (kF xV 7 ti 3 pR 7 (kY 3 9 138 (ot 9 0 9 1 (qv 9 2)) (kW 10 10 (iD 2 2) (nw 3 7 kX))) (te 1563 (.tr 1 (ov 1 1 1 2)) (te 1564 (.tr 1 (ov 1 3 1 4)) (vR 1 8 9 eX (.aG (jz 11) QA)))))
def QC:af:=
 (u_ 6 eE 3 oK 6 (kY 3 7 138 (ot 7 0 7 1 (qv 7 2)) (lP 8 8 (iD 2 2) 2 6)) 4 QB)
def QD:af:=
 (kF xV 4 ie 2 wK 4 (zl 6 45 6 6 (kW 7 7 (iD 2 2) (nw 1 4 kX))) (nf 3 QC))
def He:af:=
 (u_ 3 kE 2 qZ 3 (zl 4 45 4 4 (lP 5 5 (iD 2 2) 0 3)) 2 QD)
def adf:af:=
 (HZ (kV 6 1) (te 1148 (.i 172) (cB kE ie (oz (kC kE ie) .gtr (kC kE ie) (kK .leq (kC kE ie) (.i 4) (mE eE .leq eE 12 (nf 4 (y8 (q5 ti 12) (q5 ti 12) 6 6 (nf 1 He))) (iD 6 6)) (iD 6 6)) (iD 6 6)))))
def amL:aL:=⟨aib,aic,aid,[⟨2,84008000,53,[(2,(203,0))],[(8,1)],[(2,0),(2,21),(2,180),(2,181),(2,182),(2,183),(2,184),(2,185),(2,186),(2,187),(2,188),(2,189),(2,190),(2,191),(2,192),(2,193),(2,194),(2,195),(2,196),(2,197),(2,198),(2,199),(2,200)],[(2,(22,2))]⟩,⟨2,84008000,47,[(2,(182,0))],[],[(2,19),(2,163),(2,164),(2,165),(2,166),(2,167),(2,168),(2,169),(2,170),(2,171),(2,172),(2,173),(2,174),(2,175),(2,176),(2,177),(2,178),(2,179)],[]⟩,⟨2,84008000,42,[(2,(165,0))],[],[(2,1),(2,15),(2,17),(2,135),(2,136),(2,137),(2,138),(2,139),(2,140),(2,141),(2,142),(2,143),(2,144),(2,145),(2,146),(2,147),(2,148),(2,149),(2,150),(2,151),(2,152),(2,153),(2,154),(2,155),(2,156),(2,157),(2,158),(2,159),(2,160),(2,161),(2,162)],[]⟩,⟨6,84008000162022010008,2,[(6,(8,0))],[],[],[]⟩,⟨3,84008000162,1,[(3,(8,0))],[],[],[]⟩,⟨6,84008000158022010008,2,[(6,(8,0))],[],[],[]⟩,⟨3,84008000158,1,[(3,(8,0))],[],[],[]⟩,⟨2,84008000,34,[(2,(142,0)),(2,(141,0))],[],[],[]⟩,⟨5,84008000152010008,2,[(5,(8,0))],[],[],[]⟩,⟨2,84008000,22,[(2,(11,0)),(2,(103,0))],[],[(2,8),(2,10),(2,74),(2,75),(2,76),(2,77),(2,78),(2,79),(2,80),(2,81),(2,82),(2,83),(2,84),(2,85),(2,86),(2,87),(2,88),(2,89),(2,90),(2,91),(2,92),(2,93),(2,94),(2,95),(2,96),(2,97),(2,98),(2,99),(2,100)],[]⟩,⟨2,84008000,15,[(2,(81,0)),(2,(80,0))],[],[(2,4),(2,6),(2,55),(2,56),(2,57),(2,58),(2,59),(2,60),(2,61),(2,62),(2,63),(2,64),(2,65),(2,66),(2,67),(2,68),(2,69),(2,70),(2,71),(2,72),(2,73)],[]⟩,⟨2,84008000,6,[(2,(62,0)),(2,(61,0))],[],[(2,2),(2,3),(2,5),(2,7),(2,25),(2,26),(2,27),(2,28),(2,29),(2,30),(2,31),(2,32),(2,33),(2,34),(2,35),(2,36),(2,37),(2,38),(2,39),(2,40),(2,41),(2,42),(2,43),(2,44),(2,45),(2,46),(2,47),(2,48),(2,49),(2,50),(2,51),(2,52),(2,53),(2,54)],[]⟩,⟨999999,0,0,[],[],[],[]⟩],aie⟩
theorem aqL:aA ar3 amL 400 false 84=adf:=by kernel_rfl
end Go.Proofs.YtggffkaadeagbaaGreat
