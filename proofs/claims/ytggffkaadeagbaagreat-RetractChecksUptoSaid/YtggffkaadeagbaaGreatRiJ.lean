/- A part of the proof, no condition: small functions of the checks of the program come to an end. -/
import Derived.Test.YtggffkaadeagbaaGreatRhA
import Derived.Test.YtggffkaadeagbaaGreatRiS
import Derived.Test.YtggffkaadeagbaaGreatRjF
import Derived.Test.YtggffkaadeagbaaGreatRhC
import Derived.Test.YtggffkaadeagbaaGreatEvJ
import Derived.Test.YtggffkaadeagbaaGreatRuA
import Derived.Test.YtggffkaadeagbaaGreatEvP
open List renaming foldl_cons->arh,mem_flatten->atd,mem_map->aq5,map_nil->as_,take_succ_eq_append_getElem->aqR,take_of_length_le->aqT,map_append->atI,flatten_append->arS,map_cons->arC,flatten_cons->as9,length_append->aq3,getElem_mem->aqI,length_flatten->ar1,append_assoc->aq4,getElem?_cons_zero->asb,flatten_eq_nil_iff->asQ
open Go.Proofs.Tryz renaming prog->aqD
open Option renaming bind_some->aqN
set_option linter.all false
namespace Go.Proofs.YtggffkaadeagbaaGreat
open Go Go.Ev
theorem aeh(l:List Int)(x:Int):x∈As l↔x∈l:=by
 have key:∀(l acc:List Int),x∈(l.foldl (fun acc x=>if x∈acc then acc else acc++[x]) acc)↔x∈acc∨x∈l:=by
  intro l;induction l with
  |nil=>simp
  |cons y l ih=>
   intro acc;rw[arh,ih];split
   ·rename_i h;constructor
    ·rintro(h1|h1)
     ·exact .inl h1
     ·exact .inr (by simp[h1])
    ·rintro(h1|h1)
     ·exact .inl h1
     ·rcases List.mem_cons.1 h1 with rfl|h1
      ·exact .inl h
      ·exact .inr h1
   ·simp[or_assoc]
 simpa[As]using key l []
theorem Ze(l:List Int):(As l).Nodup:=by
 have key:∀(l acc:List Int),acc.Nodup→(l.foldl (fun acc x=>if x∈acc then acc else acc++[x]) acc).Nodup:=by
  intro l;induction l with
  |nil=>intro acc h;exact h
  |cons y l ih=>
   intro acc h;rw[arh];refine ih _ ?_;split
   ·exact h
   ·rename_i hy;rw[List.nodup_append];exact⟨h,by simp,fun a ha b hb=>by simp at hb;subst hb;exact fun he=>hy (he▸ha)⟩
 exact key l [] (by simp)
theorem I7:∀(d:Nat) (t:Tm),SizeOf.sizeOf t≤d→dm t→∀x∈fX t,0≤x∧x≤1048576
 |0,.mk k n s ts,hd,_,_,_=>by simp at hd
 |d+1,.mk k n s ts,hd,h,x,hx=>by
  obtain⟨h1,h2⟩:=(yY _).1 h;simp only[Tm.k,Tm.n,Tm.ts]at h1 h2;unfold fX at hx;split at hx
  ·simp at hx;subst hx;exact h1 ‹_›
  ·split at hx
   ·rw[BX]at hx;obtain⟨l,hl,hx⟩:=atd.1 hx;obtain⟨u,hu,rfl⟩:=aq5.1 hl;refine I7 d u ?_ (h2 ‹_› u hu) x hx;have:=List.sizeOf_lt_of_mem hu;simp at hd;omega
   ·simp at hx
theorem y8(t:Tm)(h:dm t):∀x∈fX t,0≤x∧x≤1048576:=I7 _ t (Nat.le_refl _) h
theorem xP{ts:List Tm}(hf:∀t∈ts,dm t):(varsOf ts).length≤1048577:=
 Ko 1048577 _ (Ze _) fun x hx=>by
  rw[varsOf,aeh]at hx;obtain⟨l,hl,hx⟩:=atd.1 hx;obtain⟨u,hu,rfl⟩:=aq5.1 hl;have:=y8 u (hf u hu) x hx;omega
theorem t46(z:IV):aN aqD 46 z=true:=by kernel_rfl
theorem t87(z:IV):aN aqD 87 z=true:=by kernel_rfl
theorem t88(z:IV):aN aqD 88 z=true:=by kernel_rfl
def xQ(a:At):Prop:=∀t∈a.ts,dm t
def vE(g:Gl):Prop:=∀t∈g.ts,dm t
theorem c46(new:Bool)(a:At)(h:rZ a)(hf:xQ a):CC 46 new [.agg [iS a.s,iT a.ts]] (iL (varsOf a.ts)):=
 CC.plain (by rw[dK];decide) (aoQ new a.s h.2.1 h.2.2 hf) (Aj _) (t46 _)
theorem c87(new:Bool)(g:Gl)(h:r6 g)(hf:vE g):CC 87 new [.agg [iI g.op,iS g.s,iT g.ts]] (iL (varsOf g.ts)):=
 CC.plain (by rw[dK];decide) (aoR new g.op g.s h.2.1 h.2.2 hf) (Aj _) (t87 _)
theorem c88(new:Bool)(t:Tm)(h:nN t)(hf:dm t):CC 88 new [dB t] (iL (varsOf [t])):=
 CC.plain (by rw[dK];decide) (aoS new t h hf) (Aj _) (t88 _)
theorem acO(l:List Int)(n:Int)(hl:Sm l):CC 121 true [iL l,iI n] (iB (l.contains n)):=by
 refine CC.of agR n121 (t121 _) (by simp) (by simp) ?_;simp[Tx,SE.den];refine⟨_,an8 l n hl,?_⟩;have:=PB n l 0;simp at this⊢;simp[aw];exact this
theorem n47:(aqD.funcs[47]?).map (·.params.size)=some 3:=by kernel_rfl
theorem t47(z:IV):aN aqD 47 z=true:=by kernel_rfl
theorem n143:(aqD.funcs[143]?).map (·.params.size)=some 1:=by kernel_rfl
theorem t143(z:IV):aN aqD 143 z=true:=by kernel_rfl
theorem n96:(aqD.funcs[96]?).map (·.params.size)=some 1:=by kernel_rfl
theorem t96(z:IV):aN aqD 96 z=true:=by kernel_rfl
theorem n85:(aqD.funcs[85]?).map (·.params.size)=some 1:=by kernel_rfl
theorem t85(z:IV):aN aqD 85 z=true:=by kernel_rfl
theorem c85(r:Rl)(h:r.keep.length+r.remove.length≤1000):CC 85 false [oc r] (mP (r.keep++r.remove)):=by
 refine CC.of aoT n85 (t85 _) (by simpa using ji r) (by simp) ?_;have h1:=Fp (a:=[]) (b:=r.keep) (by simp;omega);have h2:=Fp h;have hw:IntKind.i64.wrap ((r.keep.length:Int)+r.remove.length)=r.keep.length+r.remove.length:=dL (by omega) (by omega);simp only[List.nil_append,as_]at h1;rw[iQ];simp[acI,SE.den,af,hw,lL];exact⟨by omega,_,h1,h2⟩
theorem n36:(aqD.funcs[36]?).map (·.params.size)=some 3:=by kernel_rfl
theorem t36(z:IV):aN aqD 36 z=true:=by kernel_rfl
end Go.Proofs.YtggffkaadeagbaaGreat
namespace Go.Proofs.YtggffkaadeagbaaGreat
open Go Go.Ev
def Qq(l:List Int):List Int:=l.foldl tE []
theorem I8(ks:List Int):rX (ks.map mb):=by
 intro d hd;obtain⟨k,_,rfl⟩:=aq5.1 hd;exact⟨.int .i64 k,.agg #[],rfl⟩
theorem n97:(aqD.funcs[97]?).map (·.params.size)=some 1:=by kernel_rfl
theorem f97(l:List Int)(hl:Sm l):lF aqD 97 [iL l] ((Qq l).map mb):=by
 refine lF.nj mixed vD alm n97 (by simp) (I8 _) ?_;simp[Za,Qn,SE.den,af];refine ao l.length (fun i (q:List Int)=>[iI i,iM q]) (fun i q=>q=(l.take i).foldl tE []) [] ?_ (by simp) fun i q hi hq=>?_
 ·simp[SE.den]
 by_cases aa:i<l.length
 ·have hw:=az aa hl;have rC:=Fq (ν:=[iM q,iI l[i]]) (m:=.var 0) (key:=.var 1) (ks:=q) (k:=l[i]) rfl rfl;simp[SE.den]at rC;simp only[iI]at rC;simp[SE.den,aa,hw,dC aa,af];refine⟨_,rC,?_⟩;refine .mk _ rfl (by omega) ?_;rw[hq,aqR aa,List.foldl_append];rfl
 ·simp[SE.den,aa];rw[hq,aqT (by omega),Qq]
theorem n86:(aqD.funcs[86]?).map (·.params.size)=some 2:=by kernel_rfl
theorem als(new:Bool)(l:List Int)(hl:Sm l):CC 1877 new [iL l] (iM (Qq l)):=by
 have h:=mR.afQ (new:=new) (kG n97) (f97 l hl);rw[dK]at h;unfold CC;rw[dK];exact h
end Go.Proofs.YtggffkaadeagbaaGreat
namespace Go.Proofs.YtggffkaadeagbaaGreat
open Go Go.Ev
abbrev Qr(ls:List (List At)):IV:=.tree 1 (ls.map mP)
abbrev Mo(ls:List (List Gl)):IV:=.tree 1 (ls.map qL)
def eX(l:List At):List Int:=(l.map fun a=>varsOf a.ts).flatten
def jV(l:List Gl):List Int:=(l.map fun a=>varsOf a.ts).flatten
def dh(ls:List (List At)):List Int:=(ls.map eX).flatten
def cU(ls:List (List Gl)):List Int:=(ls.map jV).flatten
theorem Zf{ls:List (List At)}{i:Nat}(h:i<ls.length):dx 1 (Qr ls) (iI (i:Nat))=some (mP ls[i]):=fZ (by simp[h]) rfl
theorem Zg{ls:List (List Gl)}{i:Nat}(h:i<ls.length):dx 1 (Mo ls) (iI (i:Nat))=some (qL ls[i]):=fZ (by simp[h]) rfl
theorem Qs(ls:List (List At)):Pure (Qr ls):=by
 refine .tree 1 _ fun e he c hc=>?_;obtain⟨x,_,rfl⟩:=aq5.1 he;simp[cellsOf]at hc;subst hc;exact aa2 x
theorem Qt(ls:List (List Gl)):Pure (Mo ls):=by
 refine .tree 1 _ fun e he c hc=>?_;obtain⟨x,_,rfl⟩:=aq5.1 he;simp[cellsOf]at hc;subst hc;exact abb x
theorem vm{α:Type}{f:α→List Int}{l:List α}{i:Nat}(h:i<l.length):((l.take (i+1)).map f).flatten=((l.take i).map f).flatten++f l[i]:=by
 rw[aqR h,atI,arS];simp only[arC,as_,as9,List.flatten_nil,List.append_nil]
theorem BY{α:Type}{f:α→List Int}{n:Nat}:∀{l:List α},(∀a∈l,(f a).length≤n)→((l.map f).flatten).length≤l.length*n
 |[],_=>by simp
 |a::l,h=>by
  have:=BY (f:=f) (l:=l) fun a ha=>h a (by simp[ha]);have h1:=h a (by simp);rw[arC,as9,aq3,List.length_cons,Nat.add_mul];omega
theorem BZ{α:Type}{f:α→List Int}(l:List α)(i:Nat):((l.take i).map f).flatten.length≤(l.map f).flatten.length:=by
 conv=>rhs;rw[←List.take_append_drop i l,atI,arS,aq3]
 omega
theorem ui(l:List Int):∀e∈l.map iI,(cellsOf e).length=1:=fun e he=>by obtain⟨x,_,rfl⟩:=aq5.1 he;rfl
theorem FB(l:List Int):∀c∈flat (l.map iI),(∃v,c=.raw v)∧af c=true:=fun c hc=>by
 unfold flat at hc;obtain⟨e,he,hc⟩:=List.mem_flatMap.1 hc;obtain⟨x,_,rfl⟩:=aq5.1 he;simp[cellsOf]at hc;subst hc;exact⟨⟨_,rfl⟩,rfl⟩
section
variable{k0:List IV→Prop}{Q:IV→Prop}
theorem ag2(l:List At)(hl:Sm l)(hn:∀a∈l,rZ a∧xQ a){x0:IV}(acc:List Int)(i:Nat)(hi:i<1000)(hlen:acc.length+(eX l).length≤1000000000)(hk:k0 [iI (i+1:Nat),iL (acc++eX l)]):
 Mg.sat aqD CC Q [k0] [x0,iI i,iL acc,mP l]:=by
 have gd:=az hi (by omega);refine ao l.length (fun j (q:List Int)=>[iI j,iL q]) (fun j q=>q=acc++eX (l.take j)) acc ?_ (by simp[eX]) fun j q hj hq=>?_
 ·simp[SE.den]
 by_cases aa:j<l.length
 ·have hw:=az aa hl;obtain⟨h1,h2⟩:=hn _ (aqI aa);have Qu:=c46 false l[j] h1 h2;have ht:=vm (f:=fun a:At=>varsOf a.ts) aa;have dX:=BZ (f:=fun a:At=>varsOf a.ts) l (j+1);rw[ht,aq3]at dX;have hc:=nO (a:=q) (b:=varsOf l[j].ts) (by rw[hq,aq3];unfold eX at hlen⊢;omega);simp[SE.den,aa,hw,rB aa,af];refine⟨_,Qu,?_⟩;simp[hc, -ar1];refine⟨fun x a ha hx=>?_,.mk _ rfl (by omega) (by rw[hq,eX,eX,ht,aq4])⟩;simp[cellsOf]at hx;subst hx;rfl
 ·rw[aqT (by omega)]at hq;simp[SE.den,aa,gd];rw[hq];exact hk
theorem ao3(ls:List (List At))(hl:ls.length≤1000)(hn:∀l∈ls,Sm l∧∀a∈l,rZ a∧xQ a)(hlen:(dh ls).length≤1000000000):
 Kp.sat aqD CC (·=iL (dh ls)) [] [Qr ls]:=by
 simp only[Kp,nq,SE.den,asb,aqN,rA];refine⟨⟨_,rfl⟩,⟨_,rfl⟩,?_⟩;unfold Mh;refine ao ls.length (fun i (q:List Int)=>[iI i,iL q]) (fun i q=>q=dh (ls.take i)) [] ?_ (by simp[dh]) fun i q hi hq=>?_
 ·simp[SE.den]
 by_cases aa:i<ls.length
 ·obtain⟨h1,h2⟩:=hn _ (aqI aa);have ht:=vm (f:=eX) aa;have dX:=BZ (f:=eX) ls (i+1);rw[ht,aq3]at dX;simp[SE.den,aa,Zf aa, -ar1];refine ag2 ls[i] h1 h2 q i (by omega) (by rw[hq];unfold dh at hlen⊢;omega) ?_;exact .mk _ rfl (by omega) (by rw[hq,dh,dh,ht])
 ·rw[aqT (by omega)]at hq;simp[SE.den,aa];rw[hq];exact⟨fun x a ha hx=>by simp[cellsOf]at hx;subst hx;rfl,rfl⟩
theorem ag3(l:List At)(hl:Sm l)(hn:∀a∈l,rZ a∧xQ a){x0:IV}(i:Nat)(hi:i<1000)(hz:∀a∈l,varsOf a.ts=[])(hk:k0 [iI (i+1:Nat)]):
 Mi.sat aqD CC Q [k0] [x0,iI i,mP l]:=by
 have gd:=az hi (by omega);refine ao l.length (fun j (_:Unit)=>[iI j]) (fun _ _=>True) () ?_ trivial fun j _ hj _=>?_
 ·simp[SE.den]
 by_cases aa:j<l.length
 ·have hw:=az aa hl;obtain⟨h1,h2⟩:=hn _ (aqI aa);have Qu:=c46 false l[j] h1 h2;rw[hz _ (aqI aa)]at Qu;simp[SE.den,aa,hw,rB aa,af];refine⟨_,Qu,?_⟩;simp;exact⟨⟨.tree 1 [],by simp[mu,gC]⟩,.mk () rfl (by omega) trivial⟩
 ·simp[SE.den,aa,gd];exact hk
theorem z139(ls:List (List At))(hl:ls.length≤1000)(hn:∀l∈ls,Sm l∧∀a∈l,rZ a∧xQ a)(hz:dh ls=[]):
 Kq.sat aqD CC (·=iL []) [] [Qr ls]:=by
 simp only[Kq,nq,SE.den,asb,aqN,rA];refine⟨⟨_,rfl⟩,⟨_,rfl⟩,?_⟩;unfold Mj;refine ao ls.length (fun i (_:Unit)=>[iI i]) (fun _ _=>True) () ?_ trivial fun i _ hi _=>?_
 ·simp[SE.den]
 by_cases aa:i<ls.length
 ·obtain⟨h1,h2⟩:=hn _ (aqI aa);simp[SE.den,aa,Zf aa];refine ag3 ls[i] h1 h2 i (by omega) (fun a ha=>?_) (.mk () rfl (by omega) trivial);have:=asQ.1 hz _ (aq5.2 ⟨_,aqI aa,rfl⟩);exact asQ.1 this _ (aq5.2 ⟨a,ha,rfl⟩)
 ·simp[SE.den,aa]
theorem n139:(aqD.funcs[139]?).map (·.params.size)=some 1:=by kernel_rfl
theorem ag4:cF aqD 139=1:=by kernel_rfl
theorem f139(ls:List (List At))(hl:ls.length≤1000)(hn:∀l∈ls,Sm l∧∀a∈l,rZ a∧xQ a)(hlen:(dh ls).length≤1000000000):jF aqD (cF aqD 139) 139 [Qr ls] ((dh ls).map iI):=by
 have h1:=ag4;by_cases hp:dh ls=[]
 ·exact .nj (nm:=true) mixed vD agU n139 (by simpa using Qs ls) (by rw[h1];exact ui _) (FB _) (by simp) (by rw[h1,hp];exact z139 ls hl hn hp)
 ·exact .nj (nm:=false) mixed vD agT n139 (by simpa using Qs ls) (by rw[h1];exact ui _) (FB _) (fun _=>by simpa using hp) (by rw[h1];exact ao3 ls hl hn hlen)
theorem alu(new:Bool)(ls:List (List At))(hl:ls.length≤1000)(hn:∀l∈ls,Sm l∧∀a∈l,rZ a∧xQ a)(hlen:(dh ls).length≤1000000000):CC 1563 new [Qr ls] (iL (dh ls)):=by
 have h:=mR.fresh (new:=new) (kG n139) (f139 ls hl hn hlen);rw[dK,ag4]at h;unfold CC;rw[dK];exact h
theorem ag5(l:List Gl)(hl:Sm l)(hn:∀a∈l,r6 a∧vE a){x0:IV}(acc:List Int)(i:Nat)(hi:i<1000)(hlen:acc.length+(jV l).length≤1000000000)(hk:k0 [iI (i+1:Nat),iL (acc++jV l)]):
 Mk.sat aqD CC Q [k0] [x0,iI i,iL acc,qL l]:=by
 have gd:=az hi (by omega);refine ao l.length (fun j (q:List Int)=>[iI j,iL q]) (fun j q=>q=acc++jV (l.take j)) acc ?_ (by simp[jV]) fun j q hj hq=>?_
 ·simp[SE.den]
 by_cases aa:j<l.length
 ·have hw:=az aa hl;obtain⟨h1,h2⟩:=hn _ (aqI aa);have TI:=c87 false l[j] h1 h2;have ht:=vm (f:=fun a:Gl=>varsOf a.ts) aa;have dX:=BZ (f:=fun a:Gl=>varsOf a.ts) l (j+1);rw[ht,aq3]at dX;have hc:=nO (a:=q) (b:=varsOf l[j].ts) (by rw[hq,aq3];unfold jV at hlen⊢;omega);simp[SE.den,aa,hw,lT aa,af];refine⟨_,TI,?_⟩;simp[hc, -ar1];refine⟨fun x a ha hx=>?_,.mk _ rfl (by omega) (by rw[hq,jV,jV,ht,aq4])⟩;simp[cellsOf]at hx;subst hx;rfl
 ·rw[aqT (by omega)]at hq;simp[SE.den,aa,gd];rw[hq];exact hk
theorem ao4(ls:List (List Gl))(hl:ls.length≤1000)(hn:∀l∈ls,Sm l∧∀a∈l,r6 a∧vE a)(hlen:(cU ls).length≤1000000000):
 Kr.sat aqD CC (·=iL (cU ls)) [] [Mo ls]:=by
 simp only[Kr,nq,SE.den,asb,aqN,rA];refine⟨⟨_,rfl⟩,⟨_,rfl⟩,?_⟩;unfold Ml;refine ao ls.length (fun i (q:List Int)=>[iI i,iL q]) (fun i q=>q=cU (ls.take i)) [] ?_ (by simp[cU]) fun i q hi hq=>?_
 ·simp[SE.den]
 by_cases aa:i<ls.length
 ·obtain⟨h1,h2⟩:=hn _ (aqI aa);have ht:=vm (f:=jV) aa;have dX:=BZ (f:=jV) ls (i+1);rw[ht,aq3]at dX;simp[SE.den,aa,Zg aa, -ar1];refine ag5 ls[i] h1 h2 q i (by omega) (by rw[hq];unfold cU at hlen⊢;omega) ?_;exact .mk _ rfl (by omega) (by rw[hq,cU,cU,ht])
 ·rw[aqT (by omega)]at hq;simp[SE.den,aa];rw[hq];exact⟨fun x a ha hx=>by simp[cellsOf]at hx;subst hx;rfl,rfl⟩
theorem ag6(l:List Gl)(hl:Sm l)(hn:∀a∈l,r6 a∧vE a){x0:IV}(i:Nat)(hi:i<1000)(hz:∀a∈l,varsOf a.ts=[])(hk:k0 [iI (i+1:Nat)]):
 Mm.sat aqD CC Q [k0] [x0,iI i,qL l]:=by
 have gd:=az hi (by omega);refine ao l.length (fun j (_:Unit)=>[iI j]) (fun _ _=>True) () ?_ trivial fun j _ hj _=>?_
 ·simp[SE.den]
 by_cases aa:j<l.length
 ·have hw:=az aa hl;obtain⟨h1,h2⟩:=hn _ (aqI aa);have TI:=c87 false l[j] h1 h2;rw[hz _ (aqI aa)]at TI;simp[SE.den,aa,hw,lT aa,af];refine⟨_,TI,?_⟩;simp;exact⟨⟨.tree 1 [],by simp[mu,gC]⟩,.mk () rfl (by omega) trivial⟩
 ·simp[SE.den,aa,gd];exact hk
theorem ao5(ls:List (List Gl))(hl:ls.length≤1000)(hn:∀l∈ls,Sm l∧∀a∈l,r6 a∧vE a)(hz:cU ls=[]):
 Ks.sat aqD CC (·=iL []) [] [Mo ls]:=by
 simp only[Ks,nq,SE.den,asb,aqN,rA];refine⟨⟨_,rfl⟩,⟨_,rfl⟩,?_⟩;unfold Mn;refine ao ls.length (fun i (_:Unit)=>[iI i]) (fun _ _=>True) () ?_ trivial fun i _ hi _=>?_
 ·simp[SE.den]
 by_cases aa:i<ls.length
 ·obtain⟨h1,h2⟩:=hn _ (aqI aa);simp[SE.den,aa,Zg aa];refine ag6 ls[i] h1 h2 i (by omega) (fun a ha=>?_) (.mk () rfl (by omega) trivial);have:=asQ.1 hz _ (aq5.2 ⟨_,aqI aa,rfl⟩);exact asQ.1 this _ (aq5.2 ⟨a,ha,rfl⟩)
 ·simp[SE.den,aa]
theorem n140:(aqD.funcs[140]?).map (·.params.size)=some 1:=by kernel_rfl
theorem ag7:cF aqD 140=1:=by kernel_rfl
theorem f140(ls:List (List Gl))(hl:ls.length≤1000)(hn:∀l∈ls,Sm l∧∀a∈l,r6 a∧vE a)(hlen:(cU ls).length≤1000000000):jF aqD (cF aqD 140) 140 [Mo ls] ((cU ls).map iI):=by
 have h1:=ag7;by_cases hp:cU ls=[]
 ·exact .nj (nm:=true) mixed vD agW n140 (by simpa using Qt ls) (by rw[h1];exact ui _) (FB _) (by simp) (by rw[h1,hp];exact ao5 ls hl hn hp)
 ·exact .nj (nm:=false) mixed vD agV n140 (by simpa using Qt ls) (by rw[h1];exact ui _) (FB _) (fun _=>by simpa using hp) (by rw[h1];exact ao4 ls hl hn hlen)
theorem acP(new:Bool)(ls:List (List Gl))(hl:ls.length≤1000)(hn:∀l∈ls,Sm l∧∀a∈l,r6 a∧vE a)(hlen:(cU ls).length≤1000000000):CC 1564 new [Mo ls] (iL (cU ls)):=by
 have h:=mR.fresh (new:=new) (kG n140) (f140 ls hl hn hlen);rw[dK,ag7]at h;unfold CC;rw[dK];exact h
end
end Go.Proofs.YtggffkaadeagbaaGreat
namespace Go.Proofs.YtggffkaadeagbaaGreat
open Go Go.Ev
def ag8:List Nat:=[123,127,126,186,189,44,79,30,102,9,10,23,31,15,257,149,89,148,198,147,199,50,191,71,214,93,163,49,152,64,164,158,95,108,206,250,213,130,131,107,129,155,34,90,51,202,153,201,200,151,203,150,204,154,91,41,67,101,99,109,157,210,12,26,28,25,14,19,100,40,39,70,69,35,53,52,68,42,58,98,96,75,211,136,83,192,85,11,24,27,22,13,29,61,36,33,32,84,47,143,46,190,66,87,45,138,133,88,128,249,121,78,183,256,156]
def ag9:List Nat:=[48,118,216]
def ag_:List Nat:=[185,188,254]
def aha:List Nat:=[155,159,103,173000080,500139,500140,500097,600086]
def TJ:ab:=
 (ni 16 2 16 (tq 2 17 9 17 (dR 15) (yK 16 16 7 7 (uP 47 15 0 v_ (my 18 18 (iO 9 9) 5 14))) (dT 6 16)) (iO 7 7))
def TK:ab:=
 (ni 18 2 18 (tq 2 19 9 19 (dR 17) (yK 18 18 7 7 (uP 47 17 0 (l9 17) (qp 20 20 (iO 9 9) (oz 6 15 kZ)))) (dT 7 18)) (iO 7 7))
def TL:ab:=
 (ni 19 2 19 (tq 2 20 9 20 (i_ 18) (yK 19 19 7 7 (uP 47 18 1 (fB 18) (my 21 21 (iO 9 9) 7 17))) (dT 8 19)) (iO 7 7))
def TM:ab:=
 (ni 20 2 20 (tq 2 21 9 21 (i_ 19) (yK 20 20 7 7 (uP 47 19 1 (fB 19) (my 22 22 (iO 9 9) 8 18))) (dT 9 20)) (iO 7 7))
def TN:ab:=
 (aag (.var 21) cH (DC 3 24 (.len (.var 22)) (Ff (.var 22) (.var 24) (gZ 121 (yA 23 (tb (.var 22) 24)) (qp 25 25 (iO 17 17) (A5 24 (.next 11 (yA 23 (vY 24))))))) v8))
def TO:ab:=
 (s7 20 tj 3 vZ 20 (gi 3 21 143 (dR 21) (eZ 22 (yB (sV (gL 22)) (sV (gL 22)) 10 10 (dT 10 20)))) (gZ 1563 (jf (.tr 1 (oW 1 1 1 2))) (gZ 1564 (jf (oC 1 3)) (.aQ (.len (.var 22)) TN))))
def TP:ab:=
 (uO 19 fy 3 pL 19 (gi 3 20 143 (dR 20) (.nt (gL 21) (dT 9 19) (yB (E6 .eql (dR 20)) (E6 .eql (dR 20)) 10 10 (dT 9 19)))) 4 TO)
def TQ:ab:=
 (uO 18 tj 3 vZ 18 (pM (lM 3 19) (dR 19) (dI (fB 19) cj TM) (dT 8 18)) 3 TP)
def TR:ab:=
 (uO 17 fy 3 pL 17 (pM (lM 3 18) (dR 18) (dI (fB 18) cj TL) (dT 7 17)) 4 TQ)
def TS:ab:=
 (gE Dz 15 jA 2 yF 15 (mw 2 17 (l9 17) (yE TK)) (sZ 3 TR))
def Qv:ab:=
 (uO 14 ou 2 qW 14 (mw 2 15 v_ (yE TJ)) 2 TS)
def Qw:ab:=
 (ni 17 2 17 (tq 2 18 9 18 (dR 16) (yK 17 17 7 7 (uP 47 16 0 A9 (my 19 19 (iO 9 9) 5 15))) (dT 6 17)) (iO 7 7))
def Qx:ab:=
 (ni 19 2 19 (tq 2 20 9 20 (dR 18) (yK 19 19 7 7 (uP 47 18 0 (l9 18) (qp 21 21 (iO 9 9) (oz 6 16 kZ)))) (dT 7 19)) (iO 7 7))
def Qy:ab:=
 (ni 20 2 20 (tq 2 21 9 21 (i_ 19) (yK 20 20 7 7 (uP 47 19 1 (fB 19) (my 22 22 (iO 9 9) 7 18))) (dT 8 20)) (iO 7 7))
def Qz:ab:=
 (ni 21 2 21 (tq 2 22 9 22 (i_ 20) (yK 21 21 7 7 (uP 47 20 1 (fB 20) (my 23 23 (iO 9 9) 8 19))) (dT 9 21)) (iO 7 7))
def QA:ab:=
 (aag (.var 22) cH (DC 3 25 (.len (.var 23)) (Ff (.var 23) (.var 25) (gZ 121 (yA 24 (tb (.var 23) 25)) (qp 26 26 (iO 17 17) (A5 25 (.next 11 (yA 24 (vY 25))))))) v8))
def QB:ab:=
 (s7 21 tj 3 vZ 21 (gi 3 22 143 (dR 22) (eZ 23 (yB (sV (gL 23)) (sV (gL 23)) 10 10 (dT 10 21)))) (gZ 1563 (jf (.tr 1 (oW 1 1 1 2))) (gZ 1564 (jf (oC 1 3)) (.aQ (.len (.var 23)) QA))))
def QC:ab:=
 (uO 20 fy 3 pL 20 (gi 3 21 143 (dR 21) (.nt (gL 22) (dT 9 20) (yB (E6 .eql (dR 21)) (E6 .eql (dR 21)) 10 10 (dT 9 20)))) 4 QB)
def QD:ab:=
 (uO 19 tj 3 vZ 19 (pM (lM 3 20) (dR 20) (dI (fB 20) cj Qz) (dT 8 19)) 3 QC)
def QE:ab:=
 (uO 18 fy 3 pL 18 (pM (lM 3 19) (dR 19) (dI (fB 19) cj Qy) (dT 7 18)) 4 QD)
def QF:ab:=
 (gE Dz 16 jA 2 yF 16 (mw 2 18 (l9 18) (yE Qx)) (sZ 3 QE))
def QG:ab:=
 (uO 15 ou 2 qW 15 (mw 2 16 A9 (yE Qw)) 2 QF)
def QH:ab:=
 (JU cH (DC 3 12 (.len jz) (Ff jz (.var 12) (yB (DH .leq (tb jz 12) uC) (DH .leq (tb jz 12) uC) 2 2 (n_ .eql 3 (tb jz 12) uC (A5 13 (oz 4 12 (vY 13))) (AV 4 12 13)))) (yB (Ve (AX 5) uC) (Ve (AX 5) uC) 2 2 (tv 9 1 0 (sZ 1 Qv) (kB 83 A6 (qp 14 14 (iO 7 7) (sZ 1 QG)))))))
def QI:ab:=
 (gE Dz 7 tj 3 vZ 7 (gi 3 9 138 (vW 9 0 9 1 9 2) (qp 10 10 (iO 2 2) (oz 3 7 kZ))) (gZ 1563 (jf (.tr 1 (oW 1 1 1 2))) (gZ 1564 (jf (.tr 1 (oW 1 3 1 4))) (lP 1 8 9 iZ (.aQ (.len jz) QH)))))
def QJ:ab:=
 (uO 6 fy 3 pL 6 (gi 3 7 138 (vW 7 0 7 1 7 2) (my 8 8 (iO 2 2) 2 6)) 4 QI)
def QK:ab:=
 (gE Dz 4 jA 2 yF 4 (A8 2 6 45 6 6 (qp 7 7 (iO 2 2) (oz 1 4 kZ))) (sZ 3 QJ))
def QL:ab:=
 (uO 3 ou 2 qW 3 (A8 2 4 45 4 4 (my 5 5 (iO 2 2) 0 3)) 2 QK)
def acQ:ab:=
 (OE (lM 6 1) (gZ 1148 (JW 172) (dI ou jA (we (qS ou jA) .gtr (qS ou jA) (n_ .leq 3 (qS ou jA) (.i 4) (oa fy .leq fy 12 (sZ 4 (yB (q4 tj 12) (q4 tj 12) 6 6 (sZ 1 QL))) (iO 6 6)) (iO 6 6)) (iO 6 6)))))
def alv:bj:=⟨ag8,ag9,ag_,[⟨2,84008000,53,[(2,(203,0))],[(8,1)],[(2,0),(2,21),(2,180),(2,181),(2,182),(2,183),(2,184),(2,185),(2,186),(2,187),(2,188),(2,189),(2,190),(2,191),(2,192),(2,193),(2,194),(2,195),(2,196),(2,197),(2,198),(2,199),(2,200)],[(2,(22,2))]⟩,⟨2,84008000,47,[(2,(182,0))],[],[(2,19),(2,163),(2,164),(2,165),(2,166),(2,167),(2,168),(2,169),(2,170),(2,171),(2,172),(2,173),(2,174),(2,175),(2,176),(2,177),(2,178),(2,179)],[]⟩,⟨2,84008000,42,[(2,(165,0))],[],[(2,1),(2,15),(2,17),(2,135),(2,136),(2,137),(2,138),(2,139),(2,140),(2,141),(2,142),(2,143),(2,144),(2,145),(2,146),(2,147),(2,148),(2,149),(2,150),(2,151),(2,152),(2,153),(2,154),(2,155),(2,156),(2,157),(2,158),(2,159),(2,160),(2,161),(2,162)],[]⟩,⟨6,84008000162022010008,2,[(6,(8,0))],[],[],[]⟩,⟨3,84008000162,1,[(3,(8,0))],[],[],[]⟩,⟨6,84008000158022010008,2,[(6,(8,0))],[],[],[]⟩,⟨3,84008000158,1,[(3,(8,0))],[],[],[]⟩,⟨2,84008000,34,[(2,(142,0)),(2,(141,0))],[],[],[]⟩,⟨5,84008000152010008,2,[(5,(8,0))],[],[],[]⟩,⟨2,84008000,22,[(2,(11,0)),(2,(103,0))],[],[(2,8),(2,10),(2,74),(2,75),(2,76),(2,77),(2,78),(2,79),(2,80),(2,81),(2,82),(2,83),(2,84),(2,85),(2,86),(2,87),(2,88),(2,89),(2,90),(2,91),(2,92),(2,93),(2,94),(2,95),(2,96),(2,97),(2,98),(2,99),(2,100)],[]⟩,⟨2,84008000,15,[(2,(81,0)),(2,(80,0))],[],[(2,4),(2,6),(2,55),(2,56),(2,57),(2,58),(2,59),(2,60),(2,61),(2,62),(2,63),(2,64),(2,65),(2,66),(2,67),(2,68),(2,69),(2,70),(2,71),(2,72),(2,73)],[]⟩,⟨2,84008000,6,[(2,(62,0)),(2,(61,0))],[],[(2,2),(2,3),(2,5),(2,7),(2,25),(2,26),(2,27),(2,28),(2,29),(2,30),(2,31),(2,32),(2,33),(2,34),(2,35),(2,36),(2,37),(2,38),(2,39),(2,40),(2,41),(2,42),(2,43),(2,44),(2,45),(2,46),(2,47),(2,48),(2,49),(2,50),(2,51),(2,52),(2,53),(2,54)],[]⟩,⟨999999,0,0,[],[],[],[]⟩],aha⟩
theorem ao6:aI aqD alv 400 false 84=acQ:=by kernel_rfl
end Go.Proofs.YtggffkaadeagbaaGreat
