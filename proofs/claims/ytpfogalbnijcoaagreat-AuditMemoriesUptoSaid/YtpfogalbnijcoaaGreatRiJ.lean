/- A part of the proof, no condition: small functions of the checks of the program come to an end. -/
import Derived.Test.YtpfogalbnijcoaaGreatRhA
import Derived.Test.YtpfogalbnijcoaaGreatRiS
import Derived.Test.YtpfogalbnijcoaaGreatRjF
import Derived.Test.YtpfogalbnijcoaaGreatRhC
import Derived.Test.YtpfogalbnijcoaaGreatEvJ
import Derived.Test.YtpfogalbnijcoaaGreatRuA
import Derived.Test.YtpfogalbnijcoaaGreatEvP
open List renaming foldl_cons->asG,mem_flatten->auE,mem_map->asv,map_nil->auA,take_succ_eq_append_getElem->ase,take_of_length_le->asf,map_append->au8,flatten_append->ath,map_cons->asZ,flatten_cons->auz,length_append->ass,getElem_mem->ar5,length_flatten->atr,append_assoc->ast,getElem?_cons_zero->atC,flatten_eq_nil_iff->aui
open Go.Proofs.Tryz renaming prog->ar1
open Option renaming bind_some->asa
open Option renaming some->aa
open Bool renaming true->ab,false->af
set_option linter.all false
namespace Go.Proofs.YtpfogalbnijcoaaGreat
open Go Go.Ev
theorem afb(l:List Int)(x:Int):x∈Bp l↔x∈l:=by
 have key:∀(l acc:List Int),x∈(l.foldl (λacc x=>if x∈acc then acc else acc++[x]) acc)↔x∈acc\/x∈l:=by
  intro l;induction l with
  |nil=>simp
  |cons y l ih=>
   intro acc;rw[asG,ih];split
   ·rename_i h;constructor
    ·rintro(h1|h1)
     ·exact .inl h1
     ·exact .inr (by simp[h1])
    ·rintro(h1|h1)
     ·exact .inl h1
     ·rcases List.mem_cons.1 h1 with rfl|h1
      ·exact .inl h
      ·exact .inr h1
   ·simp[or_assoc]
 simpa[Bp]using key l []
theorem Z7(l:List Int):(Bp l).Nodup:=by
 have key:∀(l acc:List Int),acc.Nodup->(l.foldl (λacc x=>if x∈acc then acc else acc++[x]) acc).Nodup:=by
  intro l;induction l with
  |nil=>intro acc h;exact h
  |cons y l ih=>
   intro acc h;rw[asG];refine ih _ ?_;split
   ·exact h
   ·rename_i hy;rw[List.nodup_append];exact⟨h,by simp,λa ha b hb=>by simp at hb;subst hb;exactλhe=>hy (he▸ha)⟩
 exact key l [] (by simp)
theorem JG:∀(d:Nat) (t:Tm),SizeOf.sizeOf t<=d->dv t->∀x∈gd t,0<=x/\x<=1048576
 |0,.mk k n s ts,hd,_,_,_=>by simp at hd
 |d+1,.mk k n s ts,hd,h,x,hx=>by
  obtain⟨h1,h2⟩:=(zZ _).1 h;simp only[Tm.k,Tm.n,Tm.ts]at h1 h2;unfold gd at hx;split at hx
  ·simp at hx;subst hx;exact h1 ‹_›
  ·split at hx
   ·rw[CQ]at hx;obtain⟨l,hl,hx⟩:=auE.1 hx;obtain⟨u,hu,rfl⟩:=asv.1 hl;refine JG d u ?_ (h2 ‹_› u hu) x hx;have:=List.sizeOf_lt_of_mem hu;simp at hd;omega
   ·simp at hx
theorem Aa(t:Tm)(h:dv t):∀x∈gd t,0<=x/\x<=1048576:=JG _ t (Nat.le_refl _) h
theorem yQ{ts:List Tm}(hf:∀t∈ts,dv t):(varsOf ts).length<=1048577:=
 K5 1048577 _ (Z7 _) λx hx=>by
  rw[varsOf,afb]at hx;obtain⟨l,hl,hx⟩:=auE.1 hx;obtain⟨u,hu,rfl⟩:=asv.1 hl;have:=Aa u (hf u hu) x hx;omega
theorem t46(z:IV):aQ ar1 53 z=ab:=by kernel_rfl
theorem t87(z:IV):aQ ar1 108 z=ab:=by kernel_rfl
theorem t88(z:IV):aQ ar1 110 z=ab:=by kernel_rfl
def yR(a:At):Prop:=∀t∈a.ts,dv t
def wv(g:Gl):Prop:=∀t∈g.ts,dv t
theorem c46(new:Bool)(a:At)(h:sL a)(hf:yR a):CC 53 new [.agg [iS a.s,iT a.ts]] (iL (varsOf a.ts)):=
 CC.plain (by rw[dP];decide) (apQ new a.s h.2.1 h.2.2 hf) (Bi _) (t46 _)
theorem c87(new:Bool)(g:Gl)(h:sM g)(hf:wv g):CC 108 new [.agg [iI g.op,iS g.s,iT g.ts]] (iL (varsOf g.ts)):=
 CC.plain (by rw[dP];decide) (apR new g.op g.s h.2.1 h.2.2 hf) (Bi _) (t87 _)
theorem c88(new:Bool)(t:Tm)(h:og t)(hf:dv t):CC 110 new [dH t] (iL (varsOf [t])):=
 CC.plain (by rw[dP];decide) (apS new t h hf) (Bi _) (t88 _)
theorem adH(l:List Int)(n:Int)(hl:Sm l):CC 187 ab [iL l,iI n] (iB (l.contains n)):=by
 refine CC.of ahK n121 (t121 _) (by simp) (by simp) ?_;simp[Uf,SE.den];refine⟨_,ao9 l n hl,?_⟩;have:=Qe n l 0;simp at this⊢;simp[aA];exact this
theorem n47:(ar1.funcs[54]?).map (·.params.size)=aa 3:=by kernel_rfl
theorem t47(z:IV):aQ ar1 54 z=ab:=by kernel_rfl
theorem n143:(ar1.funcs[186]?).map (·.params.size)=aa 1:=by kernel_rfl
theorem t143(z:IV):aQ ar1 186 z=ab:=by kernel_rfl
theorem n96:(ar1.funcs[55]?).map (·.params.size)=aa 1:=by kernel_rfl
theorem t96(z:IV):aQ ar1 55 z=ab:=by kernel_rfl
theorem n85:(ar1.funcs[107]?).map (·.params.size)=aa 1:=by kernel_rfl
theorem t85(z:IV):aQ ar1 107 z=ab:=by kernel_rfl
theorem c85(r:Rl)(h:r.keep.length+r.remove.length<=1000):CC 107 af [gO r] (nf (r.keep++r.remove)):=by
 refine CC.of apT n85 (t85 _) (by simpa using fx r) (by simp) ?_;have h1:=F5 (a:=[]) (b:=r.keep) (by simp;omega);have h2:=F5 h;have hw:IntKind.i64.wrap ((r.keep.length:Int)+r.remove.length)=r.keep.length+r.remove.length:=dQ (by omega) (by omega);simp only[List.nil_append,auA]at h1;rw[jc];simp[adB,SE.den,aj,hw,lX];exact⟨by omega,_,h1,h2⟩
theorem n36:(ar1.funcs[25]?).map (·.params.size)=aa 3:=by kernel_rfl
theorem t36(z:IV):aQ ar1 25 z=ab:=by kernel_rfl
end Go.Proofs.YtpfogalbnijcoaaGreat
namespace Go.Proofs.YtpfogalbnijcoaaGreat
open Go Go.Ev
def Q2(l:List Int):List Int:=l.foldl t_ []
theorem JH(ks:List Int):sJ (ks.map mF):=by
 intro d hd;obtain⟨k,_,rfl⟩:=asv.1 hd;exact⟨.int .i64 k,.agg #[],rfl⟩
theorem n97:(ar1.funcs[56]?).map (·.params.size)=aa 1:=by kernel_rfl
theorem f97(l:List Int)(hl:Sm l):lQ ar1 56 [iL l] ((Q2 l).map mF):=by
 refine lQ.nN mixed wu ama n97 (by simp) (JH _) ?_;simp[Z3,QZ,SE.den,aj];refine aw l.length (λi (q:List Int)=>[iI i,iM q]) (λi q=>q=(l.take i).foldl t_ []) [] ?_ (by simp) λi q hi hq=>?_
 ·simp[SE.den]
 by_cases ai:i<l.length
 ·have hw:=aD ai hl;have r_:=F6 (ν:=[iM q,iI l[i]]) (m:=.var 0) (key:=.var 1) (ks:=q) (k:=l[i]) rfl rfl;simp[SE.den]at r_;simp only[iI]at r_;simp[SE.den,ai,hw,dI ai,aj];refine⟨_,r_,?_⟩;refine .mk _ rfl (by omega) ?_;rw[hq,ase ai,List.foldl_append];rfl
 ·simp[SE.den,ai];rw[hq,asf (by omega),Q2]
theorem n86:(ar1.funcs[57]?).map (·.params.size)=aa 2:=by kernel_rfl
theorem amg(new:Bool)(l:List Int)(hl:Sm l):CC 1941 new [iL l] (iM (Q2 l)):=by
 have h:=ni.agM (new:=new) (kT n97) (f97 l hl);rw[dP]at h;unfold CC;rw[dP];exact h
end Go.Proofs.YtpfogalbnijcoaaGreat
namespace Go.Proofs.YtpfogalbnijcoaaGreat
open Go Go.Ev
abbrev Q3(ls:List (List At)):IV:=.tree 1 (ls.map nf)
abbrev MX(ls:List (List Gl)):IV:=.tree 1 (ls.map rf)
def fa(l:List At):List Int:=(l.map λa=>varsOf a.ts).flatten
def ko(l:List Gl):List Int:=(l.map λa=>varsOf a.ts).flatten
def dr(ls:List (List At)):List Int:=(ls.map fa).flatten
def cX(ls:List (List Gl)):List Int:=(ls.map ko).flatten
theorem Z8{ls:List (List At)}{i:Nat}(h:i<ls.length):dD 1 (Q3 ls) (iI (i:Nat))=aa (nf ls[i]):=gj (by simp[h]) rfl
theorem Z9{ls:List (List Gl)}{i:Nat}(h:i<ls.length):dD 1 (MX ls) (iI (i:Nat))=aa (rf ls[i]):=gj (by simp[h]) rfl
theorem Q4(ls:List (List At)):Pure (Q3 ls):=by
 refine .tree 1 _ λe he c hc=>?_;obtain⟨x,_,rfl⟩:=asv.1 he;simp[cellsOf]at hc;subst hc;exact abT x
theorem Q5(ls:List (List Gl)):Pure (MX ls):=by
 refine .tree 1 _ λe he c hc=>?_;obtain⟨x,_,rfl⟩:=asv.1 he;simp[cellsOf]at hc;subst hc;exact ab3 x
theorem wa{α:Type}{f:α->List Int}{l:List α}{i:Nat}(h:i<l.length):((l.take (i+1)).map f).flatten=((l.take i).map f).flatten++f l[i]:=by
 rw[ase h,au8,ath];simp only[asZ,auA,auz,List.flatten_nil,List.append_nil]
theorem CS{α:Type}{f:α->List Int}{n:Nat}:∀{l:List α},(∀a∈l,(f a).length<=n)->((l.map f).flatten).length<=l.length*n
 |[],_=>by simp
 |a::l,h=>by
  have:=CS (f:=f) (l:=l) λa ha=>h a (by simp[ha]);have h1:=h a (by simp);rw[asZ,auz,ass,List.length_cons,Nat.add_mul];omega
theorem CT{α:Type}{f:α->List Int}(l:List α)(i:Nat):((l.take i).map f).flatten.length<=(l.map f).flatten.length:=by
 conv=>rhs;rw[<-List.take_append_drop i l,au8,ath,ass]
 omega
theorem uT(l:List Int):∀e∈l.map iI,(cellsOf e).length=1:=λe he=>by obtain⟨x,_,rfl⟩:=asv.1 he;rfl
theorem Ge(l:List Int):∀c∈flat (l.map iI),(∃v,c=.raw v)/\aj c=ab:=λc hc=>by
 unfold flat at hc;obtain⟨e,he,hc⟩:=List.mem_flatMap.1 hc;obtain⟨x,_,rfl⟩:=asv.1 he;simp[cellsOf]at hc;subst hc;exact⟨⟨_,rfl⟩,rfl⟩
section
variable{k0:List IV->Prop}{Q:IV->Prop}
theorem ahV(l:List At)(hl:Sm l)(hn:∀a∈l,sL a/\yR a){x0:IV}(acc:List Int)(i:Nat)(hi:i<1000)(hlen:acc.length+(fa l).length<=1000000000)(hk:k0 [iI (i+1:Nat),iL (acc++fa l)]):
 MP.sat ar1 CC Q [k0] [x0,iI i,iL acc,nf l]:=by
 have fS:=aD hi (by omega);refine aw l.length (λj (q:List Int)=>[iI j,iL q]) (λj q=>q=acc++fa (l.take j)) acc ?_ (by simp[fa]) λj q hj hq=>?_
 ·simp[SE.den]
 by_cases ai:j<l.length
 ·have hw:=aD ai hl;obtain⟨h1,h2⟩:=hn _ (ar5 ai);have Q6:=c46 af l[j] h1 h2;have ht:=wa (f:=λa:At=>varsOf a.ts) ai;have dY:=CT (f:=λa:At=>varsOf a.ts) l (j+1);rw[ht,ass]at dY;have hc:=oh (a:=q) (b:=varsOf l[j].ts) (by rw[hq,ass];unfold fa at hlen⊢;omega);simp[SE.den,ai,hw,r9 ai,aj];refine⟨_,Q6,?_⟩;simp[hc, -atr];refine⟨λx a ha hx=>?_,.mk _ rfl (by omega) (by rw[hq,fa,fa,ht,ast])⟩;simp[cellsOf]at hx;subst hx;rfl
 ·rw[asf (by omega)]at hq;simp[SE.den,ai,fS];rw[hq];exact hk
theorem ap3(ls:List (List At))(hl:ls.length<=1000)(hn:∀l∈ls,Sm l/\∀a∈l,sL a/\yR a)(hlen:(dr ls).length<=1000000000):
 K6.sat ar1 CC (·=iL (dr ls)) [] [Q3 ls]:=by
 simp only[K6,nP,SE.den,atC,asa,r8];refine⟨⟨_,rfl⟩,⟨_,rfl⟩,?_⟩;unfold MQ;refine aw ls.length (λi (q:List Int)=>[iI i,iL q]) (λi q=>q=dr (ls.take i)) [] ?_ (by simp[dr]) λi q hi hq=>?_
 ·simp[SE.den]
 by_cases ai:i<ls.length
 ·obtain⟨h1,h2⟩:=hn _ (ar5 ai);have ht:=wa (f:=fa) ai;have dY:=CT (f:=fa) ls (i+1);rw[ht,ass]at dY;simp[SE.den,ai,Z8 ai, -atr];refine ahV ls[i] h1 h2 q i (by omega) (by rw[hq];unfold dr at hlen⊢;omega) ?_;exact .mk _ rfl (by omega) (by rw[hq,dr,dr,ht])
 ·rw[asf (by omega)]at hq;simp[SE.den,ai];rw[hq];exact⟨λx a ha hx=>by simp[cellsOf]at hx;subst hx;rfl,rfl⟩
theorem ahW(l:List At)(hl:Sm l)(hn:∀a∈l,sL a/\yR a){x0:IV}(i:Nat)(hi:i<1000)(hz:∀a∈l,varsOf a.ts=[])(hk:k0 [iI (i+1:Nat)]):
 MR.sat ar1 CC Q [k0] [x0,iI i,nf l]:=by
 have fS:=aD hi (by omega);refine aw l.length (λj (_:Unit)=>[iI j]) (λ_ _=>True) () ?_ trivial λj _ hj _=>?_
 ·simp[SE.den]
 by_cases ai:j<l.length
 ·have hw:=aD ai hl;obtain⟨h1,h2⟩:=hn _ (ar5 ai);have Q6:=c46 af l[j] h1 h2;rw[hz _ (ar5 ai)]at Q6;simp[SE.den,ai,hw,r9 ai,aj];refine⟨_,Q6,?_⟩;simp;exact⟨⟨.tree 1 [],by simp[kP,gh]⟩,.mk () rfl (by omega) trivial⟩
 ·simp[SE.den,ai,fS];exact hk
theorem z139(ls:List (List At))(hl:ls.length<=1000)(hn:∀l∈ls,Sm l/\∀a∈l,sL a/\yR a)(hz:dr ls=[]):
 K7.sat ar1 CC (·=iL []) [] [Q3 ls]:=by
 simp only[K7,nP,SE.den,atC,asa,r8];refine⟨⟨_,rfl⟩,⟨_,rfl⟩,?_⟩;unfold MS;refine aw ls.length (λi (_:Unit)=>[iI i]) (λ_ _=>True) () ?_ trivial λi _ hi _=>?_
 ·simp[SE.den]
 by_cases ai:i<ls.length
 ·obtain⟨h1,h2⟩:=hn _ (ar5 ai);simp[SE.den,ai,Z8 ai];refine ahW ls[i] h1 h2 i (by omega) (λa ha=>?_) (.mk () rfl (by omega) trivial);have:=aui.1 hz _ (asv.2 ⟨_,ar5 ai,rfl⟩);exact aui.1 this _ (asv.2 ⟨a,ha,rfl⟩)
 ·simp[SE.den,ai]
theorem n139:(ar1.funcs[182]?).map (·.params.size)=aa 1:=by kernel_rfl
theorem ahX:cK ar1 182=1:=by kernel_rfl
theorem f139(ls:List (List At))(hl:ls.length<=1000)(hn:∀l∈ls,Sm l/\∀a∈l,sL a/\yR a)(hlen:(dr ls).length<=1000000000):jR ar1 (cK ar1 182) 182 [Q3 ls] ((dr ls).map iI):=by
 have h1:=ahX;by_cases hp:dr ls=[]
 ·exact .nN (nm:=ab) mixed wu ahN n139 (by simpa using Q4 ls) (by rw[h1];exact uT _) (Ge _) (by simp) (by rw[h1,hp];exact z139 ls hl hn hp)
 ·exact .nN (nm:=af) mixed wu ahM n139 (by simpa using Q4 ls) (by rw[h1];exact uT _) (Ge _) (λ_=>by simpa using hp) (by rw[h1];exact ap3 ls hl hn hlen)
theorem amh(new:Bool)(ls:List (List At))(hl:ls.length<=1000)(hn:∀l∈ls,Sm l/\∀a∈l,sL a/\yR a)(hlen:(dr ls).length<=1000000000):CC 1690 new [Q3 ls] (iL (dr ls)):=by
 have h:=ni.fresh (new:=new) (kT n139) (f139 ls hl hn hlen);rw[dP,ahX]at h;unfold CC;rw[dP];exact h
theorem ahY(l:List Gl)(hl:Sm l)(hn:∀a∈l,sM a/\wv a){x0:IV}(acc:List Int)(i:Nat)(hi:i<1000)(hlen:acc.length+(ko l).length<=1000000000)(hk:k0 [iI (i+1:Nat),iL (acc++ko l)]):
 MT.sat ar1 CC Q [k0] [x0,iI i,iL acc,rf l]:=by
 have fS:=aD hi (by omega);refine aw l.length (λj (q:List Int)=>[iI j,iL q]) (λj q=>q=acc++ko (l.take j)) acc ?_ (by simp[ko]) λj q hj hq=>?_
 ·simp[SE.den]
 by_cases ai:j<l.length
 ·have hw:=aD ai hl;obtain⟨h1,h2⟩:=hn _ (ar5 ai);have Uq:=c87 af l[j] h1 h2;have ht:=wa (f:=λa:Gl=>varsOf a.ts) ai;have dY:=CT (f:=λa:Gl=>varsOf a.ts) l (j+1);rw[ht,ass]at dY;have hc:=oh (a:=q) (b:=varsOf l[j].ts) (by rw[hq,ass];unfold ko at hlen⊢;omega);simp[SE.den,ai,hw,kU ai,aj];refine⟨_,Uq,?_⟩;simp[hc, -atr];refine⟨λx a ha hx=>?_,.mk _ rfl (by omega) (by rw[hq,ko,ko,ht,ast])⟩;simp[cellsOf]at hx;subst hx;rfl
 ·rw[asf (by omega)]at hq;simp[SE.den,ai,fS];rw[hq];exact hk
theorem ap4(ls:List (List Gl))(hl:ls.length<=1000)(hn:∀l∈ls,Sm l/\∀a∈l,sM a/\wv a)(hlen:(cX ls).length<=1000000000):
 K8.sat ar1 CC (·=iL (cX ls)) [] [MX ls]:=by
 simp only[K8,nP,SE.den,atC,asa,r8];refine⟨⟨_,rfl⟩,⟨_,rfl⟩,?_⟩;unfold MU;refine aw ls.length (λi (q:List Int)=>[iI i,iL q]) (λi q=>q=cX (ls.take i)) [] ?_ (by simp[cX]) λi q hi hq=>?_
 ·simp[SE.den]
 by_cases ai:i<ls.length
 ·obtain⟨h1,h2⟩:=hn _ (ar5 ai);have ht:=wa (f:=ko) ai;have dY:=CT (f:=ko) ls (i+1);rw[ht,ass]at dY;simp[SE.den,ai,Z9 ai, -atr];refine ahY ls[i] h1 h2 q i (by omega) (by rw[hq];unfold cX at hlen⊢;omega) ?_;exact .mk _ rfl (by omega) (by rw[hq,cX,cX,ht])
 ·rw[asf (by omega)]at hq;simp[SE.den,ai];rw[hq];exact⟨λx a ha hx=>by simp[cellsOf]at hx;subst hx;rfl,rfl⟩
theorem ahZ(l:List Gl)(hl:Sm l)(hn:∀a∈l,sM a/\wv a){x0:IV}(i:Nat)(hi:i<1000)(hz:∀a∈l,varsOf a.ts=[])(hk:k0 [iI (i+1:Nat)]):
 MV.sat ar1 CC Q [k0] [x0,iI i,rf l]:=by
 have fS:=aD hi (by omega);refine aw l.length (λj (_:Unit)=>[iI j]) (λ_ _=>True) () ?_ trivial λj _ hj _=>?_
 ·simp[SE.den]
 by_cases ai:j<l.length
 ·have hw:=aD ai hl;obtain⟨h1,h2⟩:=hn _ (ar5 ai);have Uq:=c87 af l[j] h1 h2;rw[hz _ (ar5 ai)]at Uq;simp[SE.den,ai,hw,kU ai,aj];refine⟨_,Uq,?_⟩;simp;exact⟨⟨.tree 1 [],by simp[kP,gh]⟩,.mk () rfl (by omega) trivial⟩
 ·simp[SE.den,ai,fS];exact hk
theorem ap5(ls:List (List Gl))(hl:ls.length<=1000)(hn:∀l∈ls,Sm l/\∀a∈l,sM a/\wv a)(hz:cX ls=[]):
 K9.sat ar1 CC (·=iL []) [] [MX ls]:=by
 simp only[K9,nP,SE.den,atC,asa,r8];refine⟨⟨_,rfl⟩,⟨_,rfl⟩,?_⟩;unfold MW;refine aw ls.length (λi (_:Unit)=>[iI i]) (λ_ _=>True) () ?_ trivial λi _ hi _=>?_
 ·simp[SE.den]
 by_cases ai:i<ls.length
 ·obtain⟨h1,h2⟩:=hn _ (ar5 ai);simp[SE.den,ai,Z9 ai];refine ahZ ls[i] h1 h2 i (by omega) (λa ha=>?_) (.mk () rfl (by omega) trivial);have:=aui.1 hz _ (asv.2 ⟨_,ar5 ai,rfl⟩);exact aui.1 this _ (asv.2 ⟨a,ha,rfl⟩)
 ·simp[SE.den,ai]
theorem n140:(ar1.funcs[183]?).map (·.params.size)=aa 1:=by kernel_rfl
theorem ah0:cK ar1 183=1:=by kernel_rfl
theorem f140(ls:List (List Gl))(hl:ls.length<=1000)(hn:∀l∈ls,Sm l/\∀a∈l,sM a/\wv a)(hlen:(cX ls).length<=1000000000):jR ar1 (cK ar1 183) 183 [MX ls] ((cX ls).map iI):=by
 have h1:=ah0;by_cases hp:cX ls=[]
 ·exact .nN (nm:=ab) mixed wu ahP n140 (by simpa using Q5 ls) (by rw[h1];exact uT _) (Ge _) (by simp) (by rw[h1,hp];exact ap5 ls hl hn hp)
 ·exact .nN (nm:=af) mixed wu ahO n140 (by simpa using Q5 ls) (by rw[h1];exact uT _) (Ge _) (λ_=>by simpa using hp) (by rw[h1];exact ap4 ls hl hn hlen)
theorem adI(new:Bool)(ls:List (List Gl))(hl:ls.length<=1000)(hn:∀l∈ls,Sm l/\∀a∈l,sM a/\wv a)(hlen:(cX ls).length<=1000000000):CC 1691 new [MX ls] (iL (cX ls)):=by
 have h:=ni.fresh (new:=new) (kT n140) (f140 ls hl hn hlen);rw[dP,ah0]at h;unfold CC;rw[dP];exact h
end
end Go.Proofs.YtpfogalbnijcoaaGreat
namespace Go.Proofs.YtpfogalbnijcoaaGreat
open Go Go.Ev
def ah1:List Nat:=[209,280,208,250,295,22,23,8,49,4,9,272,199,118,198,240,197,241,62,249,122,206,61,202,101,123,125,177,248,124,205,59,119,63,244,203,243,242,201,245,200,246,204,120,36,68,64,126,207,33,17,66,35,34,60,65,37,58,55,235,180,105,230,107,24,10,25,51,50,106,54,186,53,256,257,108,52,134,227,110,281,279,187,29,234,260,117]
def ah2:List Nat:=[277]
def ah3:List Nat:=[238]
def ah4:List Nat:=[205,189,111,224000102,500182,500183,500056,600057]
def Ur:ak:=
 (nM 16 2 16 (qd 2 17 9 17 (fe 15) (zL 16 16 7 7 (vq 54 15 0 zG (lP 18 18 (gp 9 9) 5 14))) 6 3 16 1) (gp 7 7))
def Us:ak:=
 (nM 18 2 18 (qd 2 19 9 19 (fe 17) (zL 18 18 7 7 (vq 54 17 0 (nK 17) (pB (gC 20) (tH 20) (gp 9 9) 6 3 15 1 FO))) 7 3 18 1) (gp 7 7))
def Ut:ak:=
 (nM 19 2 19 (qd 2 20 9 20 (jI 18) (zL 19 19 7 7 (vq 54 18 1 (gM 18) (lP 21 21 (gp 9 9) 7 17))) 8 3 19 1) (gp 7 7))
def Uu:ak:=
 (nM 20 2 20 (qd 2 21 9 21 (jI 19) (zL 20 20 7 7 (vq 54 19 1 (gM 19) (lP 22 22 (gp 9 9) 8 18))) 9 3 20 1) (gp 7 7))
def Uv:ak:=
 (aa6 (.var 21) dg (Ks 24 (.len BZ) (FQ BZ (.var 24) (oM 187 BY (tN BZ 24) (Aq 25 25 (gp 17 17) (u_ 24 (.next 11 (BR BY (rz 24))))))) ru))
def Uw:ak:=
 (vn 20 tS 3 4 20 3 21 (qM 186 (fe 21) 22 (nH (tH 22) (nE (tH 22)) (gp 10 10) 10 3 20 1)) (xf 1690 (.tr 1 (tJ 1 1 1 2)) (xf 1691 (oV 1 3) (.bj (.len BZ) Uv))))
def Ux:ak:=
 (vn 19 iJ 3 3 19 3 20 (oR 186 (fe 20) (gC 21) (kg 9 19) (nH (vo 20 0 1) (nE (vo 20 0 1)) (gp 10 10) 9 3 19 1)) (fE 4 Uw))
def Uy:ak:=
 (yv 18 tS 3 (rM 1) 18 (u5 3 19 (vo 19 0 0) (fK (gM 19) cb Uu) 8 3 18 1) (fE 3 Ux))
def Uz:ak:=
 (yv 17 iJ 3 zH 17 (u5 3 18 (vo 18 0 0) (fK (gM 18) cb Ut) 7 3 17 1) (fE 4 Uy))
def UA:ak:=
 (lN Ej 15 gq 2 wW 15 (jW 2 17 (nK 17) (zC Us)) (fE 3 Uz))
def Q7:ak:=
 (yv 14 k_ 2 wV 14 (jW 2 15 zG (zC Ur)) (fE 2 UA))
def Q8:ak:=
 (nM 17 2 17 (qd 2 18 9 18 (fe 16) (zL 17 17 7 7 (vq 54 16 0 FN (lP 19 19 (gp 9 9) 5 15))) 6 3 17 1) (gp 7 7))
def Q_:ak:=
 (nM 19 2 19 (qd 2 20 9 20 (fe 18) (zL 19 19 7 7 (vq 54 18 0 (nK 18) (pB (gC 21) (tH 21) (gp 9 9) 6 3 16 1 FO))) 7 3 19 1) (gp 7 7))
def Ra:ak:=
 (nM 20 2 20 (qd 2 21 9 21 (jI 19) (zL 20 20 7 7 (vq 54 19 1 (gM 19) (lP 22 22 (gp 9 9) 7 18))) 8 3 20 1) (gp 7 7))
def Rb:ak:=
 (nM 21 2 21 (qd 2 22 9 22 (jI 20) (zL 21 21 7 7 (vq 54 20 1 (gM 20) (lP 23 23 (gp 9 9) 8 19))) 9 3 21 1) (gp 7 7))
def Rc:ak:=
 (aa6 BZ dg (Ks 25 (.len BY) (FQ BY (.var 25) (oM 187 (.var 24) (tN BY 25) (Aq 26 26 (gp 17 17) (u_ 25 (.next 11 (BR (.var 24) (rz 25))))))) ru))
def Re:ak:=
 (vn 21 tS 3 4 21 3 22 (qM 186 (fe 22) 23 (nH (tH 23) (nE (tH 23)) (gp 10 10) 10 3 21 1)) (xf 1690 (.tr 1 (tJ 1 1 1 2)) (xf 1691 (oV 1 3) (.bj (.len BY) Rc))))
def Rf:ak:=
 (vn 20 iJ 3 3 20 3 21 (oR 186 (fe 21) (gC 22) (kg 9 20) (nH (vo 21 0 1) (nE (vo 21 0 1)) (gp 10 10) 9 3 20 1)) (fE 4 Re))
def Rg:ak:=
 (yv 19 tS 3 (rM 1) 19 (u5 3 20 (vo 20 0 0) (fK (gM 20) cb Rb) 8 3 19 1) (fE 3 Rf))
def Rh:ak:=
 (yv 18 iJ 3 zH 18 (u5 3 19 (vo 19 0 0) (fK (gM 19) cb Ra) 7 3 18 1) (fE 4 Rg))
def Ri:ak:=
 (lN Ej 16 gq 2 wW 16 (jW 2 18 (nK 18) (zC Q_)) (fE 3 Rh))
def Rj:ak:=
 (yv 15 k_ 2 wV 15 (jW 2 16 FN (zC Q8)) (fE 2 Ri))
def Rk:ak:=
 (tR dg 12 (.len jK) (FQ jK (.var 12) (NH (wR .leq (tN jK 12) ve) (wR .leq (tN jK 12) ve) 2 2 (Hu 3 (tN jK 12) ve (u_ 13 (wY 4 12 (rz 13))) (wQ 4 12 13)))) (NH (lO (vU 1 5) ve) (lO (vU 1 5) ve) 2 2 (NK Cc (fE 1 Q7) (ja 105 Cc (Aq 14 14 (gp 7 7) (fE 1 Rj))))))
def Rm:ak:=
 (tR Ej 7 tS (lh 3 4 7 3 9 (ja 134 (pA 9 0 9 1 (qN 9 2)) (pB zN (tH 10) (gp 2 2) 3 3 7 1 FO))) (xf 1690 (.tr 1 (tJ 1 1 1 2)) (xf 1691 (.tr 1 (tJ 1 3 1 4)) (l5 1 8 9 jj (.bj (.len jK) Rk)))))
def Rn:ak:=
 (vn 6 iJ 3 3 6 3 7 (qb 134 (pA 7 0 7 1 (qN 7 2)) 8 8 (gp 2 2) 2 6) (fE 4 Rm))
def Ro:ak:=
 (tR Ej 4 gq (lh 2 2 4 2 6 (mA 52 6 0 6 1 (pB xi (tH 7) (gp 2 2) 1 3 4 1 FO))) (fE 3 Rn))
def Rp:ak:=
 (vn 3 k_ 2 1 3 2 4 (mA 52 4 0 4 1 (lP 5 5 (gp 2 2) 0 3)) (fE 2 Ro))
def adJ:ak:=
 (Pj (jt 6 1) (xf 1233 (.i 223) (fK k_ gq (rK (mz k_ gq) (mz k_ gq) 0 (.nt (tV (mz k_ gq) 4) (tG iJ .leq iJ 12 (fE 4 (NH (tV tS 12) (tV tS 12) 6 6 (fE 1 Rp))) (gp 6 6)) (gp 6 6)) (gp 6 6)))))
def ami:bg:=⟨ah1,ah2,ah3,[⟨2,106008000,53,[(2,(203,0))],[(8,1)],[(2,0),(2,21),(2,180),(2,181),(2,182),(2,183),(2,184),(2,185),(2,186),(2,187),(2,188),(2,189),(2,190),(2,191),(2,192),(2,193),(2,194),(2,195),(2,196),(2,197),(2,198),(2,199),(2,200)],[(2,(22,2))]⟩,⟨2,106008000,47,[(2,(182,0))],[],[(2,19),(2,163),(2,164),(2,165),(2,166),(2,167),(2,168),(2,169),(2,170),(2,171),(2,172),(2,173),(2,174),(2,175),(2,176),(2,177),(2,178),(2,179)],[]⟩,⟨2,106008000,42,[(2,(165,0))],[],[(2,1),(2,15),(2,17),(2,135),(2,136),(2,137),(2,138),(2,139),(2,140),(2,141),(2,142),(2,143),(2,144),(2,145),(2,146),(2,147),(2,148),(2,149),(2,150),(2,151),(2,152),(2,153),(2,154),(2,155),(2,156),(2,157),(2,158),(2,159),(2,160),(2,161),(2,162)],[]⟩,⟨6,106008000162022010008,2,[(6,(8,0))],[],[],[]⟩,⟨3,106008000162,1,[(3,(8,0))],[],[],[]⟩,⟨6,106008000158022010008,2,[(6,(8,0))],[],[],[]⟩,⟨3,106008000158,1,[(3,(8,0))],[],[],[]⟩,⟨2,106008000,34,[(2,(142,0)),(2,(141,0))],[],[],[]⟩,⟨5,106008000152010008,2,[(5,(8,0))],[],[],[]⟩,⟨2,106008000,22,[(2,(11,0)),(2,(103,0))],[],[(2,8),(2,10),(2,74),(2,75),(2,76),(2,77),(2,78),(2,79),(2,80),(2,81),(2,82),(2,83),(2,84),(2,85),(2,86),(2,87),(2,88),(2,89),(2,90),(2,91),(2,92),(2,93),(2,94),(2,95),(2,96),(2,97),(2,98),(2,99),(2,100)],[]⟩,⟨2,106008000,15,[(2,(81,0)),(2,(80,0))],[],[(2,4),(2,6),(2,55),(2,56),(2,57),(2,58),(2,59),(2,60),(2,61),(2,62),(2,63),(2,64),(2,65),(2,66),(2,67),(2,68),(2,69),(2,70),(2,71),(2,72),(2,73)],[]⟩,⟨2,106008000,6,[(2,(62,0)),(2,(61,0))],[],[(2,2),(2,3),(2,5),(2,7),(2,25),(2,26),(2,27),(2,28),(2,29),(2,30),(2,31),(2,32),(2,33),(2,34),(2,35),(2,36),(2,37),(2,38),(2,39),(2,40),(2,41),(2,42),(2,43),(2,44),(2,45),(2,46),(2,47),(2,48),(2,49),(2,50),(2,51),(2,52),(2,53),(2,54)],[]⟩,⟨999999,0,0,[],[],[],[]⟩],ah4⟩
theorem ap6:aK ar1 ami 400 af 106=adJ:=by kernel_rfl
end Go.Proofs.YtpfogalbnijcoaaGreat
