/- A part of the proof, no condition: small functions of the checks of the program come to an end. -/
import Derived.Test.YtggffkaadeagbaaGreatRhA
import Derived.Test.YtggffkaadeagbaaGreatRiS
import Derived.Test.YtggffkaadeagbaaGreatRjF
import Derived.Test.YtggffkaadeagbaaGreatRhC
import Derived.Test.YtggffkaadeagbaaGreatEvJ
import Derived.Test.YtggffkaadeagbaaGreatRuA
import Derived.Test.YtggffkaadeagbaaGreatEvP
open List renaming foldl_cons->att,mem_flatten->avl,mem_map->ath,map_nil->aun,take_succ_eq_append_getElem->asX,take_of_length_le->as0,map_append->avR,flatten_append->at1,map_cons->atJ,flatten_cons->avh,length_append->atc,getElem_mem->asO,length_flatten->aud,append_assoc->atf,getElem?_cons_zero->auo,flatten_eq_nil_iff->au2
open Go.Proofs.Tryz renaming prog->asK
open Option renaming bind_some->asU
open Option renaming some->aa
open Bool renaming true->ab,false->af
set_option linter.all false
namespace Go.Proofs.YtggffkaadeagbaaGreat
open Go Go.Ev
theorem afV(l:List Int)(x:Int):x∈Bv l↔x∈l:=by
 have key:∀(l acc:List Int),x∈(l.foldl (λacc x=>if x∈acc then acc else acc++[x]) acc)↔x∈acc\/x∈l:=by
  intro l;induction l with
  |nil=>simp
  |cons y l ih=>
   intro acc;rw[att,ih];split
   ·rename_i h;constructor
    ·rintro(h1|h1)
     ·exact .inl h1
     ·exact .inr (by simp[h1])
    ·rintro(h1|h1)
     ·exact .inl h1
     ·rcases List.mem_cons.1 h1 with rfl|h1
      ·exact .inl h
      ·exact .inr h1
   ·simp[or_assoc]
 simpa[Bv]using key l []
theorem aaV(l:List Int):(Bv l).Nodup:=by
 have key:∀(l acc:List Int),acc.Nodup->(l.foldl (λacc x=>if x∈acc then acc else acc++[x]) acc).Nodup:=by
  intro l;induction l with
  |nil=>intro acc h;exact h
  |cons y l ih=>
   intro acc h;rw[att];refine ih _ ?_;split
   ·exact h
   ·rename_i hy;rw[List.nodup_append];exact⟨h,by simp,λa ha b hb=>by simp at hb;subst hb;exactλhe=>hy (he▸ha)⟩
 exact key l [] (by simp)
theorem J9:∀(d:Nat) (t:Tm),SizeOf.sizeOf t<=d->dE t->∀x∈gq t,0<=x/\x<=1048576
 |0,.mk k n s ts,hd,_,_,_=>by simp at hd
 |d+1,.mk k n s ts,hd,h,x,hx=>by
  obtain⟨h1,h2⟩:=(Ab _).1 h;simp only[Tm.k,Tm.n,Tm.ts]at h1 h2;unfold gq at hx;split at hx
  ·simp at hx;subst hx;exact h1 ‹_›
  ·split at hx
   ·rw[Da]at hx;obtain⟨l,hl,hx⟩:=avl.1 hx;obtain⟨u,hu,rfl⟩:=ath.1 hl;refine J9 d u ?_ (h2 ‹_› u hu) x hx;have:=List.sizeOf_lt_of_mem hu;simp at hd;omega
   ·simp at hx
theorem Af(t:Tm)(h:dE t):∀x∈gq t,0<=x/\x<=1048576:=J9 _ t (Nat.le_refl _) h
theorem yY{ts:List Tm}(hf:∀t∈ts,dE t):(varsOf ts).length<=1048577:=
 LH 1048577 _ (aaV _) λx hx=>by
  rw[varsOf,afV]at hx;obtain⟨l,hl,hx⟩:=avl.1 hx;obtain⟨u,hu,rfl⟩:=ath.1 hl;have:=Af u (hf u hu) x hx;omega
theorem t46(z:IV):aO asK 46 z=ab:=by kernel_rfl
theorem t87(z:IV):aO asK 87 z=ab:=by kernel_rfl
theorem t88(z:IV):aO asK 88 z=ab:=by kernel_rfl
def wN(a:At):Prop:=∀t∈a.ts,dE t
def wO(g:Gl):Prop:=∀t∈g.ts,dE t
theorem US(new:Bool)(a:At)(h:nz a)(hf:wN a):CC 46 new [.agg [iS a.s,iT a.ts]] (iL (varsOf a.ts)):=
 CC.plain (by rw[dW];decide) (aqT new a.s h.2.1 h.2.2 hf) (Bp _) (t46 _)
theorem c87(new:Bool)(g:Gl)(h:ta g)(hf:wO g):CC 87 new [.agg [iI g.op,iS g.s,iT g.ts]] (iL (varsOf g.ts)):=
 CC.plain (by rw[dW];decide) (aqU new g.op g.s h.2.1 h.2.2 hf) (Bp _) (t87 _)
theorem c88(new:Bool)(t:Tm)(h:oM t)(hf:dE t):CC 88 new [c7 t] (iL (varsOf [t])):=
 CC.plain (by rw[dW];decide) (aqV new t h hf) (Bp _) (t88 _)
theorem aeu(l:List Int)(n:Int)(hl:Sm l):CC 121 ab [iL l,iI n] (iB (l.contains n)):=by
 refine CC.of aiB n121 (t121 _) (by simp) (by simp) ?_;simp[UE,SE.den];refine⟨_,ap_ l n hl,?_⟩;have:=QI n l 0;simp at this⊢;simp[aA];exact this
theorem n47:(asK.funcs[47]?).map (·.params.size)=aa 3:=by kernel_rfl
theorem t47(z:IV):aO asK 47 z=ab:=by kernel_rfl
theorem n143:(asK.funcs[143]?).map (·.params.size)=aa 1:=by kernel_rfl
theorem t143(z:IV):aO asK 143 z=ab:=by kernel_rfl
theorem n96:(asK.funcs[96]?).map (·.params.size)=aa 1:=by kernel_rfl
theorem t96(z:IV):aO asK 96 z=ab:=by kernel_rfl
theorem n85:(asK.funcs[85]?).map (·.params.size)=aa 1:=by kernel_rfl
theorem t85(z:IV):aO asK 85 z=ab:=by kernel_rfl
theorem c85(r:Rl)(h:r.keep.length+r.remove.length<=1000):CC 85 af [ph r] (h_ (r.keep++r.remove)):=by
 refine CC.of aqX n85 (t85 _) (by simpa using jK r) (by simp) ?_;have h1:=Gv (a:=[]) (b:=r.keep) (by simp;omega);have h2:=Gv h;have hw:IntKind.i64.wrap ((r.keep.length:Int)+r.remove.length)=r.keep.length+r.remove.length:=cQ (by omega) (by omega);simp only[List.nil_append,aun]at h1;rw[js];simp[aeo,SE.den,aj,hw,mA];exact⟨by omega,_,h1,h2⟩
theorem n16:(asK.funcs[16]?).map (·.params.size)=aa 1:=by kernel_rfl
theorem t16(z:IV):aO asK 16 z=ab:=by kernel_rfl
theorem e16(l:List At)(hl:Sm l)(hw:∀g∈l,nz g):∃b,(b=ab->l.length<=5/\∀a∈l,a.ts.length<=8)/\CC 16 af [h_ l] (iB b):=by
 refine CC.qP _ aqW n16 t16 (by simp) (by rfl) ?_;obtain⟨b,hb,h44⟩:=e44 l hl hw;simp[aen,SE.den,aj];by_cases z:l.length<=5
 ·left;exact⟨by omega,_,h44,by simp;exactλh=>⟨z,hb h⟩⟩
 ·right;omega
theorem n36:(asK.funcs[36]?).map (·.params.size)=aa 3:=by kernel_rfl
theorem t36(z:IV):aO asK 36 z=ab:=by kernel_rfl
end Go.Proofs.YtggffkaadeagbaaGreat
namespace Go.Proofs.YtggffkaadeagbaaGreat
open Go Go.Ev
def RA(l:List Int):List Int:=l.foldl uL []
theorem J_(ks:List Int):s8 (ks.map na):=by
 intro d hd;obtain⟨k,_,rfl⟩:=ath.1 hd;exact⟨.int .i64 k,.agg #[],rfl⟩
theorem n97:(asK.funcs[97]?).map (·.params.size)=aa 1:=by kernel_rfl
theorem f97(l:List Int)(hl:Sm l):mq asK 97 [iL l] ((RA l).map na):=by
 refine mq.oj mixed wM anb n97 (by simp) (J_ _) ?_;simp[aaR,Rx,SE.den,aj];refine aw l.length (λi (q:List Int)=>[iI i,iM q]) (λi q=>q=(l.take i).foldl uL []) [] ?_ (by simp) λi q hi hq=>?_
 ·simp[SE.den]
 by_cases ai:i<l.length
 ·have hw:=aD ai hl;have sF:=Gw (ν:=[iM q,iI l[i]]) (m:=.var 0) (key:=.var 1) (ks:=q) (k:=l[i]) rfl rfl;simp[SE.den]at sF;simp only[iI]at sF;simp[SE.den,ai,hw,dN ai,aj];refine⟨_,sF,?_⟩;refine .mk _ rfl (by omega) ?_;rw[hq,asX ai,List.foldl_append];rfl
 ·simp[SE.den,ai];rw[hq,as0 (by omega),RA]
theorem n86:(asK.funcs[86]?).map (·.params.size)=aa 2:=by kernel_rfl
theorem anj(new:Bool)(l:List Int)(hl:Sm l):CC 1877 new [iL l] (iM (RA l)):=by
 have h:=nP.ahB (new:=new) (lx n97) (f97 l hl);rw[dW]at h;unfold CC;rw[dW];exact h
end Go.Proofs.YtggffkaadeagbaaGreat
namespace Go.Proofs.YtggffkaadeagbaaGreat
open Go Go.Ev
abbrev RB(ls:List (List At)):IV:=.tree 1 (ls.map h_)
abbrev ND(ls:List (List Gl)):IV:=.tree 1 (ls.map rP)
def fy(l:List At):List Int:=(l.map λa=>varsOf a.ts).flatten
def kJ(l:List Gl):List Int:=(l.map λa=>varsOf a.ts).flatten
def dA(ls:List (List At)):List Int:=(ls.map fy).flatten
def db(ls:List (List Gl)):List Int:=(ls.map kJ).flatten
theorem aaW{ls:List (List At)}{i:Nat}(h:i<ls.length):dy 1 (RB ls) (iI (i:Nat))=aa (h_ ls[i]):=fw (by simp[h]) rfl
theorem aaX{ls:List (List Gl)}{i:Nat}(h:i<ls.length):dy 1 (ND ls) (iI (i:Nat))=aa (rP ls[i]):=fw (by simp[h]) rfl
theorem RC(ls:List (List At)):Pure (RB ls):=by
 refine .tree 1 _ λe he c hc=>?_;obtain⟨x,_,rfl⟩:=ath.1 he;simp[cellsOf]at hc;subst hc;exact C3 x
theorem RD(ls:List (List Gl)):Pure (ND ls):=by
 refine .tree 1 _ λe he c hc=>?_;obtain⟨x,_,rfl⟩:=ath.1 he;simp[cellsOf]at hc;subst hc;exact acR x
theorem wC{α:Type}{f:α->List Int}{l:List α}{i:Nat}(h:i<l.length):((l.take (i+1)).map f).flatten=((l.take i).map f).flatten++f l[i]:=by
 rw[asX h,avR,at1];simp only[atJ,aun,avh,List.flatten_nil,List.append_nil]
theorem Db{α:Type}{f:α->List Int}{n:Nat}:∀{l:List α},(∀a∈l,(f a).length<=n)->((l.map f).flatten).length<=l.length*n
 |[],_=>by simp
 |a::l,h=>by
  have:=Db (f:=f) (l:=l) λa ha=>h a (by simp[ha]);have h1:=h a (by simp);rw[atJ,avh,atc,List.length_cons,Nat.add_mul];omega
theorem Dc{α:Type}{f:α->List Int}(l:List α)(i:Nat):((l.take i).map f).flatten.length<=(l.map f).flatten.length:=by
 conv=>rhs;rw[<-List.take_append_drop i l,avR,at1,atc]
 omega
theorem vm(l:List Int):∀e∈l.map iI,(cellsOf e).length=1:=λe he=>by obtain⟨x,_,rfl⟩:=ath.1 he;rfl
theorem GH(l:List Int):∀c∈flat (l.map iI),(∃v,c=.raw v)/\aj c=ab:=λc hc=>by
 unfold flat at hc;obtain⟨e,he,hc⟩:=List.mem_flatMap.1 hc;obtain⟨x,_,rfl⟩:=ath.1 he;simp[cellsOf]at hc;subst hc;exact⟨⟨_,rfl⟩,rfl⟩
section
variable{k0:List IV->Prop}{Q:IV->Prop}
theorem aiM(l:List At)(hl:Sm l)(hn:∀a∈l,nz a/\wN a){x0:IV}(acc:List Int)(i:Nat)(hi:i<1000)(hlen:acc.length+(fy l).length<=1000000000)(hk:k0 [iI (i+1:Nat),iL (acc++fy l)]):
 Nv.sat asK CC Q [k0] [x0,iI i,iL acc,h_ l]:=by
 have gx:=aD hi (by omega);refine aw l.length (λj (q:List Int)=>[iI j,iL q]) (λj q=>q=acc++fy (l.take j)) acc ?_ (by simp[fy]) λj q hj hq=>?_
 ·simp[SE.den]
 by_cases ai:j<l.length
 ·have hw:=aD ai hl;obtain⟨h1,h2⟩:=hn _ (asO ai);have DM:=US af l[j] h1 h2;have ht:=wC (f:=λa:At=>varsOf a.ts) ai;have dZ:=Dc (f:=λa:At=>varsOf a.ts) l (j+1);rw[ht,atc]at dZ;have hc:=oN (a:=q) (b:=varsOf l[j].ts) (by rw[hq,atc];unfold fy at hlen⊢;omega);simp[SE.den,ai,hw,ly ai,aj];refine⟨_,DM,?_⟩;simp[hc, -aud];refine⟨λx a ha hx=>?_,.mk _ rfl (by omega) (by rw[hq,fy,fy,ht,atf])⟩;simp[cellsOf]at hx;subst hx;rfl
 ·rw[as0 (by omega)]at hq;simp[SE.den,ai,gx];rw[hq];exact hk
theorem aq8(ls:List (List At))(hl:ls.length<=1000)(hn:∀l∈ls,Sm l/\∀a∈l,nz a/\wN a)(hlen:(dA ls).length<=1000000000):
 LI.sat asK CC (·=iL (dA ls)) [] [RB ls]:=by
 simp only[LI,oq,SE.den,auo,asU,sD];refine⟨⟨_,rfl⟩,⟨_,rfl⟩,?_⟩;unfold Nw;refine aw ls.length (λi (q:List Int)=>[iI i,iL q]) (λi q=>q=dA (ls.take i)) [] ?_ (by simp[dA]) λi q hi hq=>?_
 ·simp[SE.den]
 by_cases ai:i<ls.length
 ·obtain⟨h1,h2⟩:=hn _ (asO ai);have ht:=wC (f:=fy) ai;have dZ:=Dc (f:=fy) ls (i+1);rw[ht,atc]at dZ;simp[SE.den,ai,aaW ai, -aud];refine aiM ls[i] h1 h2 q i (by omega) (by rw[hq];unfold dA at hlen⊢;omega) ?_;exact .mk _ rfl (by omega) (by rw[hq,dA,dA,ht])
 ·rw[as0 (by omega)]at hq;simp[SE.den,ai];rw[hq];exact⟨λx a ha hx=>by simp[cellsOf]at hx;subst hx;rfl,rfl⟩
theorem aiN(l:List At)(hl:Sm l)(hn:∀a∈l,nz a/\wN a){x0:IV}(i:Nat)(hi:i<1000)(hz:∀a∈l,varsOf a.ts=[])(hk:k0 [iI (i+1:Nat)]):
 Nx.sat asK CC Q [k0] [x0,iI i,h_ l]:=by
 have gx:=aD hi (by omega);refine aw l.length (λj (_:Unit)=>[iI j]) (λ_ _=>True) () ?_ trivial λj _ hj _=>?_
 ·simp[SE.den]
 by_cases ai:j<l.length
 ·have hw:=aD ai hl;obtain⟨h1,h2⟩:=hn _ (asO ai);have DM:=US af l[j] h1 h2;rw[hz _ (asO ai)]at DM;simp[SE.den,ai,hw,ly ai,aj];refine⟨_,DM,?_⟩;simp;exact⟨⟨.tree 1 [],by simp[nj,gS]⟩,.mk () rfl (by omega) trivial⟩
 ·simp[SE.den,ai,gx];exact hk
theorem z139(ls:List (List At))(hl:ls.length<=1000)(hn:∀l∈ls,Sm l/\∀a∈l,nz a/\wN a)(hz:dA ls=[]):
 LJ.sat asK CC (·=iL []) [] [RB ls]:=by
 simp only[LJ,oq,SE.den,auo,asU,sD];refine⟨⟨_,rfl⟩,⟨_,rfl⟩,?_⟩;unfold Ny;refine aw ls.length (λi (_:Unit)=>[iI i]) (λ_ _=>True) () ?_ trivial λi _ hi _=>?_
 ·simp[SE.den]
 by_cases ai:i<ls.length
 ·obtain⟨h1,h2⟩:=hn _ (asO ai);simp[SE.den,ai,aaW ai];refine aiN ls[i] h1 h2 i (by omega) (λa ha=>?_) (.mk () rfl (by omega) trivial);have:=au2.1 hz _ (ath.2 ⟨_,asO ai,rfl⟩);exact au2.1 this _ (ath.2 ⟨a,ha,rfl⟩)
 ·simp[SE.den,ai]
theorem n139:(asK.funcs[139]?).map (·.params.size)=aa 1:=by kernel_rfl
theorem aiO:cP asK 139=1:=by kernel_rfl
theorem f139(ls:List (List At))(hl:ls.length<=1000)(hn:∀l∈ls,Sm l/\∀a∈l,nz a/\wN a)(hlen:(dA ls).length<=1000000000):kb asK (cP asK 139) 139 [RB ls] ((dA ls).map iI):=by
 have h1:=aiO;by_cases hp:dA ls=[]
 ·exact .oj (nm:=ab) mixed wM aiE n139 (by simpa using RC ls) (by rw[h1];exact vm _) (GH _) (by simp) (by rw[h1,hp];exact z139 ls hl hn hp)
 ·exact .oj (nm:=af) mixed wM aiD n139 (by simpa using RC ls) (by rw[h1];exact vm _) (GH _) (λ_=>by simpa using hp) (by rw[h1];exact aq8 ls hl hn hlen)
theorem ank(new:Bool)(ls:List (List At))(hl:ls.length<=1000)(hn:∀l∈ls,Sm l/\∀a∈l,nz a/\wN a)(hlen:(dA ls).length<=1000000000):CC 1563 new [RB ls] (iL (dA ls)):=by
 have h:=nP.fresh (new:=new) (lx n139) (f139 ls hl hn hlen);rw[dW,aiO]at h;unfold CC;rw[dW];exact h
theorem aiP(l:List Gl)(hl:Sm l)(hn:∀a∈l,ta a/\wO a){x0:IV}(acc:List Int)(i:Nat)(hi:i<1000)(hlen:acc.length+(kJ l).length<=1000000000)(hk:k0 [iI (i+1:Nat),iL (acc++kJ l)]):
 Nz.sat asK CC Q [k0] [x0,iI i,iL acc,rP l]:=by
 have gx:=aD hi (by omega);refine aw l.length (λj (q:List Int)=>[iI j,iL q]) (λj q=>q=acc++kJ (l.take j)) acc ?_ (by simp[kJ]) λj q hj hq=>?_
 ·simp[SE.den]
 by_cases ai:j<l.length
 ·have hw:=aD ai hl;obtain⟨h1,h2⟩:=hn _ (asO ai);have UT:=c87 af l[j] h1 h2;have ht:=wC (f:=λa:Gl=>varsOf a.ts) ai;have dZ:=Dc (f:=λa:Gl=>varsOf a.ts) l (j+1);rw[ht,atc]at dZ;have hc:=oN (a:=q) (b:=varsOf l[j].ts) (by rw[hq,atc];unfold kJ at hlen⊢;omega);simp[SE.den,ai,hw,mI ai,aj];refine⟨_,UT,?_⟩;simp[hc, -aud];refine⟨λx a ha hx=>?_,.mk _ rfl (by omega) (by rw[hq,kJ,kJ,ht,atf])⟩;simp[cellsOf]at hx;subst hx;rfl
 ·rw[as0 (by omega)]at hq;simp[SE.den,ai,gx];rw[hq];exact hk
theorem aq9(ls:List (List Gl))(hl:ls.length<=1000)(hn:∀l∈ls,Sm l/\∀a∈l,ta a/\wO a)(hlen:(db ls).length<=1000000000):
 LK.sat asK CC (·=iL (db ls)) [] [ND ls]:=by
 simp only[LK,oq,SE.den,auo,asU,sD];refine⟨⟨_,rfl⟩,⟨_,rfl⟩,?_⟩;unfold NA;refine aw ls.length (λi (q:List Int)=>[iI i,iL q]) (λi q=>q=db (ls.take i)) [] ?_ (by simp[db]) λi q hi hq=>?_
 ·simp[SE.den]
 by_cases ai:i<ls.length
 ·obtain⟨h1,h2⟩:=hn _ (asO ai);have ht:=wC (f:=kJ) ai;have dZ:=Dc (f:=kJ) ls (i+1);rw[ht,atc]at dZ;simp[SE.den,ai,aaX ai, -aud];refine aiP ls[i] h1 h2 q i (by omega) (by rw[hq];unfold db at hlen⊢;omega) ?_;exact .mk _ rfl (by omega) (by rw[hq,db,db,ht])
 ·rw[as0 (by omega)]at hq;simp[SE.den,ai];rw[hq];exact⟨λx a ha hx=>by simp[cellsOf]at hx;subst hx;rfl,rfl⟩
theorem aiQ(l:List Gl)(hl:Sm l)(hn:∀a∈l,ta a/\wO a){x0:IV}(i:Nat)(hi:i<1000)(hz:∀a∈l,varsOf a.ts=[])(hk:k0 [iI (i+1:Nat)]):
 NB.sat asK CC Q [k0] [x0,iI i,rP l]:=by
 have gx:=aD hi (by omega);refine aw l.length (λj (_:Unit)=>[iI j]) (λ_ _=>True) () ?_ trivial λj _ hj _=>?_
 ·simp[SE.den]
 by_cases ai:j<l.length
 ·have hw:=aD ai hl;obtain⟨h1,h2⟩:=hn _ (asO ai);have UT:=c87 af l[j] h1 h2;rw[hz _ (asO ai)]at UT;simp[SE.den,ai,hw,mI ai,aj];refine⟨_,UT,?_⟩;simp;exact⟨⟨.tree 1 [],by simp[nj,gS]⟩,.mk () rfl (by omega) trivial⟩
 ·simp[SE.den,ai,gx];exact hk
theorem aq_(ls:List (List Gl))(hl:ls.length<=1000)(hn:∀l∈ls,Sm l/\∀a∈l,ta a/\wO a)(hz:db ls=[]):
 LL.sat asK CC (·=iL []) [] [ND ls]:=by
 simp only[LL,oq,SE.den,auo,asU,sD];refine⟨⟨_,rfl⟩,⟨_,rfl⟩,?_⟩;unfold NC;refine aw ls.length (λi (_:Unit)=>[iI i]) (λ_ _=>True) () ?_ trivial λi _ hi _=>?_
 ·simp[SE.den]
 by_cases ai:i<ls.length
 ·obtain⟨h1,h2⟩:=hn _ (asO ai);simp[SE.den,ai,aaX ai];refine aiQ ls[i] h1 h2 i (by omega) (λa ha=>?_) (.mk () rfl (by omega) trivial);have:=au2.1 hz _ (ath.2 ⟨_,asO ai,rfl⟩);exact au2.1 this _ (ath.2 ⟨a,ha,rfl⟩)
 ·simp[SE.den,ai]
theorem n140:(asK.funcs[140]?).map (·.params.size)=aa 1:=by kernel_rfl
theorem aiR:cP asK 140=1:=by kernel_rfl
theorem f140(ls:List (List Gl))(hl:ls.length<=1000)(hn:∀l∈ls,Sm l/\∀a∈l,ta a/\wO a)(hlen:(db ls).length<=1000000000):kb asK (cP asK 140) 140 [ND ls] ((db ls).map iI):=by
 have h1:=aiR;by_cases hp:db ls=[]
 ·exact .oj (nm:=ab) mixed wM aiG n140 (by simpa using RD ls) (by rw[h1];exact vm _) (GH _) (by simp) (by rw[h1,hp];exact aq_ ls hl hn hp)
 ·exact .oj (nm:=af) mixed wM aiF n140 (by simpa using RD ls) (by rw[h1];exact vm _) (GH _) (λ_=>by simpa using hp) (by rw[h1];exact aq9 ls hl hn hlen)
theorem aev(new:Bool)(ls:List (List Gl))(hl:ls.length<=1000)(hn:∀l∈ls,Sm l/\∀a∈l,ta a/\wO a)(hlen:(db ls).length<=1000000000):CC 1564 new [ND ls] (iL (db ls)):=by
 have h:=nP.fresh (new:=new) (lx n140) (f140 ls hl hn hlen);rw[dW,aiR]at h;unfold CC;rw[dW];exact h
end
end Go.Proofs.YtggffkaadeagbaaGreat
namespace Go.Proofs.YtggffkaadeagbaaGreat
open Go Go.Ev
def aiS:List Nat:=[123,127,126,186,189,44,79,30,102,9,10,23,31,15,257,149,89,148,198,147,199,50,191,71,214,93,163,49,152,64,164,158,95,108,206,250,213,130,131,107,129,155,34,90,51,202,153,201,200,151,203,150,204,154,91,41,67,101,99,109,157,210,12,26,28,25,14,19,100,40,39,70,69,35,53,52,68,42,58,98,96,75,211,136,83,192,85,11,24,27,22,13,29,61,36,33,32,84,47,143,46,190,66,87,45,138,133,88,128,249,121,78,183,256,156]
def aiT:List Nat:=[48,118,216]
def aiU:List Nat:=[185,188,254]
def aiV:List Nat:=[155,159,103,173000080,500139,500140,500097,600086]
def UU:ak:=
 (oi 16 2 16 (uz 2 17 9 17 (dU 15) (zP 16 16 7 7 (vU 47 15 0 xl (lU 18 18 (jq 9 9) 5 14))) (eh 6 16)) (jq 7 7))
def UW:ak:=
 (oi 18 2 18 (uz 2 19 9 19 (dU 17) (zP 18 18 7 7 (vU 47 17 0 (jZ 17) (mB 20 20 (jq 9 9) (pC 6 15 lT)))) (eh 7 18)) (jq 7 7))
def UX:ak:=
 (oi 19 2 19 (uz 2 20 9 20 (iF 18) (zP 19 19 7 7 (vU 47 18 1 (fQ 18) (lU 21 21 (jq 9 9) 7 17))) (eh 8 19)) (jq 7 7))
def UY:ak:=
 (oi 20 2 20 (uz 2 21 9 21 (iF 19) (zP 20 20 7 7 (vU 47 19 1 (fQ 19) (lU 22 22 (jq 9 9) 8 18))) (eh 9 20)) (jq 7 7))
def UZ:ak:=
 (abS (.var 21) cx (EL 3 24 (.len (.var 22)) (Gh (.var 22) (.var 24) (iD 121 (zH 23 (uh (.var 22) 24)) (mB 25 25 (jq 17 17) (xk 24 (.next 11 (zH 23 (ue 24))))))) rW))
def U0:ak:=
 (qA 20 ux 3 vy 20 (gB 3 21 143 (dU 21) (eC 22 (zI (tZ (g_ 22)) (tZ (g_ 22)) 10 10 (eh 10 20)))) (iD 1563 (iC (.tr 1 (n_ 1 1 1 2))) (iD 1564 (iC (pG 1 3)) (.aS (.len (.var 22)) UZ))))
def U1:ak:=
 (vT 19 ft 3 me 19 (gB 3 20 143 (dU 20) (.nt (g_ 21) (eh 9 19) (zI (F_ .eql (dU 20)) (F_ .eql (dU 20)) 10 10 (eh 9 19)))) 4 U0)
def U2:ak:=
 (vT 18 ux 3 vy 18 (j2 (lS 3 19) (dU 19) (cY (fQ 19) bK UY) (eh 8 18)) 3 U1)
def U3:ak:=
 (vT 17 ft 3 me 17 (j2 (lS 3 18) (dU 18) (cY (fQ 18) bK UX) (eh 7 17)) 4 U2)
def U4:ak:=
 (gU EJ 15 jb 2 uj 15 (kC 2 17 (jZ 17) (zK UW)) (uc 3 U3))
def RE:ak:=
 (vT 14 lE 2 rY 14 (kC 2 15 xl (zK UU)) 2 U4)
def RF:ak:=
 (oi 17 2 17 (uz 2 18 9 18 (dU 16) (zP 17 17 7 7 (vU 47 16 0 Ci (lU 19 19 (jq 9 9) 5 15))) (eh 6 17)) (jq 7 7))
def RG:ak:=
 (oi 19 2 19 (uz 2 20 9 20 (dU 18) (zP 19 19 7 7 (vU 47 18 0 (jZ 18) (mB 21 21 (jq 9 9) (pC 6 16 lT)))) (eh 7 19)) (jq 7 7))
def RH:ak:=
 (oi 20 2 20 (uz 2 21 9 21 (iF 19) (zP 20 20 7 7 (vU 47 19 1 (fQ 19) (lU 22 22 (jq 9 9) 7 18))) (eh 8 20)) (jq 7 7))
def RI:ak:=
 (oi 21 2 21 (uz 2 22 9 22 (iF 20) (zP 21 21 7 7 (vU 47 20 1 (fQ 20) (lU 23 23 (jq 9 9) 8 19))) (eh 9 21)) (jq 7 7))
def RJ:ak:=
 (abS (.var 22) cx (EL 3 25 (.len (.var 23)) (Gh (.var 23) (.var 25) (iD 121 (zH 24 (uh (.var 23) 25)) (mB 26 26 (jq 17 17) (xk 25 (.next 11 (zH 24 (ue 25))))))) rW))
def RL:ak:=
 (qA 21 ux 3 vy 21 (gB 3 22 143 (dU 22) (eC 23 (zI (tZ (g_ 23)) (tZ (g_ 23)) 10 10 (eh 10 21)))) (iD 1563 (iC (.tr 1 (n_ 1 1 1 2))) (iD 1564 (iC (pG 1 3)) (.aS (.len (.var 23)) RJ))))
def RM:ak:=
 (vT 20 ft 3 me 20 (gB 3 21 143 (dU 21) (.nt (g_ 22) (eh 9 20) (zI (F_ .eql (dU 21)) (F_ .eql (dU 21)) 10 10 (eh 9 20)))) 4 RL)
def RN:ak:=
 (vT 19 ux 3 vy 19 (j2 (lS 3 20) (dU 20) (cY (fQ 20) bK RI) (eh 8 19)) 3 RM)
def RO:ak:=
 (vT 18 ft 3 me 18 (j2 (lS 3 19) (dU 19) (cY (fQ 19) bK RH) (eh 7 18)) 4 RN)
def RP:ak:=
 (gU EJ 16 jb 2 uj 16 (kC 2 18 (jZ 18) (zK RG)) (uc 3 RO))
def RQ:ak:=
 (vT 15 lE 2 rY 15 (kC 2 16 Ci (zK RF)) 2 RP)
def RR:ak:=
 (K9 cx (EL 3 12 (.len jY) (Gh jY (.var 12) (zI (ub .leq (uh jY 12) vG) (ub .leq (uh jY 12) vG) 2 2 (kg .eql 3 (uh jY 12) vG (xk 13 (pC 4 12 (ue 13))) (Ca 4 12 13)))) (zI (WL (Cc 5) vG) (WL (Cc 5) vG) 2 2 (uB 9 1 0 (uc 1 RE) (jo 83 uw (mB 14 14 (jq 7 7) (uc 1 RQ)))))))
def RS:ak:=
 (gU EJ 7 ux 3 vy 7 (gB 3 9 138 (xh 9 0 9 1 9 2) (mB 10 10 (jq 2 2) (pC 3 7 lT))) (iD 1563 (iC (.tr 1 (n_ 1 1 1 2))) (iD 1564 (iC (.tr 1 (n_ 1 3 1 4))) (mE 1 8 9 iE (.aS (.len jY) RR)))))
def RT:ak:=
 (vT 6 ft 3 me 6 (gB 3 7 138 (xh 7 0 7 1 7 2) (lU 8 8 (jq 2 2) 2 6)) 4 RS)
def RU:ak:=
 (gU EJ 4 jb 2 uj 4 (vM 2 6 45 6 6 (mB 7 7 (jq 2 2) (pC 1 4 lT))) (uc 3 RT))
def RV:ak:=
 (vT 3 lE 2 rY 3 (vM 2 4 45 4 4 (lU 5 5 (jq 2 2) 0 3)) 2 RU)
def aew:ak:=
 (PQ (lS 6 1) (iD 1148 (La 172) (cY lE jb (qI (mU lE jb) .gtr (mU lE jb) (kg .leq 3 (mU lE jb) (.i 4) (od ft .leq ft 12 (uc 4 (zI (r9 ux 12) (r9 ux 12) 6 6 (uc 1 RV))) (jq 6 6)) (jq 6 6)) (jq 6 6)))))
def anl:a_:=⟨aiS,aiT,aiU,[⟨2,84008000,53,[(2,(203,0))],[(8,1)],[(2,0),(2,21),(2,180),(2,181),(2,182),(2,183),(2,184),(2,185),(2,186),(2,187),(2,188),(2,189),(2,190),(2,191),(2,192),(2,193),(2,194),(2,195),(2,196),(2,197),(2,198),(2,199),(2,200)],[(2,(22,2))]⟩,⟨2,84008000,47,[(2,(182,0))],[],[(2,19),(2,163),(2,164),(2,165),(2,166),(2,167),(2,168),(2,169),(2,170),(2,171),(2,172),(2,173),(2,174),(2,175),(2,176),(2,177),(2,178),(2,179)],[]⟩,⟨2,84008000,42,[(2,(165,0))],[],[(2,1),(2,15),(2,17),(2,135),(2,136),(2,137),(2,138),(2,139),(2,140),(2,141),(2,142),(2,143),(2,144),(2,145),(2,146),(2,147),(2,148),(2,149),(2,150),(2,151),(2,152),(2,153),(2,154),(2,155),(2,156),(2,157),(2,158),(2,159),(2,160),(2,161),(2,162)],[]⟩,⟨6,84008000162022010008,2,[(6,(8,0))],[],[],[]⟩,⟨3,84008000162,1,[(3,(8,0))],[],[],[]⟩,⟨6,84008000158022010008,2,[(6,(8,0))],[],[],[]⟩,⟨3,84008000158,1,[(3,(8,0))],[],[],[]⟩,⟨2,84008000,34,[(2,(142,0)),(2,(141,0))],[],[],[]⟩,⟨5,84008000152010008,2,[(5,(8,0))],[],[],[]⟩,⟨2,84008000,22,[(2,(11,0)),(2,(103,0))],[],[(2,8),(2,10),(2,74),(2,75),(2,76),(2,77),(2,78),(2,79),(2,80),(2,81),(2,82),(2,83),(2,84),(2,85),(2,86),(2,87),(2,88),(2,89),(2,90),(2,91),(2,92),(2,93),(2,94),(2,95),(2,96),(2,97),(2,98),(2,99),(2,100)],[]⟩,⟨2,84008000,15,[(2,(81,0)),(2,(80,0))],[],[(2,4),(2,6),(2,55),(2,56),(2,57),(2,58),(2,59),(2,60),(2,61),(2,62),(2,63),(2,64),(2,65),(2,66),(2,67),(2,68),(2,69),(2,70),(2,71),(2,72),(2,73)],[]⟩,⟨2,84008000,6,[(2,(62,0)),(2,(61,0))],[],[(2,2),(2,3),(2,5),(2,7),(2,25),(2,26),(2,27),(2,28),(2,29),(2,30),(2,31),(2,32),(2,33),(2,34),(2,35),(2,36),(2,37),(2,38),(2,39),(2,40),(2,41),(2,42),(2,43),(2,44),(2,45),(2,46),(2,47),(2,48),(2,49),(2,50),(2,51),(2,52),(2,53),(2,54)],[]⟩,⟨999999,0,0,[],[],[],[]⟩],aiV⟩
theorem ara:aH asK anl 400 af 84=aew:=by kernel_rfl
end Go.Proofs.YtggffkaadeagbaaGreat
