/- A part of the proof, no condition: lists of facts, the bounds, sorting. -/
import Derived.Test.YtggffkaadeagbaaGreatEvJ
import Derived.Test.YtggffkaadeagbaaGreatRuC
import Derived.Test.YtggffkaadeagbaaGreatEvP
open List renaming all_eq_true->as6,mem_map->ath,drop_eq_getElem_cons->ata,drop_of_length_le->atg,getElem_mem->asO,all_cons->axX
open Bool renaming and_eq_true->asN
open Go.Proofs.Tryz renaming prog->asK
open Go.IntKind renaming i64->as7
open Option renaming some->aa
open Bool renaming true->ab,false->af
set_option linter.all false
namespace Go.Proofs.YtggffkaadeagbaaGreat
open Go Go.Ev
structure SmM(m:Me):Prop where
 w:DI m
 f:m.facts.length<=9
 p:m.past.length<=9
 l:m.log.length<=12
 g:∀x∈m.log,x.gone.length<=8
theorem acI{l:List Ap}{i:Nat}(h:i<l.length):dy 6 (Fb l) (iI (i:Nat))=aa (.agg [iI l[i].rule,iL l[i].bA,iL l[i].gone,iL l[i].made,iB l[i].failed,iL l[i].fA]):=Xm h
theorem C6{α:Type}{s:Nat}{enc:α->IV}(h:∀a,∃cs,enc a=.agg cs/\cs.length=s/\cs.all aj=ab)(l:List α):jm s (l.map enc)=ab:=by
 unfold jm;rw[as6];intro e he;obtain⟨x,_,rfl⟩:=ath.1 he;obtain⟨cs,h1,h2,h3⟩:=h x;rw[h1];simp only[cellsOf,asN,beq_iff_eq];exact⟨h2,h3⟩
theorem Xn{a b:List Fa}(h:a.length+b.length<=1000):kq 4 72 (gL a) (gL b)=aa (gL (a++b)):=by
 have h2:=C6 (s:=4) (enc:=ef) (λx=>⟨_,rfl,rfl,rfl⟩) b;simp[kq,h2];omega
theorem JU{a:List Fa}(x:Fa)(h:a.length<=900):kq 4 72 (gL a) (.tree 4 [.agg [iI x.id,iS x.a.s,iT x.a.ts,iL x.j]])=aa (gL (a++[x])):=Xn (b:=[x]) (by simp;omega)
def ZU:ak:=
 (qz (fv bK 2 bK 1 bw 2 (wJ ej ej cZ Gc qD) Ch))
def ahH:a_:=⟨jB,iw,stops,[⟨0,94,2,[(0,(5,0))],[],[],[]⟩],[]⟩
theorem alj:aH asK ahH 400 ab 94=ZU:=by kernel_rfl
theorem aqc(l:List Int)(n:Int)(hl:Sm l):CC 94 ab [iL l,iI n] (iB (l.contains n)):=by
 refine CC.of alj n94 (t94 _) (by simp) (by simp) ?_;simp[ZU,SE.den];refine dD l.length (λi (_:Unit)=>[iI i]) (λi _=>(n∈l↔n∈l.drop i)) () ?_ ?_ λi _ hi hI=>?_
 ·simp[SE.den]
 ·simp
 by_cases ai:i<l.length
 ·rw[ata ai,List.mem_cons]at hI;have hw:=aD ai hl;simp[SE.den,ai,hw,aA]
  grind
 ·simp[SE.den,ai,aA];rw[hI,atg (by omega)];simp
end Go.Proofs.YtggffkaadeagbaaGreat
namespace Go.Proofs.YtggffkaadeagbaaGreat
open Go Go.Ev
variable{Q:IV->Prop}{k0 k1 k2 k3 k4 k5:List IV->Prop}
end Go.Proofs.YtggffkaadeagbaaGreat
namespace Go.Proofs.YtggffkaadeagbaaGreat
open Go Go.Ev
theorem n206:(asK.funcs[206]?).map (·.params.size)=aa 1:=by kernel_rfl
theorem t206(z:IV):aO asK 206 z=ab:=by kernel_rfl
theorem n158:(asK.funcs[158]?).map (·.params.size)=aa 1:=by kernel_rfl
theorem t158(z:IV):aO asK 158 z=ab:=by kernel_rfl
theorem n102:(asK.funcs[102]?).map (·.params.size)=aa 1:=by kernel_rfl
theorem t102(z:IV):aO asK 102 z=ab:=by kernel_rfl
theorem n44:(asK.funcs[44]?).map (·.params.size)=aa 1:=by kernel_rfl
theorem t44(z:IV):aO asK 44 z=ab:=by kernel_rfl
theorem n31:(asK.funcs[31]?).map (·.params.size)=aa 1:=by kernel_rfl
theorem t31(z:IV):aO asK 31 z=ab:=by kernel_rfl
theorem n30:(asK.funcs[30]?).map (·.params.size)=aa 1:=by kernel_rfl
theorem t30(z:IV):aO asK 30 z=ab:=by kernel_rfl
theorem n10:(asK.funcs[10]?).map (·.params.size)=aa 2:=by kernel_rfl
theorem t10(z:IV):aO asK 10 z=ab:=by kernel_rfl
def bY(t:Tm):List Tm:=if t.k=2 then t.ts else[]
theorem acJ(t:Tm):CC 206 af [c7 t] (iT (bY t)):=by
 refine CC.of ak5 n206 (t206 _) (by simp[kU]) (by simp) ?_;simp[ZO,SE.den,bU,aj,bY];by_cases h:t.k=2
 ·left;simp[h]
 ·right;simp[h]
mutual
def qO:Tm->Int
 |.mk k _ _ ts=>if k=2 then uK 1 ts else 1
def uK:Int->List Tm->Int
 |acc,[]=>acc
 |acc,t::l=>uK (as7.wrap (acc+qO t)) l
end
theorem QL(t:Tm):qO t=uK 1 (bY t):=by
 obtain⟨k,n,s,ts⟩:=t;show qO (.mk k n s ts)=uK 1 (if k=2 then ts else[]);by_cases hk:k=2<;>simp[qO,hk,uK]
theorem s9{t u:Tm}(h:u∈bY t):u∈t.ts:=by
 unfold bY at h;split at h
 ·exact h
 ·simp at h
theorem f158(t:Tm)(hl:Sm t.ts)(hc:∀u∈t.ts,CC 158 af [c7 u] (iI (qO u))):CC 158 af [c7 t] (iI (qO t)):=by
 refine CC.of ak6 n158 (t158 _) (by simp[kU]) (by simp) ?_;have h:=acJ t;rw[bU]at h;simp[ZP,SE.den,bU,aj];refine⟨_,h,?_⟩;simp[SE.den];have M0:(bY t).length<=9223372036854775807:=by unfold bY;split<;>simp_all
 refine dD (bY t).length (λi (a:Int)=>[iI i,iI a]) (λi a=>qO t=uK a ((bY t).drop i)) 1 ?_ ?_ λi a hi hI=>?_
 ·simp[SE.den]
 ·simp[QL]
 by_cases ai:i<(bY t).length
 ·rw[ata ai,uK]at hI;have hw:=aD ai M0;have hm:(bY t)[i]∈t.ts:=s9 (asO ai);have h3:=hc _ hm;rw[bU]at h3;simp[SE.den,ai,hw,vl ai,bU,aj];refine⟨_,h3,?_⟩;simp[SE.den,hw];exact⟨by omega,hI⟩
 ·simp[SE.den,ai];rw[hI,atg (by omega),uK]
theorem Xo:∀t:Tm,uJ t->CC 158 af [c7 t] (iI (qO t))
 |.mk k n s ts,hw=>f158 _ ((vj _).1 hw).1 λu hu=>Xo u (((vj _).1 hw).2 u hu)
 decreasing_by simp[Tm.ts]at hu;have:=List.sizeOf_lt_of_mem hu;simp;omega
def JV:Int->List Tm->Bool
 |_,[]=>ab
 |acc,t::l=>if 60<as7.wrap (acc+qO t)then af else JV (as7.wrap (acc+qO t)) l
def vY(l:List Tm):Bool:=if 8<l.length then af else JV 0 l
theorem acK(l:List Tm)(hw:∀t∈l,uJ t):CC 102 af [iT l] (iB (vY l)):=by
 refine CC.of ak7 n102 (t102 _) (by simp) (by simp) ?_;simp[ZQ,SE.den];by_cases h8:8<l.length
 ·left;exact⟨by omega,by simp[vY,h8]⟩
 right;refine⟨by omega,?_⟩;refine dD l.length (λi (a:Int)=>[iI i,iI a]) (λi a=>vY l=JV a (l.drop i)) 0 ?_ ?_ λi a hi hI=>?_
 ·simp[SE.den]
 ·simp[vY,h8]
 by_cases ai:i<l.length
 ·rw[ata ai,JV]at hI;have lM:=aD ai (by omega);have h3:=Xo l[i] (hw _ (asO ai));rw[bU]at h3;simp[SE.den,ai,lM,vl ai,bU,aj];refine⟨_,h3,?_⟩;simp[SE.den,lM];by_cases hs:60<as7.wrap (a+qO l[i])
  ·left;exact⟨hs,by rw[hI,if_pos hs]⟩
  ·right;exact⟨by omega,by omega,by rw[hI,if_neg hs]⟩
 ·simp[SE.den,ai];rw[hI,atg (by omega),JV]
def qg(l:List At):Bool:=l.all λa=>vY a.ts
theorem aqd(l:List At)(hl:Sm l)(hw:∀a∈l,ZT a):CC 44 ab [h_ l] (iB (qg l)):=by
 refine CC.of ak9 n44 (t44 _) (by simp) (by simp) ?_;simp[ZR,SE.den];refine dD l.length (λi (_:Unit)=>[iI i]) (λi _=>qg l=qg (l.drop i)) () ?_ ?_ λi _ hi hI=>?_
 ·simp[SE.den]
 ·simp
 by_cases ai:i<l.length
 ·rw[ata ai,qg,qg,axX]at hI;have lM:=aD ai hl;simp[SE.den,ai,lM,ahG ai,qd,aj,aA];refine⟨_,acK l[i].ts (hw _ (asO ai)).2,?_⟩;simp[SE.den,lM,aA];cases ht:vY l[i].ts
  ·left;refine⟨rfl,?_⟩;rw[qg,hI,ht];simp
  ·right;refine⟨rfl,by omega,?_⟩;rw[qg,hI,ht];simp[qg]
 ·simp[SE.den,ai,aA];rw[hI,atg (by omega)];simp[qg]
def Gu(f:Fa):Bool:=decide (f.j.length<=20)&&qg [f.a]
def rM(l:List Fa):Bool:=decide (l.length<=9)&&l.all Gu
theorem c31(l:List Fa)(hw:∀f∈l,T8 f):CC 31 af [gL l] (iB (rM l)):=by
 refine CC.of apq n31 (t31 _) (by simp) (by simp) ?_;simp[adT,SE.den];by_cases h9:9<l.length
 ·left;exact⟨by omega,by simp[rM];omega⟩
 right;refine⟨by omega,?_⟩;refine dD l.length (λi (_:Unit)=>[iI i]) (λi _=>rM l=(l.drop i).all Gu) () ?_ ?_ λi _ hi hI=>?_
 ·simp[SE.den]
 ·simp[rM];omega
 by_cases ai:i<l.length
 ·rw[ata ai,axX]at hI;have lM:=aD ai (by omega);have jF:=hw _ (asO ai);simp[SE.den,ai,lM,Xl ai,ef,aj,cellsOf];by_cases h20:20<l[i].j.length
  ·left;refine⟨by omega,?_⟩;rw[hI,Gu];simp;intro h;omega
  right;refine⟨by omega,?_⟩;have h3:=aqd [l[i].a] (by simp) (by simpa using jF.1);simp only[h_,List.map_cons,List.map_nil,qd]at h3;refine⟨_,h3,?_⟩;simp[SE.den,lM];cases ht:qg [l[i].a]
  ·left;refine⟨rfl,?_⟩;rw[hI,Gu,ht];simp
  ·right;refine⟨rfl,by omega,?_⟩;rw[hI,Gu,ht];simp;omega
 ·simp[SE.den,ai];rw[hI,atg (by omega)];simp
def QM(x:Ap):Bool:=decide (x.bA.length<=8)&&(decide (x.gone.length<=8)&&(decide (x.made.length<=20)&&decide (x.fA.length<=20)))
def rN(m:Me):Bool:=rM m.facts&&(rM m.past&&(decide (m.log.length<=12)&&m.log.all QM))
theorem QN{m:Me}(hm:DI m)(h:rN m=ab):m.facts.length<=9/\m.past.length<=9/\m.log.length<=12/\∀x∈m.log,x.gone.length<=8:=by
 simp only[rN,rM,asN,decide_eq_true_eq,as6,QM]at h;exact⟨h.1.1,h.2.1.1,h.2.2.1,λx hx=>(h.2.2.2 x hx).2.1⟩
end Go.Proofs.YtggffkaadeagbaaGreat
namespace Go.Proofs.YtggffkaadeagbaaGreat
open Go Go.Ev
variable{Q:IV->Prop}{k0 k1 k2 k3 k4 k5:List IV->Prop}
theorem ly{l:List At}{i:Nat}(h:i<l.length):dy 2 (h_ l) (iI (i:Nat))=aa (.agg [iS l[i].s,iT l[i].ts]):=ahG h
theorem yU{l:List Fa}{i:Nat}(h:i<l.length):dy 4 (gL l) (iI (i:Nat))=aa (.agg [iI l[i].id,iS l[i].a.s,iT l[i].a.ts,iL l[i].j]):=Xl h
theorem Gv{a b:List At}(h:a.length+b.length<=1000):kq 2 40 (h_ a) (h_ b)=aa (h_ (a++b)):=by
 have h2:jm 2 (b.map qd)=ab:=by
  unfold jm;rw[as6];intro e he;obtain⟨x,_,rfl⟩:=ath.1 he;rfl
 simp[kq,h2];omega
end Go.Proofs.YtggffkaadeagbaaGreat
namespace Go.Proofs.YtggffkaadeagbaaGreat
open Go Go.Ev
section sorting
variable{α:Type}{lt:α->α->Bool}
structure Ord(lt:α->α->Bool):Prop where
 h1:∀x y z,lt x y=ab->lt z y=af->lt x z=ab
 h2:∀x y,lt x y=ab->lt y x=af
end sorting
end Go.Proofs.YtggffkaadeagbaaGreat
