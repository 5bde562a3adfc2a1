/- A part of the proof, no condition: lists of facts, the bounds, sorting. -/
import Derived.Test.YtggffkaadeagbaaGreatEvJ
import Derived.Test.YtggffkaadeagbaaGreatRuC
import Derived.Test.YtggffkaadeagbaaGreatEvP
open List renaming all_eq_true->aqW,mem_map->aq5,drop_eq_getElem_cons->arj,drop_of_length_le->aro,getElem_mem->aqI,all_cons->avS
open Bool renaming and_eq_true->aqG
open Go.Proofs.Tryz renaming prog->aqD
open Go.IntKind renaming i64->arc
set_option linter.all false
namespace Go.Proofs.YtggffkaadeagbaaGreat
open Go Go.Ev
structure SmM(m:Me):Prop where
 w:IQ m
 f:m.facts.length≤9
 p:m.past.length≤9
 l:m.log.length≤12
 g:∀x∈m.log,x.gone.length≤8
theorem aa3{l:List Ap}{i:Nat}(h:i<l.length):dx 6 (D3 l) (iI (i:Nat))=some (.agg [iI l[i].rule,iL l[i].bw,iL l[i].gone,iL l[i].made,iB l[i].failed,iL l[i].fV]):=afV h
theorem BS{α:Type}{s:Nat}{enc:α→IV}(h:∀a,∃cs,enc a=.agg cs∧cs.length=s∧cs.all af=true)(l:List α):iN s (l.map enc)=true:=by
 unfold iN;rw[aqW];intro e he;obtain⟨x,_,rfl⟩:=aq5.1 he;obtain⟨cs,h1,h2,h3⟩:=h x;rw[h1];simp only[cellsOf,aqG,beq_iff_eq];exact⟨h2,h3⟩
theorem ajx{a b:List Fa}(h:a.length+b.length≤1000):jM 4 72 (kb a) (kb b)=some (kb (a++b)):=by
 have h2:=BS (s:=4) (enc:=eT) (fun x=>⟨_,rfl,rfl,rfl⟩) b;simp[jM,h2];omega
theorem Ya{a:List Fa}(x:Fa)(h:a.length≤900):jM 4 72 (kb a) (.tree 4 [.agg [iI x.id,iS x.a.s,iT x.a.ts,iL x.j]])=some (kb (a++[x])):=ajx (b:=[x]) (by simp;omega)
def Yb:ab:=
 (qT (fA cj 2 cj 1 bt 2 (vA g_ g_ dy E9 ta) A7))
def afW:bj:=⟨uR,qQ,stops,[⟨0,94,2,[(0,(5,0))],[],[],[]⟩],[]⟩
theorem ajy:aI aqD afW 400 true 94=Yb:=by kernel_rfl
theorem an_(l:List Int)(n:Int)(hl:Sm l):CC 94 true [iL l,iI n] (iB (l.contains n)):=by
 refine CC.of ajy n94 (t94 _) (by simp) (by simp) ?_;simp[Yb,SE.den];refine eg l.length (fun i (_:Unit)=>[iI i]) (fun i _=>(n∈l↔n∈l.drop i)) () ?_ ?_ fun i _ hi hI=>?_
 ·simp[SE.den]
 ·simp
 by_cases aa:i<l.length
 ·rw[arj aa,List.mem_cons]at hI;have hw:=az aa hl;simp[SE.den,aa,hw,aw]
  grind
 ·simp[SE.den,aa,aw];rw[hI,aro (by omega)];simp
end Go.Proofs.YtggffkaadeagbaaGreat
namespace Go.Proofs.YtggffkaadeagbaaGreat
open Go Go.Ev
variable{Q:IV→Prop}{k0 k1 k2 k3 k4 k5:List IV→Prop}
end Go.Proofs.YtggffkaadeagbaaGreat
namespace Go.Proofs.YtggffkaadeagbaaGreat
open Go Go.Ev
theorem n206:(aqD.funcs[206]?).map (·.params.size)=some 1:=by kernel_rfl
theorem t206(z:IV):aN aqD 206 z=true:=by kernel_rfl
theorem n158:(aqD.funcs[158]?).map (·.params.size)=some 1:=by kernel_rfl
theorem t158(z:IV):aN aqD 158 z=true:=by kernel_rfl
theorem n102:(aqD.funcs[102]?).map (·.params.size)=some 1:=by kernel_rfl
theorem t102(z:IV):aN aqD 102 z=true:=by kernel_rfl
theorem n44:(aqD.funcs[44]?).map (·.params.size)=some 1:=by kernel_rfl
theorem t44(z:IV):aN aqD 44 z=true:=by kernel_rfl
theorem n31:(aqD.funcs[31]?).map (·.params.size)=some 1:=by kernel_rfl
theorem t31(z:IV):aN aqD 31 z=true:=by kernel_rfl
theorem n30:(aqD.funcs[30]?).map (·.params.size)=some 1:=by kernel_rfl
theorem t30(z:IV):aN aqD 30 z=true:=by kernel_rfl
theorem n10:(aqD.funcs[10]?).map (·.params.size)=some 2:=by kernel_rfl
theorem t10(z:IV):aN aqD 10 z=true:=by kernel_rfl
def bR(t:Tm):List Tm:=if t.k=2 then t.ts else[]
theorem aa4(t:Tm):CC 206 false [dB t] (iT (bR t)):=by
 refine CC.of ajj n206 (t206 _) (by simp[mQ]) (by simp) ?_;simp[X6,SE.den,cI,af,bR];by_cases h:t.k=2
 ·left;simp[h]
 ·right;simp[h]
mutual
def pW:Tm→Int
 |.mk k _ _ ts=>if k=2 then tD 1 ts else 1
def tD:Int→List Tm→Int
 |acc,[]=>acc
 |acc,t::l=>tD (arc.wrap (acc+pW t)) l
end
theorem PE(t:Tm):pW t=tD 1 (bR t):=by
 obtain⟨k,n,s,ts⟩:=t;show pW (.mk k n s ts)=tD 1 (if k=2 then ts else[]);by_cases hk:k=2<;>simp[pW,hk,tD]
theorem rY{t u:Tm}(h:u∈bR t):u∈t.ts:=by
 unfold bR at h;split at h
 ·exact h
 ·simp at h
theorem f158(t:Tm)(hl:Sm t.ts)(hc:∀u∈t.ts,CC 158 false [dB u] (iI (pW u))):CC 158 false [dB t] (iI (pW t)):=by
 refine CC.of ajk n158 (t158 _) (by simp[mQ]) (by simp) ?_;have h:=aa4 t;rw[cI]at h;simp[X7,SE.den,cI,af];refine⟨_,h,?_⟩;simp[SE.den];have LI:(bR t).length≤9223372036854775807:=by unfold bR;split<;>simp_all
 refine eg (bR t).length (fun i (a:Int)=>[iI i,iI a]) (fun i a=>pW t=tD a ((bR t).drop i)) 1 ?_ ?_ fun i a hi hI=>?_
 ·simp[SE.den]
 ·simp[PE]
 by_cases aa:i<(bR t).length
 ·rw[arj aa,tD]at hI;have hw:=az aa LI;have hm:(bR t)[i]∈t.ts:=rY (aqI aa);have h3:=hc _ hm;rw[cI]at h3;simp[SE.den,aa,hw,uh aa,cI,af];refine⟨_,h3,?_⟩;simp[SE.den,hw];exact⟨by omega,hI⟩
 ·simp[SE.den,aa];rw[hI,aro (by omega),tD]
theorem VN:∀t:Tm,vO t→CC 158 false [dB t] (iI (pW t))
 |.mk k n s ts,hw=>f158 _ ((Ak _).1 hw).1 fun u hu=>VN u (((Ak _).1 hw).2 u hu)
 decreasing_by simp[Tm.ts]at hu;have:=List.sizeOf_lt_of_mem hu;simp;omega
def IS:Int→List Tm→Bool
 |_,[]=>true
 |acc,t::l=>if 60<arc.wrap (acc+pW t)then false else IS (arc.wrap (acc+pW t)) l
def uS(l:List Tm):Bool:=if 8<l.length then false else IS 0 l
theorem aa5(l:List Tm)(hw:∀t∈l,vO t):CC 102 false [iT l] (iB (uS l)):=by
 refine CC.of ajl n102 (t102 _) (by simp) (by simp) ?_;simp[X8,SE.den];by_cases h8:8<l.length
 ·left;exact⟨by omega,by simp[uS,h8]⟩
 right;refine⟨by omega,?_⟩;refine eg l.length (fun i (a:Int)=>[iI i,iI a]) (fun i a=>uS l=IS a (l.drop i)) 0 ?_ ?_ fun i a hi hI=>?_
 ·simp[SE.den]
 ·simp[uS,h8]
 by_cases aa:i<l.length
 ·rw[arj aa,IS]at hI;have kT:=az aa (by omega);have h3:=VN l[i] (hw _ (aqI aa));rw[cI]at h3;simp[SE.den,aa,kT,uh aa,cI,af];refine⟨_,h3,?_⟩;simp[SE.den,kT];by_cases hs:60<arc.wrap (a+pW l[i])
  ·left;exact⟨hs,by rw[hI,if_pos hs]⟩
  ·right;exact⟨by omega,by omega,by rw[hI,if_neg hs]⟩
 ·simp[SE.den,aa];rw[hI,aro (by omega),IS]
def pk(l:List At):Bool:=l.all fun a=>uS a.ts
theorem aoa(l:List At)(hl:Sm l)(hw:∀a∈l,WfA a):CC 44 true [mP l] (iB (pk l)):=by
 refine CC.of ajn n44 (t44 _) (by simp) (by simp) ?_;simp[X9,SE.den];refine eg l.length (fun i (_:Unit)=>[iI i]) (fun i _=>pk l=pk (l.drop i)) () ?_ ?_ fun i _ hi hI=>?_
 ·simp[SE.den]
 ·simp
 by_cases aa:i<l.length
 ·rw[arj aa,pk,pk,avS]at hI;have kT:=az aa hl;simp[SE.den,aa,kT,afU aa,BQ,af,aw];refine⟨_,aa5 l[i].ts (hw _ (aqI aa)).2,?_⟩;simp[SE.den,kT,aw];cases ht:uS l[i].ts
  ·left;refine⟨rfl,?_⟩;rw[pk,hI,ht];simp
  ·right;refine⟨rfl,by omega,?_⟩;rw[pk,hI,ht];simp[pk]
 ·simp[SE.den,aa,aw];rw[hI,aro (by omega)];simp[pk]
def Fo(f:Fa):Bool:=decide (f.j.length≤20)&&pk [f.a]
def qI(l:List Fa):Bool:=decide (l.length≤9)&&l.all Fo
theorem c31(l:List Fa)(hw:∀f∈l,WfF f):CC 31 false [kb l] (iB (qI l)):=by
 refine CC.of ann n31 (t31 _) (by simp) (by simp) ?_;simp[acb,SE.den];by_cases h9:9<l.length
 ·left;exact⟨by omega,by simp[qI];omega⟩
 right;refine⟨by omega,?_⟩;refine eg l.length (fun i (_:Unit)=>[iI i]) (fun i _=>qI l=(l.drop i).all Fo) () ?_ ?_ fun i _ hi hI=>?_
 ·simp[SE.den]
 ·simp[qI];omega
 by_cases aa:i<l.length
 ·rw[arj aa,avS]at hI;have kT:=az aa (by omega);have jd:=hw _ (aqI aa);simp[SE.den,aa,kT,afT aa,eT,af,cellsOf];by_cases h20:20<l[i].j.length
  ·left;refine⟨by omega,?_⟩;rw[hI,Fo];simp;intro h;omega
  right;refine⟨by omega,?_⟩;have h3:=aoa [l[i].a] (by simp) (by simpa using jd.1);simp only[mP,List.map_cons,List.map_nil,BQ]at h3;refine⟨_,h3,?_⟩;simp[SE.den,kT];cases ht:pk [l[i].a]
  ·left;refine⟨rfl,?_⟩;rw[hI,Fo,ht];simp
  ·right;refine⟨rfl,by omega,?_⟩;rw[hI,Fo,ht];simp;omega
 ·simp[SE.den,aa];rw[hI,aro (by omega)];simp
def PF(x:Ap):Bool:=decide (x.bw.length≤8)&&(decide (x.gone.length≤8)&&(decide (x.made.length≤20)&&decide (x.fV.length≤20)))
def qJ(m:Me):Bool:=qI m.facts&&(qI m.past&&(decide (m.log.length≤12)&&m.log.all PF))
theorem PG{m:Me}(hm:IQ m)(h:qJ m=true):m.facts.length≤9∧m.past.length≤9∧m.log.length≤12∧∀x∈m.log,x.gone.length≤8:=by
 simp only[qJ,qI,aqG,decide_eq_true_eq,aqW,PF]at h;exact⟨h.1.1,h.2.1.1,h.2.2.1,fun x hx=>(h.2.2.2 x hx).2.1⟩
end Go.Proofs.YtggffkaadeagbaaGreat
namespace Go.Proofs.YtggffkaadeagbaaGreat
open Go Go.Ev
variable{Q:IV→Prop}{k0 k1 k2 k3 k4 k5:List IV→Prop}
theorem rB{l:List At}{i:Nat}(h:i<l.length):dx 2 (mP l) (iI (i:Nat))=some (.agg [iS l[i].s,iT l[i].ts]):=afU h
theorem xM{l:List Fa}{i:Nat}(h:i<l.length):dx 4 (kb l) (iI (i:Nat))=some (.agg [iI l[i].id,iS l[i].a.s,iT l[i].a.ts,iL l[i].j]):=afT h
theorem Fp{a b:List At}(h:a.length+b.length≤1000):jM 2 40 (mP a) (mP b)=some (mP (a++b)):=by
 have h2:iN 2 (b.map BQ)=true:=by
  unfold iN;rw[aqW];intro e he;obtain⟨x,_,rfl⟩:=aq5.1 he;rfl
 simp[jM,h2];omega
end Go.Proofs.YtggffkaadeagbaaGreat
namespace Go.Proofs.YtggffkaadeagbaaGreat
open Go Go.Ev
section sorting
variable{α:Type}{lt:α→α→Bool}
structure Ord(lt:α→α→Bool):Prop where
 h1:∀x y z,lt x y=true→lt z y=false→lt x z=true
 h2:∀x y,lt x y=true→lt y x=false
end sorting
end Go.Proofs.YtggffkaadeagbaaGreat
