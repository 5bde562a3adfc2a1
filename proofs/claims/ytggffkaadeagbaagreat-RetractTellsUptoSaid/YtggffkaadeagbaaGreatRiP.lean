/- A part of the proof, no condition: Right of the program comes to an end. -/
import Derived.Test.YtggffkaadeagbaaGreatEvJ
import Derived.Test.YtggffkaadeagbaaGreatRuA
import Derived.Test.YtggffkaadeagbaaGreatEvP
import Derived.Test.YtggffkaadeagbaaGreatRiM
open Go.Proofs.Tryz renaming prog->asK
open Go.Lib renaming compact->auq,compactUpTo_succ->awE
open List renaming map_cons->atJ,mem_map->ath,length_map->auk,length_mergeSort->awY,eq_nil_of_length_eq_zero->atr,mem_of_getElem?->asZ,mem_of_mem_eraseIdx->avE
open Go.Value renaming int->atP
open Classical renaming not_forall->awe
open Option renaming some->aa,none->ah
open Bool renaming true->ab,false->af
set_option linter.all false
namespace Go.Proofs.YtggffkaadeagbaaGreat
open Go Go.Ev
def U6:List Nat:=[123,127,126,186,189,44,79,30,102,9,10,23,31,15,257,149,89,148,198,147,199,50,191,71,214,93,163,49,152,64,164,158,95,108,206,250,213,130,131,107,129,155,34,90,51,202,153,201,200,151,203,150,204,154,91,41,67,101,99,109,157,210,12,26,28,25,14,19,100,40,39,70,69,35,53,52,68,42,58,96,75,211,136,83,192,85,11,24,27,22,13,29,61,36,33,32,84,47,143,46,190,66,87,45,138,133,88,128,249,121,78,183,256,16,17]
def U7:List Nat:=[38,48,80,118,134,216]
def U8:List Nat:=[185,188,254]
def U9:List Nat:=[155,159,103,173000080,500139,500140,500097,600086,500156,500098]
def RY:ak:=
 (K9 jY (EL 3 13 (.len (pG 12 0)) (Gh (pG 12 0) vG (xn 3 qC (uh (pG 12 0) 13) .an (Ca 3 13 15))) (Ca 2 10 14)))
def RZ:ak:=
 (qA 25 rX 1 (jH 15 3) 25 (eC 26 (.bind (.sQ 4 (.get 3 mV (g_ 26) (vQ cx zJ mD fq))) (Cv 3 mV (g_ 26) (Cm 28 lF (iD 78 (n_ 27 3 15 5) (lU 29 29 lF 6 25)))))) (uu 4))
def R0:ak:=
 (qA 25 rX 1 (jH 15 3) 25 (eC 26 (.bind (.sQ 4 (.get 3 mV (g_ 26) (vQ cx zJ mD fq))) (Cv 3 mV (g_ 26) (Cm 28 lF (iD 78 (n_ 27 3 15 5) (lU 29 29 lF 6 25)))))) (uu 4))
def R4:ak:=
 (gU mD 18 xl 1 (iF 15) 18 (eC 20 (.bind (.sQ 4 (.get 3 mV (g_ 20) (vQ cx zJ mD fq))) (Cv 3 mV (g_ 20) (Cm 22 lF (qB 4 72 19 4 (gu 21 21 21 21) (Ca 5 18 23)))))) (.aS Ci (ur (iF 15) Ci xl (vL 78 (vS 15) (.var 20) (mB 21 21 lF (iD 2222 (n9 jY 15 2 .an) (Cm 22 lF (iD 1522 (pf 19) (vL 78 (jH 15 5) (.var 23) (mB 24 24 lF (.test (jH 15 4) (qI rX .gtr rX lF (ua rX rX 12 lF (.aS rX RZ))) (ua rX rX 12 lF (.aS rX R0)))))))))))))
def R_:ak:=
 (gU qC 19 rX 1 (jH 15 3) 19 (eC 21 (.bind (qF (.get 3 (.var 20) (g_ 21) (.k .i64 0))) (xk 22 (xn 3 (.var 20) (g_ 21) (ue 22) (Ca 5 19 23))))) (Cx 3 12 18 (.var 20)))
def Sa:ak:=
 (gU vG 17 (fQ 15) 1 (vS 15) 17 (eC 19 (.bind (qF (.get 3 (.var 18) (g_ 19) (.k .i64 0))) (xk 20 (xn 3 (.var 18) (g_ 19) (ue 20) (Ca 4 17 21))))) (.aS rX R_))
def Sb:ak:=
 (.kP (lI .lss 15 0 lF (oa eY .geq (dU 15) eY lF (EK 6 og (dU 15) (kC 6 16 xl (cY Ci (fQ 16) (oa (mU Ci (fQ 16)) .neq xl (mU Ci (fQ 16)) lF (iD 1877 (EN 15 1) (.aS (.dec 9 (.var 17) lT) (oa xl .neq (.dec 9 (.var 17) lT) xl lF (.aS xl R4)))))))))) 1 (Cm 16 bf (.aS (fQ 15) Sa)))
def Sc:ak:=
 (.loop (iC (.tp (zH 14 qC))) (.pick qC (.var 16) rm (.same qC (.var 18) (.aS (qF (.proj (Aw 18 2) 0)) (fC (qF (.proj (Aw 18 2) 1)) (qF (.proj (Aw 18 2) 1)) 1 (.next 5 (pf 18)))))))
def Sd:ak:=
 (.loop (iC (.tp (rl jY jY))) (.pick jY (.var 15) (.aS (.dec 9 qC lT) (.uniq Sc)) (.same jY (.var 17) (cY (qF (.proj (Aw 17 2) 0)) (.sQ 0 (.proj (Aw 17 2) 1)) (.bind (qF (.get 3 vG (qF (.proj (Aw 17 2) 0)) (.k .i64 0))) (.nt (Wz .neq 18) bf (.next 4 (pf 17))))))))
def Se:ak:=
 (.loop (vR cx Ck Ck) (K6 3 12 jb 6 uj 12 (lq 6 15 Sb) (.aS (.dec 9 jY lT) (.uniq Sd))))
def NH:ak:=
 (gU Ck 10 lE 4 rY 10 (kC 4 12 (.rw (dU 12)) (.aS (.len (pG 12 0)) RY)) (uc 2 Se))
def NI:ak:=
 (.loop (Wy cx (rl EJ eb)) (K6 3 6 lE 4 rY 6 (pz (qJ 10) .leq (dU 10) Cw (HW .geq 10 0 me bf (zS 36 (wY lH (gu 10 10 10 10) (EN 1 4)) 11 11 (.bind (.sQ 4 (.get 3 mV (dU 10) (vQ cx zJ mD fq))) (Cv 3 mV (dU 10) (.test vG bf (xn 3 mV (dU 10) (gu 10 10 10 10) (B_ 1 6 (wY (dU 10) lT (pf 14)))))))))) (uc 1 NH)))
def NJ:ak:=
 (.loop (Wy cx (iC Ck)) (K6 3 3 uf 4 uw 3 (pz (qJ 6) .leq zQ r8 (HW .geq 6 0 me bf (zS 36 (wY lH (gu 6 6 6 6) (EN 1 4)) 7 7 (.bind (.sQ 4 (.get 3 eb zQ (vQ cx zJ mD fq))) (Cv 3 eb zQ (.test mV bf (xn 3 eb zQ (gu 6 6 6 6) (B_ 0 3 (rl zQ iE))))))))) (uc 1 NI)))
def Sf:ak:=
 (uD 5 (jo 11 lH (vV cB 31 cB bf (jV .lss 1 3 1 bf (jV .gtr 1 3 2147483648 bf (lI .lss 1 4 bf (jV .gtr 1 4 64 bf (cY uf lE (cY vB jb (fC (qF (.mx ab vB jb)) (qF (.mx ab vB jb)) 5000 (uc 0 NJ)))))))))))
def aiY:a_:=⟨U6,U7,U8,[⟨0,13,30,[(0,(131,0))],[(5,0),(4,0)],[],[]⟩,⟨0,13,40,[(0,(156,0))],[(5,0)],[],[]⟩,⟨0,13,35,[(0,(144,0))],[(4,0)],[],[]⟩,⟨1,13140,8,[(1,(10,0)),(1,(60,0))],[(11,3),(11,0)],[],[]⟩,⟨0,13,24,[(0,(116,0))],[(3,0)],[],[]⟩,⟨0,13,46,[],[(6,0)],[],[]⟩,⟨0,13,51,[],[(7,0)],[],[]⟩,⟨0,13,1000139,[(0,(139,0))],[],[],[]⟩,⟨1,13140,18,[(1,(121,0))],[],[],[]⟩,⟨1,13125,1,[(1,(8,0))],[(3,0)],[],[]⟩,⟨0,13,11,[(0,(74,0)),(0,(8,0)),(0,(73,0))],[(2,0)],[],[]⟩,⟨999999,0,0,[],[],[],[]⟩],U9⟩
theorem ann:aH asK aiY 400 af 13=Sf:=by kernel_rfl
def Sg:ak:=
 (gU fq 1 bK 4 bw 1 (mj 3 (mE 1 24 2 (pG 3 3) (lJ 1 4))) (iD 1580 (pf 2) (zM qG)))
def Sh:ak:=
 (xo Sg)
def aiZ:a_:=⟨U6,U7,U8,[⟨0,98,3,[(0,(3,0)),(0,(7,0))],[(0,3),(0,0)],[],[]⟩,⟨999999,0,0,[],[],[],[]⟩],U9⟩
theorem ano:qb asK aiZ 400 af 98=Sh:=by kernel_rfl
end Go.Proofs.YtggffkaadeagbaaGreat
namespace Go.Proofs.YtggffkaadeagbaaGreat
open Go Go.RowKit Go.Shelf Go.Sort
attribute [local go_sem] Oper.semAt_some
theorem Ka{zs:List Int}(h:zs≠[]):auq zs≠[]:=by
 unfold auq
 have key:∀m,0<(Go.Lib.compactUpTo zs.toArray (m+1)).length:=by
  intro m;induction m with
  |zero=>rw[awE];simp[Go.Lib.keeps]
  |succ m ih=>rw[awE,List.length_append];omega
 obtain⟨x,l,rfl⟩:=List.exists_cons_of_ne_nil h;intro h0;have:=key l.length;rw[show l.length+1=(x::l).length from rfl,h0]at this;simp at this
theorem U_:∀l:List Int,Ev.flat (l.map Ev.iI)=l.map Ev.iI
 |[]=>rfl
 |x::l=>by
  have:=U_ l;unfold Ev.flat at this⊢;rw[atJ,List.flatMap_cons,this];rfl
set_option maxRecDepth 100000 in
set_option maxHeartbeats 2000000 in
theorem arb(ls:List (List Int))(hl:ls.length<=1000)(hf:ls.flatten.length<=100000)(M:Ev.Fz)(w:World)(us:List Value)(hM:Ev.uR M w)(l7:Ev.aB (Ev.eH M) [DJ ls] us):CallsIn Fence.wide 0 asK 156 us.toArray w (Ev.ahc w 1 ((eW ls).map Ev.iI)):=by
 have ai0:=(f207 ls hl hf).2.2.2 M w us hM l7;obtain⟨v,pQ,rfl,h1,h2⟩:=l7.ti;obtain rfl:=h2.of_nil;refine callsIn_of_wp Tryz.func156 rfl trivial ?_ rfl;simp only[Tryz.ntmps156,List.size_toArray,List.length_cons,List.length_nil,Nat.reduceAdd,Nat.reduceSub,Array.replicate_succ,Array.replicate_zero,List.push_toArray,List.append_toArray,List.nil_append,List.cons_append]
 gi_wp2_with (refine⟨trivial,rfl,?_⟩;refine ai0.mono ?_;rintro e W1 hE;obtain⟨u,rfl,eE⟩:∃u,e=.returned u/\Ev.ahb w 1 (ls.flatten.map Ev.iI) u W1:=(by cases e<;>first|exact⟨_,rfl,hE⟩|exact hE.elim))
 clear ai0;obtain⟨⟨we,xY,xZ,aU,hold⟩,⟨re,rfl⟩|⟨aW,b,c,el,cap,hb,rfl,hh,l5,bH,aE⟩⟩:=eE
 ·have Bm:Below w.heap.size w W1:=⟨we,xY,xZ,aU,hold⟩
  gi_wp2_with (first
   |(refine⟨trivial,rfl,?_⟩;refine(callsIn_wide.2 (Tryz.slices_Sort_int_none ah 0 W1)).mono ?_;rintro e w' ⟨rfl,rfl⟩)
   |(refine⟨trivial,rfl,?_⟩;refine(callsIn_wide.2 (Tryz.slices_Compact_int_empty ah 0 _)).mono ?_;rintro e w' ⟨rfl,rfl⟩))
  go_ret
  have hz:ls.flatten=[]:=by simpa using re
  have hu:eW ls=[]:=by rw[eW,hz,List.mergeSort_nil,Ta]
  rw[hu];exact⟨⟨we,xY,xZ,aU,hold⟩,.inl ⟨rfl,rfl⟩⟩
 ·generalize sK:ls.flatten=zs at*
  have hH:Holds (atP .i64) W1 b 0 zs.toArray:=by
   intro j hj;have fZ:j<zs.length:=by simpa using hj
   obtain⟨v',T0,UA⟩:=aE j (Ev.iI zs[j]) (by
    have:=Ev.BY (s:=1) (es:=zs.map Ev.iI) (λe he=>by obtain⟨x,_,rfl⟩:=ath.1 he;rfl) (i:=j) (j:=0) (e:=Ev.iI zs[j]) (d:=Ev.iI zs[j]) (by simp[fZ]) rfl;simpa using this)
   cases T0;refine⟨?_,by simp[World.frozen?,hh]⟩;simp only[World.cell?,hh,Nat.zero_add];rw[UA];simp[fZ]
  have Bm:Below w.heap.size w W1:=⟨we,xY,xZ,aU,hold⟩;have hll:(zs.map Ev.iI).length=zs.length:=auk ..
  have hs:=afO w.heap.size b cap zs W1 hH hh hb (by omega);generalize iO:zs.mergeSort (λx y=>decide (x<=y))=ss at*
  have nG:ss.length=zs.length:=by rw[<-iO,awY]
  have Tq:eW ls=auq ss:=by rw[eW,sK,iO]
  have hcp:∀W2 c',Holds (atP .i64) W2 b 0 ss.toArray->W2.heap[b]?=aa (.cells c' el (0,0))->c'.size=c.size->_:=λW2 c' h1 h2 h3=>XK w.heap.size b cap ss W2 h1 h2 hb (by omega) (by omega) (by omega);rw[nG]at hcp;rw[hll]at hE l5⊢
  gi_wp2_with (first
   |(refine⟨trivial,rfl,?_⟩;refine(callsIn_wide.2 hs).mono ?_;rintro e W2 ⟨rfl,hH2,⟨c',tD,gG⟩,JJ⟩)
   |(refine⟨trivial,rfl,?_⟩;refine(callsIn_wide.2 (hcp W2 c' hH2 tD gG)).mono ?_;rintro e W3 ⟨rfl,⟨c3,hh3,hc3,hg3⟩,hB3⟩))
  go_ret
  have hle:=Go.Lib.compact_length_le ss;rw[Tq];have hB:=(Bm.trans JJ).trans hB3;have arc:auq ss≠[]:=Ka λh0=>aW (by rw[h0]at nG;rw[atr nG.symm];rfl);refine⟨⟨hB.os,hB.tape,hB.output,hB.size,hB.block⟩,.inr ⟨by simpa using arc,b,c3,el,cap,hb,by rw[auk];rfl,hh3,by rw[auk];omega,by omega,λk x hx=>?_⟩⟩;rw[U_,List.getElem?_map]at hx;obtain⟨y,hy,rfl⟩:=Option.map_eq_some_iff.1 hx;exact⟨_,rfl,hg3 k y hy⟩
theorem aey:Ev.cP asK 156=1:=by kernel_rfl
theorem ac1:Ev.cP asK 98=1:=by kernel_rfl
open Go.Ev
theorem anp(new:Bool)(ls:List (List Int))(hl:ls.length<=1000)(hf:ls.flatten.length<=100000):CC 1580 new [DJ ls] (iL (eW ls)):=by
 have hF:kb asK (cP asK 156) 156 [DJ ls] ((eW ls).map iI):=by
  rw[aey];exact⟨by omega,vm _,GH _,λM w us hM hr=>arb ls hl hf M w us hM hr⟩
 have h:=nP.fresh (n:=asK.funcs.size) (new:=new) (by rw[dW];decide) hF;rw[dW,aey]at h;unfold CC;rw[dW];exact h
theorem n98:(asK.funcs[98]?).map (·.params.size)=aa 1:=by kernel_rfl
theorem ai1{a:List (List Int)}(x:List Int)(h:a.length+1<=1000000):kq 1 24 (DJ a) (.tree 1 [iL x])=aa (DJ (a++[x])):=by
 have h2:jm 1 [iL x]=ab:=rfl;simp[kq,h2];omega
theorem s98(l:List Fa)(hl:l.length<=100)(hf:(l.map Fa.j).flatten.length<=100000):Sh.sat asK CC (·=iL (eW (l.map Fa.j))) [] [gL l]:=by
 simp only[Sh,oq,SE.den,List.getElem?_cons_zero,Option.bind_some,sD];refine⟨⟨_,rfl⟩,⟨_,rfl⟩,?_⟩;unfold Sg;refine aw l.length (λi (q:List (List Int))=>[iI i,DJ q]) (λi q=>q=(l.take i).map Fa.j) [] ?_ (by simp) λi q hi hq=>?_
 ·simp[SE.den]
 by_cases ai:i<l.length
 ·have hw:=aD ai (by omega);have hc:=ai1 (a:=q) l[i].j (by rw[hq];simp;omega);simp[SE.den,ai,hw,yU ai,aj,cellsOf,hc];exact .mk (q++[l[i].j]) rfl (by omega) (by rw[hq,List.map_take,List.take_succ_eq_append_getElem (by simpa using ai)];simp)
 ·rw[List.take_of_length_le (by omega)]at hq;subst hq;have ard:=anp ab (l.map Fa.j) (by simp;omega) hf;generalize eW (l.map Fa.j)=u at*
  simp[SE.den,ai];refine⟨_,ard,if_pos λx hx y hy=>?_⟩;obtain⟨z,_,rfl⟩:=ath.1 hx;simp[cellsOf]at hy;subst hy;rfl
theorem ac2{ls:List (List Int)}(h:ls.flatten≠[]):eW ls≠[]:=by
 unfold eW;refine Ka λh0=>h ?_;have:=congrArg List.length h0;rw[awY]at this;exact atr this
theorem anq(new:Bool)(l:List Fa)(hl:l.length<=100)(hf:(l.map Fa.j).flatten.length<=100000)(aW:(l.map Fa.j).flatten≠[]):CC 1522 new [gL l] (iL (eW (l.map Fa.j))):=by
 have hF:kb asK (cP asK 98) 98 [gL l] ((eW (l.map Fa.j)).map iI):=
  .oj (nm:=af) mixed wM ano n98 (by simpa using QH l) (by rw[ac1];exact vm _) (GH _) (λ_=>by simpa using ac2 aW) (by rw[ac1];exact s98 l hl hf)
 have h:=nP.fresh (n:=asK.funcs.size) (new:=new) (by rw[dW];decide) hF;rw[dW,ac1]at h;unfold CC;rw[dW];exact h
end Go.Proofs.YtggffkaadeagbaaGreat
namespace Go.Proofs.YtggffkaadeagbaaGreat
open Go Go.Ev
def Iq(e:Int×IV):IV:=.az [iI e.1,e.2]
theorem aez:∀ds:List (Int×IV),oH (ds.map Iq)=oH ((ds.map (·.1)).map na)
 |[]=>rfl
 |d::ds=>by simp only[atJ,oH,Iq,na,aez ds]
def Gd(f:Fa):Prop:=f.j≠[]/\f.j.length<=20
def AE(f:Fa):IV:=.az [iI f.id,ef f]
abbrev DN(fs:List Fa):IV:=.az (fs.map AE)
def ow(c:Int×Int):IV:=.az [iI c.1,iI c.2]
abbrev pK(cs:List (Int×Int)):IV:=.az (cs.map ow)
theorem Kb{rem:List IV}{i:Nat}{y:IV}(h:rem[i]?=aa y):(rem.eraseIdx i).length<rem.length:=by
 have:=(List.getElem?_eq_some_iff.1 h).1;rw[List.length_eraseIdx];simp[this];omega
theorem aaY{rem:List IV}{i:Nat}{y b:IV}(h:rem[i]?=aa y)(hb:b∈rem)(aW:b≠y):b∈rem.eraseIdx i:=by
 obtain⟨k,hk⟩:=List.mem_iff_getElem?.1 hb;refine List.mem_eraseIdx_iff_getElem?.2 ⟨k,λhe=>?_,hk⟩;subst he;rw[h]at hk;cases hk;exact aW rfl
section
variable{K:List (List IV->Prop)}{x0 x1 x2 x3 x4 x5 x6 x7 x8 x9 eD jv jg lz lL rQ qn rR Ag Fp E_ RX Nb Na M_:IV}{Q':IV->Prop}
theorem anr(cs:List (Int×Int)){k0 k1 k2 k3 k4:List IV->Prop}:Sc.sat asK CC (·=iB (decide (∀c∈cs,c.2<=1))) [k0,k1,k2,k3,k4] [x0,x1,x2,x3,x4,x5,x6,x7,x8,x9,eD,jv,jg,lz,pK cs,rQ]:=by
 by_cases bg:∀c∈cs,c.2<=1
 ·rw[decide_eq_true bg];refine xC (λ(a:List IV×List IV)=>[.az (pK cs::.az a.1::a.2)]) (λa=>∀y∈a.1,∃c∈cs,y=ow c) (λa=>a.1.length) (cs.map ow,[]) ?_ ?_ λa hI=>?_
  ·simp[SE.den,iY]
  ·intro y hy;obtain⟨c,hc,rfl⟩:=ath.1 hy;exact⟨c,hc,rfl⟩
  obtain⟨rem,r⟩:=a;refine⟨_,rem,rfl,⟨r,rfl⟩,λhe=>?_,λi y hy=>?_⟩
  ·simp[SE.den]
  ·obtain⟨c,hc,rfl⟩:=hI y (asZ hy);have hle:=bg c hc;refine⟨_,_,rfl,rfl,?_⟩;simp[SE.den,ow,aA];exact⟨hle,.mk (rem.eraseIdx i,[.az [iI c.1,iI c.2]]) (by simp) (λy hy=>by obtain⟨c',h1,h2⟩:=hI y (avE hy);exact⟨c'.1,c'.2,h1,h2⟩) (Kb hy)⟩
 ·rw[decide_eq_false bg];refine xC (λ(a:List IV×List IV)=>[.az (pK cs::.az a.1::a.2)]) (λa=>(∀y∈a.1,∃c∈cs,y=ow c)/\∃c:Int×Int,1<c.2/\ow c∈a.1) (λa=>a.1.length) (cs.map ow,[]) ?_ ?_ λa hI=>?_
  ·simp[SE.den,iY]
  ·refine⟨λy hy=>?_,?_⟩
   ·obtain⟨c,hc,rfl⟩:=ath.1 hy;exact⟨c,hc,rfl⟩
   ·simp only[awe]at bg;obtain⟨c,hc,ai⟩:=bg;exact⟨c,by omega,ath.2 ⟨c,hc,rfl⟩⟩
  obtain⟨rem,r⟩:=a;obtain⟨hI,b,hb,qS⟩:=hI;refine⟨_,rem,rfl,⟨r,rfl⟩,λhe=>?_,λi y hy=>?_⟩
  ·simp only at qS;rw[he]at qS;simp at qS
  ·obtain⟨c,hc,rfl⟩:=hI y (asZ hy);refine⟨_,_,rfl,rfl,?_⟩;simp[SE.den,ow,aA];by_cases hle:1<c.2
   ·left;exact hle
   ·right;refine⟨by omega,.mk (rem.eraseIdx i,[.az [iI c.1,iI c.2]]) (by simp) ⟨λy hy=>by obtain⟨c',h1,h2⟩:=hI y (avE hy);exact⟨c'.1,c'.2,h1,h2⟩,b.1,b.2,hb,?_⟩ (Kb hy)⟩;refine aaY hy qS λhe=>?_;simp[ow]at he;omega
variable{k0 k1 k2 k3 k4 k5:List IV->Prop}
abbrev aP(ds:List De)(rs:List Rl):IV:=.agg [eK ds,yV rs]
abbrev aM(m:Me):IV:=.agg [gL m.facts,gL m.past,Fb m.log,iI m.next,iI m.given]
abbrev aX(x:Ap):IV:=.agg [iI x.rule,iL x.bA,iL x.gone,iL x.made,iB x.failed,iL x.fA]
end
end Go.Proofs.YtggffkaadeagbaaGreat
namespace Go.Proofs.YtggffkaadeagbaaGreat
open Go Go.Ev
section
variable{k0 k1 k2:List IV->Prop}{x0 x1 x2 x3 x4 x5 x6 x7 x8 eD:IV}
end
theorem n13:(asK.funcs[13]?).map (·.params.size)=aa 2:=by kernel_rfl
theorem t13(z:IV):aO asK 13 z=ab:=by kernel_rfl
end Go.Proofs.YtggffkaadeagbaaGreat
