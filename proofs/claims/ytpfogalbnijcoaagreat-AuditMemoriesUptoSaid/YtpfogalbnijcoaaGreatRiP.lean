/- A part of the proof, no condition: Right of the program comes to an end. -/
import Derived.Test.YtpfogalbnijcoaaGreatEvJ
import Derived.Test.YtpfogalbnijcoaaGreatRuA
import Derived.Test.YtpfogalbnijcoaaGreatEvP
import Derived.Test.YtpfogalbnijcoaaGreatRiM
open Go.Proofs.Tryz renaming prog->ar1
open Go.Lib renaming compact->atE,compactUpTo_succ->avU
open List renaming map_cons->asZ,mem_map->asv,length_map->aty,length_mergeSort->awd,eq_nil_of_length_eq_zero->asF,mem_of_getElem?->ash,mem_of_mem_eraseIdx->auX
open Go.Value renaming int->as6
open Classical renaming not_forall->axL
open Option renaming some->aa,none->ah
open Bool renaming true->ab,false->af
set_option linter.all false
namespace Go.Proofs.YtpfogalbnijcoaaGreat
open Go Go.Ev
def UC:List Nat:=[209,280,208,250,295,22,23,8,49,4,9,272,199,118,198,240,197,241,62,249,122,206,61,202,101,123,125,177,248,124,205,59,119,63,244,203,243,242,201,245,200,246,204,120,36,68,64,126,207,33,17,66,35,34,60,65,37,55,235,180,105,230,107,24,10,25,51,50,106,54,186,53,256,257,108,52,134,227,110,281,279,187,29,234,260]
def UD:List Nat:=[27,102,178,277]
def UE:List Nat:=[238]
def UF:List Nat:=[205,189,111,224000102,500182,500183,500056,600057,500117,500058]
def Rr:ak:=
 (tR jK 13 (.len (oV 12 0)) (FQ (oV 12 0) ve (w6 3 oN (tN (oV 12 0) 13) .an (wQ 3 13 15))) (wQ 2 10 14))
def Rt:ak:=
 (yv 25 wU 1 (rG 15) 25 (jU 26 (.bind (.sx 4 (.get 3 rD (gC 26) (tU dg zQ rE e_))) (Cb 3 rD (gC 26) (wS (.var 28) jL (qL 29 (tJ 27 3 15 5) (lP 29 29 jL 6 25)))))) (tQ 4))
def Ru:ak:=
 (yv 25 wU 1 (rG 15) 25 (jU 26 (.bind (.sx 4 (.get 3 rD (gC 26) (tU dg zQ rE e_))) (Cb 3 rD (gC 26) (wS (.var 28) jL (qL 29 (tJ 27 3 15 5) (lP 29 29 jL 6 25)))))) (tQ 4))
def Rw:ak:=
 (lN rE 18 zG 1 (jI 15) 18 (jU 20 (.bind (.sx 4 (.get 3 rD (gC 20) (tU dg zQ rE e_))) (Cb 3 rD (gC 20) (wS BZ jL (tP 4 72 19 4 (iK 21 21 21 21) (wQ 5 18 23)))))) (lZ 16 1 (yu 1 (jI 15) FN zG (oM 29 (rq 15) (.var 20) (Aq 21 21 jL (qL 2319 (Ek jK 15 2 .an) (wS BZ jL (qL 1566 (mN 19) (oM 29 (vU 15 5) BY (Aq 24 24 jL (FP 15 (rK wU wU 0 jL (rK wU wU 12 jL (lZ 15 3 Rt))) (rK wU wU 12 jL (lZ 15 3 Ru)))))))))))))
def Rx:ak:=
 (lN oN 19 wU 1 (rG 15) 19 (jU 21 (.bind (qa (.get 3 (.var 20) (gC 21) (.k .i64 0))) (u_ 22 (w6 3 (.var 20) (gC 21) (rz 22) (wQ 5 19 23))))) (zM 3 12 (.var 18) (.var 20)))
def Ry:ak:=
 (lN ve 17 (gM 15) 1 (rq 15) 17 (jU 19 (.bind (qa (.get 3 (.var 18) (gC 19) (.k .i64 0))) (u_ 20 (w6 3 (.var 18) (gC 19) (rz 20) (wQ 4 17 21))))) (lZ 15 3 Rx))
def Rz:ak:=
 (vc (uN .lss 15 0 0 jL (lM gi .geq (fe 15) gi jL (vV 6 my (fe 15) (jW 6 16 zG (fK FN (gM 16) (lM (mz FN (gM 16)) .neq zG (mz FN (gM 16)) jL (qL 1941 (qN 15 1) (.bj (.dec 9 (.var 17) pC) (lM zG .neq (.dec 9 (.var 17) pC) zG jL (lZ 15 1 Rw)))))))))) (.var 16) aU (lZ 15 2 Ry))
def RA:ak:=
 (V6 (Pd oN oN) (.pick oN (.var 16) iF (.same oN (.var 18) (.bj (qa (.proj (An 18 2) 0)) (fD (qa (.proj (An 18 2) 1)) (qa (.proj (An 18 2) 1)) 1 (zE 5 18))))))
def RB:ak:=
 (V6 (Pd jK jK) (.pick jK (.var 15) (.bj (.dec 9 oN pC) (.uniq RA)) (.same jK (.var 17) (fK (qa (.proj (An 17 2) 0)) (.sx 0 (.proj (An 17 2) 1)) (.bind (qa (.get 3 ve (qa (.proj (An 17 2) 0)) (.k .i64 0))) (.nt (Ao .neq 18 1) aU (zE 4 17)))))))
def RC:ak:=
 (.loop (zA dg BX (mM BX)) (Ks 12 gq (lh 6 2 12 6 15 Rz) (.bj (.dec 9 jK pC) (.uniq RB))))
def M0:ak:=
 (lN BX 10 k_ 4 wV 10 (jW 4 12 (.rw (fe 12)) (.bj (.len (oV 12 0)) Rr)) (fE 2 RC))
def M1:ak:=
 (.loop (tU dg dg Ej ej) (V7 6 k_ 4 wV 6 (lM (jt 4 10) .leq FU mB aU (.nt (wR .geq FU zH) aU (ly 25 (zA rL (iK 10 10 10 10) (qN 1 4)) (kh 11 11 (.bind (.sx 4 (.get 3 rD FU (tU dg zQ rE e_))) (Cb 3 rD FU (.test ve aU (w6 3 rD FU (iK 10 10 10 10) (NF 1 6 (zA FU pC (mN 14))))))))))) (fE 1 M0)))
def M3:ak:=
 (.loop (zA dg dg (mM BX)) (V7 3 vi 4 Cc 3 (lM (jt 4 6) .leq vj oP aU (.nt (wR .geq vj zH) aU (ly 25 (zA rL (iK 6 6 6 6) (qN 1 4)) (kh 7 7 (.bind (.sx 4 (.get 3 ej vj (tU dg zQ rE e_))) (Cb 3 ej vj (.test rD aU (w6 3 ej vj (iK 6 6 6 6) (zM 0 3 vj jj))))))))) (fE 1 M1)))
def RD:ak:=
 (xh 2 0 5 1 (mA 24 0 0 0 1 (mq dq (BQ .neq 70 dq 0) aU (tM .lss 1 3 1 aU .gtr 1 3 2147483648 aU (tM .lss 1 4 0 aU .gtr 1 4 64 aU (fK vi k_ (fK (mz vi k_) gq (fD (qa (.mx ab (mz vi k_) gq)) (qa (.mx ab (mz vi k_) gq)) 5000 (fE 0 M3)))))))))
def ah7:bg:=⟨UC,UD,UE,[⟨0,10,30,[(0,(131,0))],[(5,0),(4,0)],[],[]⟩,⟨0,10,40,[(0,(156,0))],[(5,0)],[],[]⟩,⟨0,10,35,[(0,(144,0))],[(4,0)],[],[]⟩,⟨1,10140,8,[(1,(10,0)),(1,(60,0))],[(11,3),(11,0)],[],[]⟩,⟨0,10,24,[(0,(116,0))],[(3,0)],[],[]⟩,⟨0,10,46,[],[(6,0)],[],[]⟩,⟨0,10,51,[],[(7,0)],[],[]⟩,⟨0,10,1000139,[(0,(139,0))],[],[],[]⟩,⟨1,10140,18,[(1,(121,0))],[],[],[]⟩,⟨1,10125,1,[(1,(8,0))],[(3,0)],[],[]⟩,⟨0,10,11,[(0,(74,0)),(0,(8,0)),(0,(73,0))],[(2,0)],[],[]⟩,⟨999999,0,0,[],[],[],[]⟩],UF⟩
theorem amk:aK ar1 ah7 400 af 10=RD:=by kernel_rfl
def RE:ak:=
 (tR e_ 1 cb (qf 4 1 4 3 (l5 1 24 2 (oV 3 3) (oU 1 4))) (qL 1625 (mN 2) (zF qc)))
def RF:ak:=
 (w7 RE)
def ah8:bg:=⟨UC,UD,UE,[⟨0,58,3,[(0,(3,0)),(0,(7,0))],[(0,3),(0,0)],[],[]⟩,⟨999999,0,0,[],[],[],[]⟩],UF⟩
theorem aml:pK ar1 ah8 400 af 58=RF:=by kernel_rfl
end Go.Proofs.YtpfogalbnijcoaaGreat
namespace Go.Proofs.YtpfogalbnijcoaaGreat
open Go Go.RowKit Go.Shelf Go.Sort
attribute [local go_sem] Oper.semAt_some
theorem JI{zs:List Int}(h:zs≠[]):atE zs≠[]:=by
 unfold atE
 have key:∀m,0<(Go.Lib.compactUpTo zs.toArray (m+1)).length:=by
  intro m;induction m with
  |zero=>rw[avU];simp[Go.Lib.keeps]
  |succ m ih=>rw[avU,List.length_append];omega
 obtain⟨x,l,rfl⟩:=List.exists_cons_of_ne_nil h;intro h0;have:=key l.length;rw[show l.length+1=(x::l).length from rfl,h0]at this;simp at this
theorem UG:∀l:List Int,Ev.flat (l.map Ev.iI)=l.map Ev.iI
 |[]=>rfl
 |x::l=>by
  have:=UG l;unfold Ev.flat at this⊢;rw[asZ,List.flatMap_cons,this];rfl
set_option maxRecDepth 100000 in
set_option maxHeartbeats 2000000 in
theorem ap7(ls:List (List Int))(hl:ls.length<=1000)(hf:ls.flatten.length<=100000)(M:Ev.Fz)(w:World)(us:List Value)(hM:Ev.ur M w)(lF:Ev.aC (Ev.ew M) [Dj ls] us):CallsIn Fence.wide 0 ar1 117 us.toArray w (Ev.agu w 1 ((eO ls).map Ev.iI)):=by
 have ah9:=(f207 ls hl hf).2.2.2 M w us hM lF;obtain⟨v,ph,rfl,h1,h2⟩:=lF.sS;obtain rfl:=h2.of_nil;refine callsIn_of_wp Tryz.func117 rfl trivial ?_ rfl;simp only[Tryz.ntmps117,List.size_toArray,List.length_cons,List.length_nil,Nat.reduceAdd,Nat.reduceSub,Array.replicate_succ,Array.replicate_zero,List.push_toArray,List.append_toArray,List.nil_append,List.cons_append]
 gi_wp2_with (refine⟨trivial,rfl,?_⟩;refine ah9.mono ?_;rintro e W1 hE;obtain⟨u,rfl,er⟩:∃u,e=.returned u/\Ev.agt w 1 (ls.flatten.map Ev.iI) u W1:=(by cases e<;>first|exact⟨_,rfl,hE⟩|exact hE.elim))
 clear ah9;obtain⟨⟨vJ,xK,xL,aT,hold⟩,⟨qG,rfl⟩|⟨aZ,b,c,el,cap,hb,rfl,hh,lD,bH,aE⟩⟩:=er
 ·have Bg:Below w.heap.size w W1:=⟨vJ,xK,xL,aT,hold⟩
  gi_wp2_with (first
   |(refine⟨trivial,rfl,?_⟩;refine(callsIn_wide.2 (Tryz.slices_Sort_int_none ah 0 W1)).mono ?_;rintro e w' ⟨rfl,rfl⟩)
   |(refine⟨trivial,rfl,?_⟩;refine(callsIn_wide.2 (Tryz.slices_Compact_int_empty ah 0 _)).mono ?_;rintro e w' ⟨rfl,rfl⟩))
  go_ret
  have hz:ls.flatten=[]:=by simpa using qG
  have hu:eO ls=[]:=by rw[eO,hz,List.mergeSort_nil,SL]
  rw[hu];exact⟨⟨vJ,xK,xL,aT,hold⟩,.inl ⟨rfl,rfl⟩⟩
 ·generalize sj:ls.flatten=zs at*
  have hH:Holds (as6 .i64) W1 b 0 zs.toArray:=by
   intro j hj;have fO:j<zs.length:=by simpa using hj
   obtain⟨v',TC,Ub⟩:=aE j (Ev.iI zs[j]) (by
    have:=Ev.BN (s:=1) (es:=zs.map Ev.iI) (λe he=>by obtain⟨x,_,rfl⟩:=asv.1 he;rfl) (i:=j) (j:=0) (e:=Ev.iI zs[j]) (d:=Ev.iI zs[j]) (by simp[fO]) rfl;simpa using this)
   cases TC;refine⟨?_,by simp[World.frozen?,hh]⟩;simp only[World.cell?,hh,Nat.zero_add];rw[Ub];simp[fO]
  have Bg:Below w.heap.size w W1:=⟨vJ,xK,xL,aT,hold⟩;have Z_:(zs.map Ev.iI).length=zs.length:=aty ..
  have hs:=ae5 w.heap.size b cap zs W1 hH hh hb (by omega);generalize ir:zs.mergeSort (λx y=>decide (x<=y))=ss at*
  have oH:ss.length=zs.length:=by rw[<-ir,awd]
  have S3:eO ls=atE ss:=by rw[eO,sj,ir]
  have hcp:∀W2 c',Holds (as6 .i64) W2 b 0 ss.toArray->W2.heap[b]?=aa (.cells c' el (0,0))->c'.size=c.size->_:=λW2 c' h1 h2 h3=>W6 w.heap.size b cap ss W2 h1 h2 hb (by omega) (by omega) (by omega);rw[oH]at hcp;rw[Z_]at hE lD⊢
  gi_wp2_with (first
   |(refine⟨trivial,rfl,?_⟩;refine(callsIn_wide.2 hs).mono ?_;rintro e W2 ⟨rfl,hH2,⟨c',s8,gy⟩,Jh⟩)
   |(refine⟨trivial,rfl,?_⟩;refine(callsIn_wide.2 (hcp W2 c' hH2 s8 gy)).mono ?_;rintro e W3 ⟨rfl,⟨c3,hh3,hc3,hg3⟩,hB3⟩))
  go_ret
  have hle:=Go.Lib.compact_length_le ss;rw[S3];have hB:=(Bg.trans Jh).trans hB3;have ap8:atE ss≠[]:=JI λh0=>aZ (by rw[h0]at oH;rw[asF oH.symm];rfl);refine⟨⟨hB.os,hB.tape,hB.output,hB.size,hB.block⟩,.inr ⟨by simpa using ap8,b,c3,el,cap,hb,by rw[aty];rfl,hh3,by rw[aty];omega,by omega,λk x hx=>?_⟩⟩;rw[UG,List.getElem?_map]at hx;obtain⟨y,hy,rfl⟩:=Option.map_eq_some_iff.1 hx;exact⟨_,rfl,hg3 k y hy⟩
theorem adL:Ev.cK ar1 117=1:=by kernel_rfl
theorem ace:Ev.cK ar1 58=1:=by kernel_rfl
open Go.Ev
theorem amm(new:Bool)(ls:List (List Int))(hl:ls.length<=1000)(hf:ls.flatten.length<=100000):CC 1625 new [Dj ls] (iL (eO ls)):=by
 have hF:jR ar1 (cK ar1 117) 117 [Dj ls] ((eO ls).map iI):=by
  rw[adL];exact⟨by omega,uT _,Ge _,λM w us hM hr=>ap7 ls hl hf M w us hM hr⟩
 have h:=ni.fresh (n:=ar1.funcs.size) (new:=new) (by rw[dP];decide) hF;rw[dP,adL]at h;unfold CC;rw[dP];exact h
theorem n98:(ar1.funcs[58]?).map (·.params.size)=aa 1:=by kernel_rfl
theorem ah_{a:List (List Int)}(x:List Int)(h:a.length+1<=1000000):j2 1 24 (Dj a) (.tree 1 [iL x])=aa (Dj (a++[x])):=by
 have h2:i_ 1 [iL x]=ab:=rfl;simp[j2,h2];omega
theorem s98(l:List Fa)(hl:l.length<=100)(hf:(l.map Fa.j).flatten.length<=100000):RF.sat ar1 CC (·=iL (eO (l.map Fa.j))) [] [iv l]:=by
 simp only[RF,nP,SE.den,List.getElem?_cons_zero,Option.bind_some,r8];refine⟨⟨_,rfl⟩,⟨_,rfl⟩,?_⟩;unfold RE;refine aw l.length (λi (q:List (List Int))=>[iI i,Dj q]) (λi q=>q=(l.take i).map Fa.j) [] ?_ (by simp) λi q hi hq=>?_
 ·simp[SE.den]
 by_cases ai:i<l.length
 ·have hw:=aD ai (by omega);have hc:=ah_ (a:=q) l[i].j (by rw[hq];simp;omega);simp[SE.den,ai,hw,yL ai,aj,cellsOf,hc];exact .mk (q++[l[i].j]) rfl (by omega) (by rw[hq,List.map_take,List.take_succ_eq_append_getElem (by simpa using ai)];simp)
 ·rw[List.take_of_length_le (by omega)]at hq;subst hq;have ap9:=amm ab (l.map Fa.j) (by simp;omega) hf;generalize eO (l.map Fa.j)=u at*
  simp[SE.den,ai];refine⟨_,ap9,if_pos λx hx y hy=>?_⟩;obtain⟨z,_,rfl⟩:=asv.1 hx;simp[cellsOf]at hy;subst hy;rfl
theorem acf{ls:List (List Int)}(h:ls.flatten≠[]):eO ls≠[]:=by
 unfold eO;refine JI λh0=>h ?_;have:=congrArg List.length h0;rw[awd]at this;exact asF this
theorem amn(new:Bool)(l:List Fa)(hl:l.length<=100)(hf:(l.map Fa.j).flatten.length<=100000)(aZ:(l.map Fa.j).flatten≠[]):CC 1566 new [iv l] (iL (eO (l.map Fa.j))):=by
 have hF:jR ar1 (cK ar1 58) 58 [iv l] ((eO (l.map Fa.j)).map iI):=
  .nN (nm:=af) mixed wu aml n98 (by simpa using Qd l) (by rw[ace];exact uT _) (Ge _) (λ_=>by simpa using acf aZ) (by rw[ace];exact s98 l hl hf)
 have h:=ni.fresh (n:=ar1.funcs.size) (new:=new) (by rw[dP];decide) hF;rw[dP,ace]at h;unfold CC;rw[dP];exact h
end Go.Proofs.YtpfogalbnijcoaaGreat
namespace Go.Proofs.YtpfogalbnijcoaaGreat
open Go Go.Ev
def HT(e:Int×IV):IV:=.az [iI e.1,e.2]
theorem adM:∀ds:List (Int×IV),n_ (ds.map HT)=n_ ((ds.map (·.1)).map mF)
 |[]=>rfl
 |d::ds=>by simp only[asZ,n_,HT,mF,adM ds]
def Gd(f:Fa):Prop:=f.j≠[]/\f.j.length<=20
def Ay(f:Fa):IV:=.az [iI f.id,eX f]
abbrev Dl(fs:List Fa):IV:=.az (fs.map Ay)
def nR(c:Int×Int):IV:=.az [iI c.1,iI c.2]
abbrev o9(cs:List (Int×Int)):IV:=.az (cs.map nR)
theorem JJ{rem:List IV}{i:Nat}{y:IV}(h:rem[i]?=aa y):(rem.eraseIdx i).length<rem.length:=by
 have:=(List.getElem?_eq_some_iff.1 h).1;rw[List.length_eraseIdx];simp[this];omega
theorem aaa{rem:List IV}{i:Nat}{y b:IV}(h:rem[i]?=aa y)(hb:b∈rem)(aZ:b≠y):b∈rem.eraseIdx i:=by
 obtain⟨k,hk⟩:=List.mem_iff_getElem?.1 hb;refine List.mem_eraseIdx_iff_getElem?.2 ⟨k,λhe=>?_,hk⟩;subst he;rw[h]at hk;cases hk;exact aZ rfl
section
variable{K:List (List IV->Prop)}{x0 x1 x2 x3 x4 x5 x6 x7 x8 x9 ek jf iU kV lk rh pU ri Ab EY EH Rq Mx Mw Mv:IV}{Q':IV->Prop}
theorem amo(cs:List (Int×Int)){k0 k1 k2 k3 k4:List IV->Prop}:RA.sat ar1 CC (·=iB (decide (∀c∈cs,c.2<=1))) [k0,k1,k2,k3,k4] [x0,x1,x2,x3,x4,x5,x6,x7,x8,x9,ek,jf,iU,kV,o9 cs,rh]:=by
 by_cases bz:∀c∈cs,c.2<=1
 ·rw[decide_eq_true bz];refine xn (λ(a:List IV×List IV)=>[.az (o9 cs::.az a.1::a.2)]) (λa=>∀y∈a.1,∃c∈cs,y=nR c) (λa=>a.1.length) (cs.map nR,[]) ?_ ?_ λa hI=>?_
  ·simp[SE.den,iE]
  ·intro y hy;obtain⟨c,hc,rfl⟩:=asv.1 hy;exact⟨c,hc,rfl⟩
  obtain⟨rem,r⟩:=a;refine⟨_,rem,rfl,⟨r,rfl⟩,λhe=>?_,λi y hy=>?_⟩
  ·simp[SE.den]
  ·obtain⟨c,hc,rfl⟩:=hI y (ash hy);have hle:=bz c hc;refine⟨_,_,rfl,rfl,?_⟩;simp[SE.den,nR,aA];exact⟨hle,.mk (rem.eraseIdx i,[.az [iI c.1,iI c.2]]) (by simp) (λy hy=>by obtain⟨c',h1,h2⟩:=hI y (auX hy);exact⟨c'.1,c'.2,h1,h2⟩) (JJ hy)⟩
 ·rw[decide_eq_false bz];refine xn (λ(a:List IV×List IV)=>[.az (o9 cs::.az a.1::a.2)]) (λa=>(∀y∈a.1,∃c∈cs,y=nR c)/\∃c:Int×Int,1<c.2/\nR c∈a.1) (λa=>a.1.length) (cs.map nR,[]) ?_ ?_ λa hI=>?_
  ·simp[SE.den,iE]
  ·refine⟨λy hy=>?_,?_⟩
   ·obtain⟨c,hc,rfl⟩:=asv.1 hy;exact⟨c,hc,rfl⟩
   ·simp only[axL]at bz;obtain⟨c,hc,ai⟩:=bz;exact⟨c,by omega,asv.2 ⟨c,hc,rfl⟩⟩
  obtain⟨rem,r⟩:=a;obtain⟨hI,b,hb,qu⟩:=hI;refine⟨_,rem,rfl,⟨r,rfl⟩,λhe=>?_,λi y hy=>?_⟩
  ·simp only at qu;rw[he]at qu;simp at qu
  ·obtain⟨c,hc,rfl⟩:=hI y (ash hy);refine⟨_,_,rfl,rfl,?_⟩;simp[SE.den,nR,aA];by_cases hle:1<c.2
   ·left;exact hle
   ·right;refine⟨by omega,.mk (rem.eraseIdx i,[.az [iI c.1,iI c.2]]) (by simp) ⟨λy hy=>by obtain⟨c',h1,h2⟩:=hI y (auX hy);exact⟨c'.1,c'.2,h1,h2⟩,b.1,b.2,hb,?_⟩ (JJ hy)⟩;refine aaa hy qu λhe=>?_;simp[nR]at he;omega
variable{k0 k1 k2 k3 k4 k5:List IV->Prop}
abbrev aP(ds:List De)(rs:List Rl):IV:=.agg [eo ds,nj rs]
abbrev aM(m:Me):IV:=.agg [iv m.facts,iv m.past,mu m.log,iI m.next,iI m.given]
abbrev aX(x:Ap):IV:=.agg [iI x.rule,iL x.aW,iL x.gone,iL x.made,iB x.failed,iL x.ff]
end
end Go.Proofs.YtpfogalbnijcoaaGreat
namespace Go.Proofs.YtpfogalbnijcoaaGreat
open Go Go.Ev
section
variable{k0 k1 k2:List IV->Prop}{x0 x1 x2 x3 x4 x5 x6 x7 x8 ek:IV}
end
theorem n13:(ar1.funcs[10]?).map (·.params.size)=aa 2:=by kernel_rfl
theorem t13(z:IV):aQ ar1 10 z=ab:=by kernel_rfl
end Go.Proofs.YtpfogalbnijcoaaGreat
