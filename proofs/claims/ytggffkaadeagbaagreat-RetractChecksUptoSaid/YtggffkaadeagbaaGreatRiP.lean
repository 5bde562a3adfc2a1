/- A part of the proof, no condition: Right of the program comes to an end. -/
import Derived.Test.YtggffkaadeagbaaGreatEvJ
import Derived.Test.YtggffkaadeagbaaGreatRuA
import Derived.Test.YtggffkaadeagbaaGreatEvP
import Derived.Test.YtggffkaadeagbaaGreatRiM
open Go.Proofs.Tryz renaming prog->aqD
open Go.Lib renaming compact->asd,compactUpTo_succ->auz
open List renaming map_cons->arC,mem_map->aq5,length_map->ar8,length_mergeSort->auS,eq_nil_of_length_eq_zero->arf,mem_of_getElem?->aqS,mem_of_mem_eraseIdx->atx
open Go.Value renaming int->arG
open Classical renaming not_forall->awo
set_option linter.all false
namespace Go.Proofs.YtggffkaadeagbaaGreat
open Go Go.Ev
def TU:List Nat:=[123,127,126,186,189,44,79,30,102,9,10,23,31,15,257,149,89,148,198,147,199,50,191,71,214,93,163,49,152,64,164,158,95,108,206,250,213,130,131,107,129,155,34,90,51,202,153,201,200,151,203,150,204,154,91,41,67,101,99,109,157,210,12,26,28,25,14,19,100,40,39,70,69,35,53,52,68,42,58,96,75,211,136,83,192,85,11,24,27,22,13,29,61,36,33,32,84,47,143,46,190,66,87,45,138,133,88,128,249,121,78,183,256,16,17]
def TV:List Nat:=[38,48,80,118,134,216]
def TX:List Nat:=[185,188,254]
def TY:List Nat:=[155,159,103,173000080,500139,500140,500097,600086,500156,500098]
def QN:ab:=
 (JU jz (DC 3 13 (.len (oC 12 0)) (Ff (oC 12 0) uC (wg 3 pN (tb (oC 12 0) 13) .an (AV 3 13 15))) (AV 2 10 14)))
def QO:ab:=
 (s7 25 qV 1 (ju 15 3) 25 (eZ 26 (.bind (.rM 4 (.get 3 qU (gL 26) (uM cH yC sW eW))) (Bm 3 qU (gL 26) (Bc 28 kM (gZ 78 (oW 27 3 15 5) (my 29 29 kM 6 25)))))) (ti 4))
def QP:ab:=
 (s7 25 qV 1 (ju 15 3) 25 (eZ 26 (.bind (.rM 4 (.get 3 qU (gL 26) (uM cH yC sW eW))) (Bm 3 qU (gL 26) (Bc 28 kM (gZ 78 (oW 27 3 15 5) (my 29 29 kM 6 25)))))) (ti 4))
def QR:ab:=
 (gE sW 18 v_ 1 (i_ 15) 18 (eZ 20 (.bind (.rM 4 (.get 3 qU (gL 20) (uM cH yC sW eW))) (Bm 3 qU (gL 20) (Bc 22 kM (s_ 4 72 19 4 (kO 21 21 21 21) (AV 5 18 23)))))) (.aQ A9 (tf (i_ 15) A9 v_ (uH 78 (uN 15) (.var 20) (qp 21 21 kM (gZ 2222 (ub jz 15 2 .an) (Bc 22 kM (gZ 1522 (rq 19) (uH 78 (ju 15 5) (.var 23) (qp 24 24 kM (.test (ju 15 4) (we qV .gtr qV kM (AW qV qV 12 kM (.aQ qV QO))) (AW qV qV 12 kM (.aQ qV QP)))))))))))))
def QS:ab:=
 (gE pN 19 qV 1 (ju 15 3) 19 (eZ 21 (.bind (pQ (.get 3 (.var 20) (gL 21) (.k .i64 0))) (A5 22 (wg 3 (.var 20) (gL 21) (vY 22) (AV 5 19 23))))) (Bp 3 12 18 (.var 20)))
def QT:ab:=
 (gE uC 17 (fB 15) 1 (uN 15) 17 (eZ 19 (.bind (pQ (.get 3 (.var 18) (gL 19) (.k .i64 0))) (A5 20 (wg 3 (.var 18) (gL 19) (vY 20) (AV 4 17 21))))) (.aQ qV QS))
def QU:ab:=
 (.kz (lE .lss 15 0 kM (rp fc .geq (dR 15) fc kM (DA 6 ng (dR 15) (mw 6 16 v_ (dI A9 (fB 16) (rp (qS A9 (fB 16)) .neq v_ (qS A9 (fB 16)) kM (gZ 1877 (DF 15 1) (.aQ (.dec 9 (.var 17) kZ) (rp v_ .neq (.dec 9 (.var 17) kZ) v_ kM (.aQ v_ QR)))))))))) 1 (Bc 16 a_ (.aQ (fB 15) QT)))
def QV:ab:=
 (.loop (jf (.tp (yA 14 pN))) (.pick pN (.var 16) uc (.same pN (.var 18) (.aQ (pQ (.proj (zm 18 2) 0)) (fe (pQ (.proj (zm 18 2) 1)) (pQ (.proj (zm 18 2) 1)) 1 (.next 5 (rq 18)))))))
def QW:ab:=
 (.loop (jf (.tp (vw jz jz))) (.pick jz (.var 15) (.aQ (.dec 9 pN kZ) (.uniq QV)) (.same jz (.var 17) (dI (pQ (.proj (zm 17 2) 0)) (.rM 0 (.proj (zm 17 2) 1)) (.bind (pQ (.get 3 uC (pQ (.proj (zm 17 2) 0)) (.k .i64 0))) (.nt (U8 .neq 18) a_ (.next 4 (rq 17))))))))
def QX:ab:=
 (.loop (M8 cH Bb Bb) (OC 3 12 jA 6 yF 12 (lO 6 15 QU) (.aQ (.dec 9 jz kZ) (.uniq QW))))
def Mr:ab:=
 (gE Bb 10 ou 4 qW 10 (mw 4 12 (.rw (dR 12)) (.aQ (.len (oC 12 0)) QN)) (sZ 2 QX))
def Ms:ab:=
 (.loop (U7 cH (vw Dz dP)) (OC 3 6 ou 4 qW 6 (ov (tz 10) .leq (dR 10) Bo (OF .geq 10 0 pL a_ (Fc 36 (Cu nf (kO 10 10 10 10) (DF 1 4)) 11 11 (.bind (.rM 4 (.get 3 qU (dR 10) (uM cH yC sW eW))) (Bm 3 qU (dR 10) (.test uC a_ (wg 3 qU (dR 10) (kO 10 10 10 10) (GQ 1 6 (Cu (dR 10) kZ (rq 14)))))))))) (sZ 1 Mr)))
def Mu:ab:=
 (.loop (U7 cH (jf Bb)) (OC 3 3 E4 4 A6 3 (ov (tz 6) .leq Ba q3 (OF .geq 6 0 pL a_ (Fc 36 (Cu nf (kO 6 6 6 6) (DF 1 4)) 7 7 (.bind (.rM 4 (.get 3 dP Ba (uM cH yC sW eW))) (Bm 3 dP Ba (.test qU a_ (wg 3 dP Ba (kO 6 6 6 6) (GQ 0 3 (vw Ba iZ))))))))) (sZ 1 Ms)))
def QY:ab:=
 (Bl 5 (kB 11 nf (yN dQ 31 dQ a_ (jS .lss 1 3 1 a_ (jS .gtr 1 3 2147483648 a_ (lE .lss 1 4 a_ (jS .gtr 1 4 64 a_ (dI E4 ou (dI H8 jA (fe (pQ (.mx true H8 jA)) (pQ (.mx true H8 jA)) 5000 (sZ 0 Mu)))))))))))
def ahd:bj:=⟨TU,TV,TX,[⟨0,13,30,[(0,(131,0))],[(5,0),(4,0)],[],[]⟩,⟨0,13,40,[(0,(156,0))],[(5,0)],[],[]⟩,⟨0,13,35,[(0,(144,0))],[(4,0)],[],[]⟩,⟨1,13140,8,[(1,(10,0)),(1,(60,0))],[(11,3),(11,0)],[],[]⟩,⟨0,13,24,[(0,(116,0))],[(3,0)],[],[]⟩,⟨0,13,46,[],[(6,0)],[],[]⟩,⟨0,13,51,[],[(7,0)],[],[]⟩,⟨0,13,1000139,[(0,(139,0))],[],[],[]⟩,⟨1,13140,18,[(1,(121,0))],[],[],[]⟩,⟨1,13125,1,[(1,(8,0))],[(3,0)],[],[]⟩,⟨0,13,11,[(0,(74,0)),(0,(8,0)),(0,(73,0))],[(2,0)],[],[]⟩,⟨999999,0,0,[],[],[],[]⟩],TY⟩
theorem alx:aI aqD ahd 400 false 13=QY:=by kernel_rfl
def QZ:ab:=
 (gE eW 1 cj 4 bt 1 (q5 3 (lP 1 24 2 (oC 3 3) (kQ 1 4))) (gZ 1580 (rq 2) (yH pR)))
def Q0:ab:=
 (wh QZ)
def ahe:bj:=⟨TU,TV,TX,[⟨0,98,3,[(0,(3,0)),(0,(7,0))],[(0,3),(0,0)],[],[]⟩,⟨999999,0,0,[],[],[],[]⟩],TY⟩
theorem aly:pd aqD ahe 400 false 98=Q0:=by kernel_rfl
end Go.Proofs.YtggffkaadeagbaaGreat
namespace Go.Proofs.YtggffkaadeagbaaGreat
open Go Go.RowKit Go.Shelf Go.Sort
attribute [local go_sem] Oper.semAt_some
theorem I9{zs:List Int}(h:zs≠[]):asd zs≠[]:=by
 unfold asd
 have key:∀m,0<(Go.Lib.compactUpTo zs.toArray (m+1)).length:=by
  intro m;induction m with
  |zero=>rw[auz];simp[Go.Lib.keeps]
  |succ m ih=>rw[auz,List.length_append];omega
 obtain⟨x,l,rfl⟩:=List.exists_cons_of_ne_nil h;intro h0;have:=key l.length;rw[show l.length+1=(x::l).length from rfl,h0]at this;simp at this
theorem TZ:∀l:List Int,Ev.flat (l.map Ev.iI)=l.map Ev.iI
 |[]=>rfl
 |x::l=>by
  have:=TZ l;unfold Ev.flat at this⊢;rw[arC,List.flatMap_cons,this];rfl
set_option maxRecDepth 100000 in
set_option maxHeartbeats 2000000 in
theorem ao7(ls:List (List Int))(hl:ls.length≤1000)(hf:ls.flatten.length≤100000)(M:Ev.Fz)(w:World)(us:List Value)(hM:Ev.tK M w)(lq:Ev.ax (Ev.eo M) [Cz ls] us):CallsIn Fence.wide 0 aqD 156 us.toArray w (Ev.afy w 1 ((eJ ls).map Ev.iI)):=by
 have ahf:=(f207 ls hl hf).2.2.2 M w us hM lq;obtain⟨v,oM,rfl,h1,h2⟩:=lq.sb;obtain rfl:=h2.of_nil;refine callsIn_of_wp Tryz.func156 rfl trivial ?_ rfl;simp only[Tryz.ntmps156,List.size_toArray,List.length_cons,List.length_nil,Nat.reduceAdd,Nat.reduceSub,Array.replicate_succ,Array.replicate_zero,List.push_toArray,List.append_toArray,List.nil_append,List.cons_append]
 gi_wp2_with (refine⟨trivial,rfl,?_⟩;refine ahf.mono ?_;rintro e W1 hE;obtain⟨u,rfl,ej⟩:∃u,e=.returned u∧Ev.afx w 1 (ls.flatten.map Ev.iI) u W1:=(by cases e<;>first|exact⟨_,rfl,hE⟩|exact hE.elim))
 clear ahf;obtain⟨⟨uZ,wS,wT,aL,hold⟩,⟨qg,rfl⟩|⟨aT,b,c,el,cap,hb,rfl,hh,ll,bC,aA⟩⟩:=ej
 ·have Ah:Below w.heap.size w W1:=⟨uZ,wS,wT,aL,hold⟩
  gi_wp2_with (first
   |(refine⟨trivial,rfl,?_⟩;refine(callsIn_wide.2 (Tryz.slices_Sort_int_none none 0 W1)).mono ?_;rintro e w' ⟨rfl,rfl⟩)
   |(refine⟨trivial,rfl,?_⟩;refine(callsIn_wide.2 (Tryz.slices_Compact_int_empty none 0 _)).mono ?_;rintro e w' ⟨rfl,rfl⟩))
  go_ret
  have hz:ls.flatten=[]:=by simpa using qg
  have hu:eJ ls=[]:=by rw[eJ,hz,List.mergeSort_nil,RP]
  rw[hu];exact⟨⟨uZ,wS,wT,aL,hold⟩,.inl ⟨rfl,rfl⟩⟩
 ·generalize rG:ls.flatten=zs at*
  have hH:Holds (arG .i64) W1 b 0 zs.toArray:=by
   intro j hj;have fJ:j<zs.length:=by simpa using hj
   obtain⟨v',SP,Tt⟩:=aA j (Ev.iI zs[j]) (by
    have:=Ev.AS (s:=1) (es:=zs.map Ev.iI) (fun e he=>by obtain⟨x,_,rfl⟩:=aq5.1 he;rfl) (i:=j) (j:=0) (e:=Ev.iI zs[j]) (d:=Ev.iI zs[j]) (by simp[fJ]) rfl;simpa using this)
   cases SP;refine⟨?_,by simp[World.frozen?,hh]⟩;simp only[World.cell?,hh,Nat.zero_add];rw[Tt];simp[fJ]
  have Ah:Below w.heap.size w W1:=⟨uZ,wS,wT,aL,hold⟩;have Zh:(zs.map Ev.iI).length=zs.length:=ar8 ..
  have hs:=aea w.heap.size b cap zs W1 hH hh hb (by omega);generalize ic:zs.mergeSort (fun x y=>decide (x≤y))=ss at*
  have oi:ss.length=zs.length:=by rw[←ic,auS]
  have Sc:eJ ls=asd ss:=by rw[eJ,rG,ic]
  have hcp:∀W2 c',Holds (arG .i64) W2 b 0 ss.toArray→W2.heap[b]?=some (.cells c' el (0,0))→c'.size=c.size→_:=fun W2 c' h1 h2 h3=>Wa w.heap.size b cap ss W2 h1 h2 hb (by omega) (by omega) (by omega);rw[oi]at hcp;rw[Zh]at hE ll⊢
  gi_wp2_with (first
   |(refine⟨trivial,rfl,?_⟩;refine(callsIn_wide.2 hs).mono ?_;rintro e W2 ⟨rfl,hH2,⟨c',sw,gm⟩,IG⟩)
   |(refine⟨trivial,rfl,?_⟩;refine(callsIn_wide.2 (hcp W2 c' hH2 sw gm)).mono ?_;rintro e W3 ⟨rfl,⟨c3,hh3,hc3,hg3⟩,hB3⟩))
  go_ret
  have hle:=Go.Lib.compact_length_le ss;rw[Sc];have hB:=(Ah.trans IG).trans hB3;have ao8:asd ss≠[]:=I9 fun h0=>aT (by rw[h0]at oi;rw[arf oi.symm];rfl);refine⟨⟨hB.os,hB.tape,hB.output,hB.size,hB.block⟩,.inr ⟨by simpa using ao8,b,c3,el,cap,hb,by rw[ar8];rfl,hh3,by rw[ar8];omega,by omega,fun k x hx=>?_⟩⟩;rw[TZ,List.getElem?_map]at hx;obtain⟨y,hy,rfl⟩:=Option.map_eq_some_iff.1 hx;exact⟨_,rfl,hg3 k y hy⟩
theorem acS:Ev.cF aqD 156=1:=by kernel_rfl
theorem abl:Ev.cF aqD 98=1:=by kernel_rfl
open Go.Ev
theorem alz(new:Bool)(ls:List (List Int))(hl:ls.length≤1000)(hf:ls.flatten.length≤100000):CC 1580 new [Cz ls] (iL (eJ ls)):=by
 have hF:jF aqD (cF aqD 156) 156 [Cz ls] ((eJ ls).map iI):=by
  rw[acS];exact⟨by omega,ui _,FB _,fun M w us hM hr=>ao7 ls hl hf M w us hM hr⟩
 have h:=mR.fresh (n:=aqD.funcs.size) (new:=new) (by rw[dK];decide) hF;rw[dK,acS]at h;unfold CC;rw[dK];exact h
theorem n98:(aqD.funcs[98]?).map (·.params.size)=some 1:=by kernel_rfl
theorem ahg{a:List (List Int)}(x:List Int)(h:a.length+1≤1000000):jM 1 24 (Cz a) (.tree 1 [iL x])=some (Cz (a++[x])):=by
 have h2:iN 1 [iL x]=true:=rfl;simp[jM,h2];omega
theorem s98(l:List Fa)(hl:l.length≤100)(hf:(l.map Fa.j).flatten.length≤100000):Q0.sat aqD CC (·=iL (eJ (l.map Fa.j))) [] [kb l]:=by
 simp only[Q0,nq,SE.den,List.getElem?_cons_zero,Option.bind_some,rA];refine⟨⟨_,rfl⟩,⟨_,rfl⟩,?_⟩;unfold QZ;refine ao l.length (fun i (q:List (List Int))=>[iI i,Cz q]) (fun i q=>q=(l.take i).map Fa.j) [] ?_ (by simp) fun i q hi hq=>?_
 ·simp[SE.den]
 by_cases aa:i<l.length
 ·have hw:=az aa (by omega);have hc:=ahg (a:=q) l[i].j (by rw[hq];simp;omega);simp[SE.den,aa,hw,xM aa,af,cellsOf,hc];exact .mk (q++[l[i].j]) rfl (by omega) (by rw[hq,List.map_take,List.take_succ_eq_append_getElem (by simpa using aa)];simp)
 ·rw[List.take_of_length_le (by omega)]at hq;subst hq;have ao9:=alz true (l.map Fa.j) (by simp;omega) hf;generalize eJ (l.map Fa.j)=u at*
  simp[SE.den,aa];refine⟨_,ao9,if_pos fun x hx y hy=>?_⟩;obtain⟨z,_,rfl⟩:=aq5.1 hx;simp[cellsOf]at hy;subst hy;rfl
theorem abm{ls:List (List Int)}(h:ls.flatten≠[]):eJ ls≠[]:=by
 unfold eJ;refine I9 fun h0=>h ?_;have:=congrArg List.length h0;rw[auS]at this;exact arf this
theorem alA(new:Bool)(l:List Fa)(hl:l.length≤100)(hf:(l.map Fa.j).flatten.length≤100000)(aT:(l.map Fa.j).flatten≠[]):CC 1522 new [kb l] (iL (eJ (l.map Fa.j))):=by
 have hF:jF aqD (cF aqD 98) 98 [kb l] ((eJ (l.map Fa.j)).map iI):=
  .nj (nm:=false) mixed vD aly n98 (by simpa using PA l) (by rw[abl];exact ui _) (FB _) (fun _=>by simpa using abm aT) (by rw[abl];exact s98 l hl hf)
 have h:=mR.fresh (n:=aqD.funcs.size) (new:=new) (by rw[dK];decide) hF;rw[dK,abl]at h;unfold CC;rw[dK];exact h
end Go.Proofs.YtggffkaadeagbaaGreat
namespace Go.Proofs.YtggffkaadeagbaaGreat
open Go Go.Ev
def Hi(e:Int×IV):IV:=.av [iI e.1,e.2]
theorem acT:∀ds:List (Int×IV),nI (ds.map Hi)=nI ((ds.map (·.1)).map mb)
 |[]=>rfl
 |d::ds=>by simp only[arC,nI,Hi,mb,acT ds]
def Gd(f:Fa):Prop:=f.j≠[]∧f.j.length≤20
def zw(f:Fa):IV:=.av [iI f.id,eT f]
abbrev CB(fs:List Fa):IV:=.av (fs.map zw)
def nw(c:Int×Int):IV:=.av [iI c.1,iI c.2]
abbrev oG(cs:List (Int×Int)):IV:=.av (cs.map nw)
theorem I_{rem:List IV}{i:Nat}{y:IV}(h:rem[i]?=some y):(rem.eraseIdx i).length<rem.length:=by
 have:=(List.getElem?_eq_some_iff.1 h).1;rw[List.length_eraseIdx];simp[this];omega
theorem Zi{rem:List IV}{i:Nat}{y b:IV}(h:rem[i]?=some y)(hb:b∈rem)(aT:b≠y):b∈rem.eraseIdx i:=by
 obtain⟨k,hk⟩:=List.mem_iff_getElem?.1 hb;refine List.mem_eraseIdx_iff_getElem?.2 ⟨k,fun he=>?_,hk⟩;subst he;rw[h]at hk;cases hk;exact aT rfl
section
variable{K:List (List IV→Prop)}{x0 x1 x2 x3 x4 x5 x6 x7 x8 x9 eh iV iD kH kS qM pz qN y9 Eh D2 QM LV LU LS:IV}{Q':IV→Prop}
theorem alB(cs:List (Int×Int)){k0 k1 k2 k3 k4:List IV→Prop}:QV.sat aqD CC (·=iB (decide (∀c∈cs,c.2≤1))) [k0,k1,k2,k3,k4] [x0,x1,x2,x3,x4,x5,x6,x7,x8,x9,eh,iV,iD,kH,oG cs,qM]:=by
 by_cases bp:∀c∈cs,c.2≤1
 ·rw[decide_eq_true bp];refine wz (fun(a:List IV×List IV)=>[.av (oG cs::.av a.1::a.2)]) (fun a=>∀y∈a.1,∃c∈cs,y=nw c) (fun a=>a.1.length) (cs.map nw,[]) ?_ ?_ fun a hI=>?_
  ·simp[SE.den,ir]
  ·intro y hy;obtain⟨c,hc,rfl⟩:=aq5.1 hy;exact⟨c,hc,rfl⟩
  obtain⟨rem,r⟩:=a;refine⟨_,rem,rfl,⟨r,rfl⟩,fun he=>?_,fun i y hy=>?_⟩
  ·simp[SE.den]
  ·obtain⟨c,hc,rfl⟩:=hI y (aqS hy);have hle:=bp c hc;refine⟨_,_,rfl,rfl,?_⟩;simp[SE.den,nw,aw];exact⟨hle,.mk (rem.eraseIdx i,[.av [iI c.1,iI c.2]]) (by simp) (fun y hy=>by obtain⟨c',h1,h2⟩:=hI y (atx hy);exact⟨c'.1,c'.2,h1,h2⟩) (I_ hy)⟩
 ·rw[decide_eq_false bp];refine wz (fun(a:List IV×List IV)=>[.av (oG cs::.av a.1::a.2)]) (fun a=>(∀y∈a.1,∃c∈cs,y=nw c)∧∃c:Int×Int,1<c.2∧nw c∈a.1) (fun a=>a.1.length) (cs.map nw,[]) ?_ ?_ fun a hI=>?_
  ·simp[SE.den,ir]
  ·refine⟨fun y hy=>?_,?_⟩
   ·obtain⟨c,hc,rfl⟩:=aq5.1 hy;exact⟨c,hc,rfl⟩
   ·simp only[awo]at bp;obtain⟨c,hc,aa⟩:=bp;exact⟨c,by omega,aq5.2 ⟨c,hc,rfl⟩⟩
  obtain⟨rem,r⟩:=a;obtain⟨hI,b,hb,p4⟩:=hI;refine⟨_,rem,rfl,⟨r,rfl⟩,fun he=>?_,fun i y hy=>?_⟩
  ·simp only at p4;rw[he]at p4;simp at p4
  ·obtain⟨c,hc,rfl⟩:=hI y (aqS hy);refine⟨_,_,rfl,rfl,?_⟩;simp[SE.den,nw,aw];by_cases hle:1<c.2
   ·left;exact hle
   ·right;refine⟨by omega,.mk (rem.eraseIdx i,[.av [iI c.1,iI c.2]]) (by simp) ⟨fun y hy=>by obtain⟨c',h1,h2⟩:=hI y (atx hy);exact⟨c'.1,c'.2,h1,h2⟩,b.1,b.2,hb,?_⟩ (I_ hy)⟩;refine Zi hy p4 fun he=>?_;simp[nw]at he;omega
variable{k0 k1 k2 k3 k4 k5:List IV→Prop}
abbrev aP(ds:List De)(rs:List Rl):IV:=.agg [eI ds,xN rs]
abbrev aM(m:Me):IV:=.agg [kb m.facts,kb m.past,D3 m.log,iI m.next,iI m.given]
abbrev aX(x:Ap):IV:=.agg [iI x.rule,iL x.bw,iL x.gone,iL x.made,iB x.failed,iL x.fV]
end
end Go.Proofs.YtggffkaadeagbaaGreat
namespace Go.Proofs.YtggffkaadeagbaaGreat
open Go Go.Ev
section
variable{k0 k1 k2:List IV→Prop}{x0 x1 x2 x3 x4 x5 x6 x7 x8 eh:IV}
end
theorem n13:(aqD.funcs[13]?).map (·.params.size)=some 2:=by kernel_rfl
theorem t13(z:IV):aN aqD 13 z=true:=by kernel_rfl
end Go.Proofs.YtggffkaadeagbaaGreat
