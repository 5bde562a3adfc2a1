/- A part of the proof, no condition: Right of the program comes to an end. -/
import Derived.Test.YtggffkaadeagbaaGreatEvJ
import Derived.Test.YtggffkaadeagbaaGreatRuA
import Derived.Test.YtggffkaadeagbaaGreatEvP
import Derived.Test.YtggffkaadeagbaaGreatRiM
open Go.Proofs.Tryz renaming prog->ar3
open Go.Lib renaming compact->atJ,compactUpTo_succ->avY
open List renaming map_cons->asY,mem_map->asO,length_map->atC,length_mergeSort->awf,eq_nil_of_length_eq_zero->asH,getElem?_map->asi,map_map->avL,mem_of_getElem?->ash,mem_of_mem_eraseIdx->aui,mem_append->asE,map_set->axu,getElem_mem->asb,length_pos_iff->auh
open Go.Value renaming int->as8
open Option renaming map_eq_some_iff->ar_
open Prod renaming fst->auQ
open Classical renaming not_forall->auU,axiomOfChoice->avj
open Go.IntKind renaming i64->aso
set_option linter.all false
namespace Go.Proofs.YtggffkaadeagbaaGreat
open Go Go.Ev
def TL:List Nat:=[123,127,126,186,189,44,79,30,102,9,10,23,31,15,257,149,89,148,198,147,199,50,191,71,214,93,163,49,152,64,164,158,95,108,206,250,213,130,131,107,129,155,34,90,51,202,153,201,200,151,203,150,204,154,91,41,67,101,99,109,157,210,12,26,28,25,14,19,100,40,39,70,69,35,53,52,68,42,58,96,75,211,136,83,192,85,11,24,27,22,13,29,61,36,33,32,84,47,143,46,190,66,87,45,138,133,88,128,249,121,78,183,256,16,17]
def TM:List Nat:=[38,48,80,118,134,216]
def TN:List Nat:=[185,188,254]
def TO:List Nat:=[155,159,103,173000080,500139,500140,500097,600086,500156,500098]
def QE:af:=
 (sX (qX 11) 3 13 (.len (sZ 1 (cW 12))) (yZ (.idx 1 (sZ 1 (cW 12)) nu) (.ins 3 s_ (.CK 1 (sZ 1 (cW 12)) nu 0) .an) (er 3 13 15)) (er 2 10 14))
def QF:af:=
 (pP 25 qY 1 (oN 15) 25 (zb 26 (.qL 4 (.get 3 jK (fF 26) zi)) (BH 3 jK (fF 26) (y7 28 kG (ow 78 (ov 27 3 15 5) (lP 29 29 kG 6 25))))) (tc 4))
def QG:af:=
 (pP 25 qY 1 (oN 15) 25 (zb 26 (.qL 4 (.get 3 jK (fF 26) zi)) (BH 3 jK (fF 26) (y7 28 kG (ow 78 (ov 27 3 15 5) (lP 29 29 kG 6 25))))) (tc 4))
def QH:af:=
 (kF oA 18 wI 1 (gQ 15) 18 (zb 20 (.qL 4 (.get 3 jK (fF 20) zi)) (BH 3 jK (fF 20) (y7 22 kG (jo 4 72 19 (sZ 4 (fy 21 21 21 21)) 5 18 23)))) (.aG BA (ET 1 (gQ 15) BA wI (ow 78 (Bu (q4 15) 20) (kW 21 21 kG (ow 2222 (zR s9 15 2 .an) (y7 22 kG (ow 1522 (ou 19) (ow 78 (Bu (qN 15 5) 23) (kW 24 24 kG (.test (qN 15 4) (oz qY .gtr qY kG (mE qY .gtr qY 12 kG (.aG qY QF))) (mE qY .gtr qY 12 kG (.aG qY QG)))))))))))))
def QI:af:=
 (qw (qX 14) 19 qY 1 (oN 15) 19 (zb 21 (pT (.get 3 (.var 20) (fF 21) (.k .i64 0))) (yZ (oI 22) (.ins 3 (.var 20) (fF 21) (oI 22)) (er 5 19 23))) (pQ 3 12 18 20))
def QJ:af:=
 (qw (qX 13) 17 (gA 15) 1 (q4 15) 17 (zb 19 (pT (.get 3 (.var 18) (fF 19) (.k .i64 0))) (yZ (oI 20) (.ins 3 (.var 18) (fF 19) (oI 20)) (er 4 17 21))) (.aG qY QI))
def QK:af:=
 (BD (kJ .lss 15 0 kG (fx dS .geq (cW 15) dS kG (vP 6 me (cW 15) (jJ 6 16 wI (cB BA (gA 16) (fx (kC BA (gA 16)) .neq wI (kC BA (gA 16)) kG (ow 1877 (qv 15 1) (.aG (.dec 9 E6 kX) (fx wI .neq (.dec 9 E6 kX) wI kG (.aG wI QH)))))))))) 16 aQ (.aG (gA 15) QJ))
def QL:af:=
 (.loop (oH (.tp (wB 14 14))) (.pick s_ uY ja (.same s_ (.var 18) (.aG (pT (.proj (zS 18 2) 0)) (fe (pT (.proj (zS 18 2) 1)) (pT (.proj (zS 18 2) 1)) 1 (uS 5 18))))))
def QM:af:=
 (.loop (oH (.tp (wB 11 11))) (.pick s9 zf (.aG (.dec 9 s_ kX) (.uniq QL)) (.same s9 E6 (cB (pT (.proj (zS 17 2) 0)) (.qL 0 (.proj (zS 17 2) 1)) (.bind (pT (.get 3 nu (pT (.proj (zS 17 2) 0)) (.k .i64 0))) (.nt (ni .neq 18 1) aQ (uS 4 17)))))))
def QN:af:=
 (qw (nj bz zd zd) 12 ie 6 wK 12 (jy 6 15 QK) (.aG (.dec 9 s9 kX) (.uniq QM)))
def L7:af:=
 (kF zd 10 kE 4 qZ 10 (jJ 4 12 (.rw (cW 12)) (.aG (.len (sZ 1 (cW 12))) QE)) (nf 2 QN))
def L8:af:=
 (qw (MB bz (Bu xV 5)) 6 kE 4 qZ 6 (fx (rp 10) .leq (cW 10) BJ aQ (JE .geq 3 10 0 oK aQ (kU 36 (yY mh (fy 10 10 10 10) (qv 1 4)) (qW 11 11 (.bind (.qL 4 (.get 3 jK (cW 10) zi)) (BH 3 jK (cW 10) (.test nu aQ (.bind (.ins 3 jK (cW 10) (fy 10 10 10 10)) (Bt 1 6 (zk (cW 10) kX 14)))))))))) (nf 1 L7))
def L9:af:=
 (qw (MA bz zd) 3 uR 4 th 3 (fx (rp 6) .leq BI q9 aQ (JE .geq 3 6 0 oK aQ (kU 36 (yY mh (fy 6 6 6 6) (qv 1 4)) (qW 7 7 (.bind (.qL 4 (.get 3 q8 BI zi)) (BH 3 q8 BI (.test jK aQ (.bind (.ins 3 q8 BI (fy 6 6 6 6)) (Bt 0 3 (Bu BI 10)))))))))) (nf 1 L8))
def QO:af:=
 (tx 5 (iC 11 mh (nb bU .neq 31 bU bz aQ (jq .lss 1 3 1 aQ (jq .gtr 1 3 2147483648 aQ (kJ .lss 1 4 aQ (jq .gtr 1 4 64 aQ (cB uR kE (cB Bx ie (fe (pT (.mx true Bx ie)) (pT (.mx true Bx ie)) 5000 (nf 0 L9)))))))))))
def aiz:aL:=⟨TL,TM,TN,[⟨0,13,30,[(0,(131,0))],[(5,0),(4,0)],[],[]⟩,⟨0,13,40,[(0,(156,0))],[(5,0)],[],[]⟩,⟨0,13,35,[(0,(144,0))],[(4,0)],[],[]⟩,⟨1,13140,8,[(1,(10,0)),(1,(60,0))],[(11,3),(11,0)],[],[]⟩,⟨0,13,24,[(0,(116,0))],[(3,0)],[],[]⟩,⟨0,13,46,[],[(6,0)],[],[]⟩,⟨0,13,51,[],[(7,0)],[],[]⟩,⟨0,13,1000139,[(0,(139,0))],[],[],[]⟩,⟨1,13140,18,[(1,(121,0))],[],[],[]⟩,⟨1,13125,1,[(1,(8,0))],[(3,0)],[],[]⟩,⟨0,13,11,[(0,(74,0)),(0,(8,0)),(0,(73,0))],[(2,0)],[],[]⟩,⟨999999,0,0,[],[],[],[]⟩],TO⟩
theorem am2:aA ar3 aiz 400 false 13=QO:=by kernel_rfl
def QP:af:=
 (kF gx 1 bI 4 aY 1 (lD 3 (jo 1 24 2 (u7 1 3 3) 0 1 4)) (ow 1580 (ou 2) (za tf)))
def QQ:af:=
 (uW QP)
def aiA:aL:=⟨TL,TM,TN,[⟨0,98,3,[(0,(3,0)),(0,(7,0))],[(0,3),(0,0)],[],[]⟩,⟨999999,0,0,[],[],[],[]⟩],TO⟩
theorem am3:pq ar3 aiA 400 false 98=QQ:=by kernel_rfl
end Go.Proofs.YtggffkaadeagbaaGreat
namespace Go.Proofs.YtggffkaadeagbaaGreat
open Go Go.RowKit Go.Shelf Go.Sort
attribute [local go_sem] Oper.semAt_some
theorem I4{zs:List Int}(h:zs≠[]):atJ zs≠[]:=by
 unfold atJ
 have key:∀m,0<(Go.Lib.compactUpTo zs.toArray (m+1)).length:=by
  intro m;induction m with
  |zero=>rw[avY];simp[Go.Lib.keeps]
  |succ m ih=>rw[avY,List.length_append];omega
 obtain⟨x,l,rfl⟩:=List.exists_cons_of_ne_nil h;intro h0;have:=key l.length;rw[show l.length+1=(x::l).length from rfl,h0]at this;simp at this
theorem TP:∀l:List Int,Ev.flat (l.map Ev.iI)=l.map Ev.iI
 |[]=>rfl
 |x::l=>by
  have:=TP l;unfold Ev.flat at this⊢;rw[asY,List.flatMap_cons,this];rfl
set_option maxRecDepth 100000 in
set_option maxHeartbeats 2000000 in
theorem aqM(ls:List (List Int))(hl:ls.length≤1000)(hf:ls.flatten.length≤100000)(M:Ev.Fz)(w:World)(us:List Value)(hM:Ev.sE M w)(lq:Ev.ax (Ev.eW M) [CU ls] us):CallsIn Fence.wide 0 ar3 156 us.toArray w (Ev.afG w 1 ((lI ls).map Ev.iI)):=by
 have aiB:=(f207 ls hl hf).2.2.2 M w us hM lq;obtain⟨v,oU,rfl,h1,h2⟩:=lq.sj;obtain rfl:=h2.of_nil;refine callsIn_of_wp Tryz.func156 rfl trivial ?_ rfl;simp only[Tryz.ntmps156,List.size_toArray,List.length_cons,List.length_nil,Nat.reduceAdd,Nat.reduceSub,Array.replicate_succ,Array.replicate_zero,List.push_toArray,List.append_toArray,List.nil_append,List.cons_append]
 gi_wp2_with (refine⟨trivial,rfl,?_⟩;refine aiB.mono ?_;rintro e W1 hE;obtain⟨u,rfl,eo⟩:∃u,e=.returned u∧Ev.afF w 1 (ls.flatten.map Ev.iI) u W1:=(by cases e<;>first|exact⟨_,rfl,hE⟩|exact hE.elim))
 clear aiB;obtain⟨⟨vl,xr,xu,aK,hold⟩,⟨zK,rfl⟩|⟨bc,b,c,el,cap,hb,rfl,hh,mv,bD,az⟩⟩:=eo
 ·have AP:Below w.heap.size w W1:=⟨vl,xr,xu,aK,hold⟩
  gi_wp2_with (first
   |(refine⟨trivial,rfl,?_⟩;refine(callsIn_wide.2 (Tryz.slices_Sort_int_none none 0 W1)).mono ?_;rintro e w' ⟨rfl,rfl⟩)
   |(refine⟨trivial,rfl,?_⟩;refine(callsIn_wide.2 (Tryz.slices_Compact_int_empty none 0 _)).mono ?_;rintro e w' ⟨rfl,rfl⟩))
  go_ret
  have hz:ls.flatten=[]:=by simpa using zK
  have hu:lI ls=[]:=by rw[lI,hz,List.mergeSort_nil,Rh]
  rw[hu];exact⟨⟨vl,xr,xu,aK,hold⟩,.inl ⟨rfl,rfl⟩⟩
 ·generalize rP:ls.flatten=zs at*
  have hH:Holds (as8 .i64) W1 b 0 zs.toArray:=by
   intro j hj;have kb:j<zs.length:=by simpa using hj
   obtain⟨v',Sf,hv2⟩:=az j (Ev.iI zs[j]) (by
    have:=Ev.Bq (s:=1) (es:=zs.map Ev.iI) (fun e he=>by obtain⟨x,_,rfl⟩:=asO.1 he;rfl) (i:=j) (j:=0) (e:=Ev.iI zs[j]) (d:=Ev.iI zs[j]) (by simp[kb]) rfl;simpa using this)
   cases Sf;refine⟨?_,by simp[World.frozen?,hh]⟩;simp only[World.cell?,hh,Nat.zero_add];rw[hv2];simp[kb]
  have AP:Below w.heap.size w W1:=⟨vl,xr,xu,aK,hold⟩;have LA:(zs.map Ev.iI).length=zs.length:=atC ..
  have hs:=aev w.heap.size b cap zs W1 hH hh hb (by omega);generalize gW:zs.mergeSort (fun x y=>decide (x≤y))=ss at*
  have oE:ss.length=zs.length:=by rw[←gW,awf]
  have Rx:lI ls=atJ ss:=by rw[lI,rP,gW]
  have hcp:∀W2 c',Holds (as8 .i64) W2 b 0 ss.toArray→W2.heap[b]?=some (.cells c' el (0,0))→c'.size=c.size→_:=fun W2 c' h1 h2 h3=>V4 w.heap.size b cap ss W2 h1 h2 hb (by omega) (by omega) (by omega);rw[oE]at hcp;rw[LA]at hE mv⊢
  gi_wp2_with (first
   |(refine⟨trivial,rfl,?_⟩;refine(callsIn_wide.2 hs).mono ?_;rintro e W2 ⟨rfl,hH2,⟨c',wg,gi⟩,IA⟩)
   |(refine⟨trivial,rfl,?_⟩;refine(callsIn_wide.2 (hcp W2 c' hH2 wg gi)).mono ?_;rintro e W3 ⟨rfl,⟨c3,hh3,Ng,Pn⟩,hB3⟩))
  go_ret
  have hle:=Go.Lib.compact_length_le ss;rw[Rx];have hB:=(AP.trans IA).trans hB3;have aqN:atJ ss≠[]:=I4 fun h0=>bc (by rw[h0]at oE;rw[asH oE.symm];rfl);refine⟨⟨hB.os,hB.tape,hB.output,hB.size,hB.block⟩,.inr ⟨by simpa using aqN,b,c3,el,cap,hb,by rw[atC];rfl,hh3,by rw[atC];omega,by omega,fun k x hx=>?_⟩⟩;rw[TP,asi]at hx;obtain⟨y,hy,rfl⟩:=ar_.1 hx;exact⟨_,rfl,Pn k y hy⟩
theorem adh:Ev.cA ar3 156=1:=by kernel_rfl
theorem abB:Ev.cA ar3 98=1:=by kernel_rfl
open Go.Ev
theorem am4(new:Bool)(ls:List (List Int))(hl:ls.length≤1000)(hf:ls.flatten.length≤100000):CC 1580 new [CU ls] (iL (lI ls)):=by
 have hF:jt ar3 (cA ar3 156) 156 [CU ls] ((lI ls).map iI):=by
  rw[adh];exact⟨by omega,uK _,Fv _,fun M w us hM hr=>aqM ls hl hf M w us hM hr⟩
 have h:=mT.fresh (n:=ar3.funcs.size) (new:=new) (by rw[dJ];decide) hF;rw[dJ,adh]at h;unfold CC;rw[dJ];exact h
theorem n98:(ar3.funcs[98]?).map (·.params.size)=some 1:=by kernel_rfl
theorem aiC{a:List (List Int)}(x:List Int)(h:a.length+1≤1000000):gl 1 24 (CU a) (.tree 1 [iL x])=some (CU (a++[x])):=by
 have h2:iz 1 [iL x]=true:=rfl;simp[gl,h2];omega
theorem s98(l:List Fa)(hl:l.length≤100)(hf:(l.map Fa.j).flatten.length≤100000):QQ.sat ar3 CC (·=iL (lI (l.map Fa.j))) [] [bF l]:=by
 simp only[QQ,nB,SE.den,List.getElem?_cons_zero,Option.bind_some,rH];refine⟨⟨_,rfl⟩,⟨_,rfl⟩,?_⟩;unfold QP;refine ao l.length (fun i (q:List (List Int))=>[iI i,CU q]) (fun i q=>q=(l.take i).map Fa.j) [] ?_ (by simp) fun i q hi hq=>?_
 ·simp[SE.den]
 by_cases aa:i<l.length
 ·have hw:=aw aa (by omega);have hc:=aiC (a:=q) l[i].j (by rw[hq];simp;omega);simp[SE.den,aa,hw,vW aa,ab,cellsOf,hc];exact .mk (q++[l[i].j]) rfl (by omega) (by rw[hq,List.map_take,List.take_succ_eq_append_getElem (by simpa using aa)];simp)
 ·rw[List.take_of_length_le (by omega)]at hq;subst hq;have aqO:=am4 true (l.map Fa.j) (by simp;omega) hf;generalize lI (l.map Fa.j)=u at*
  simp[SE.den,aa];refine⟨_,aqO,if_pos fun x hx y hy=>?_⟩;obtain⟨z,_,rfl⟩:=asO.1 hx;simp[cellsOf]at hy;subst hy;rfl
theorem abC{ls:List (List Int)}(h:ls.flatten≠[]):lI ls≠[]:=by
 unfold lI;refine I4 fun h0=>h ?_;have:=congrArg List.length h0;rw[awf]at this;exact asH this
theorem am5(new:Bool)(l:List Fa)(hl:l.length≤100)(hf:(l.map Fa.j).flatten.length≤100000)(bc:(l.map Fa.j).flatten≠[]):CC 1522 new [bF l] (iL (lI (l.map Fa.j))):=by
 have hF:jt ar3 (cA ar3 98) 98 [bF l] ((lI (l.map Fa.j)).map iI):=
  .nz (nm:=false) mixed vV am3 n98 (by simpa using O4 l) (by rw[abB];exact uK _) (Fv _) (fun _=>by simpa using abC bc) (by rw[abB];exact s98 l hl hf)
 have h:=mT.fresh (n:=ar3.funcs.size) (new:=new) (by rw[dJ];decide) hF;rw[dJ,abB]at h;unfold CC;rw[dJ];exact h
end Go.Proofs.YtggffkaadeagbaaGreat
namespace Go.Proofs.YtggffkaadeagbaaGreat
open Go Go.Ev
def Hh(e:Int×IV):IV:=.av [iI e.1,e.2]
theorem adi:∀ds:List (Int×IV),nM (ds.map Hh)=nM ((ds.map (·.1)).map my)
 |[]=>rfl
 |d::ds=>by simp only[asY,nM,Hh,my,adi ds]
theorem aiD(ds:List (Int×IV))(k:Int):(∃i v,fc ar3 3 (ds.map Hh) (iI k)=some (some i)∧ds[i]?=some (k,v))∨fc ar3 3 (ds.map Hh) (iI k)=some none:=by
 have h:fc ar3 3 (ds.map Hh) (iI k)=fc ar3 3 ((ds.map (·.1)).map my) (iI k):=by
  unfold fc;rw[adi]
 rw[h];by_cases hm:k∈ds.map (·.1)
 ·left;obtain⟨i,g1,g2⟩:=(pB _ k).1 hm;rw[asi]at g2;obtain⟨⟨a,v⟩,g3,g4⟩:=ar_.1 g2;simp only at g4;subst g4;exact⟨i,v,g1,g3⟩
 ·right;exact(pB _ k).2 hm
def Gd(f:Fa):Prop:=f.j≠[]∧f.j.length≤20
def yy(f:Fa):IV:=.av [iI f.id,dA f]
abbrev F8(fs:List Fa):IV:=.av (fs.map yy)
theorem QR(fs:List Fa)(k:Int):(∃i f,f∈fs∧fc ar3 3 (fs.map yy) (iI k)=some (some i)∧fs[i]?=some f∧f.id=k)∨fc ar3 3 (fs.map yy) (iI k)=some none:=by
 have hm:fs.map yy=(fs.map fun f=>(f.id,dA f)).map Hh:=by rw[avL];rfl
 rw[hm];rcases aiD (fs.map fun f=>(f.id,dA f)) k with⟨i,v,g1,g2⟩|g
 ·left;rw[asi]at g2;obtain⟨f,g3,g4⟩:=ar_.1 g2;exact⟨i,f,ash g3,g1,g3,congrArg auQ g4⟩
 ·exact .inr g
def nD(c:Int×Int):IV:=.av [iI c.1,iI c.2]
abbrev oQ(cs:List (Int×Int)):IV:=.av (cs.map nD)
theorem abD(cs:List (Int×Int))(k:Int):(∃i c,fc ar3 3 (cs.map nD) (iI k)=some (some i)∧cs[i]?=some (k,c))∨fc ar3 3 (cs.map nD) (iI k)=some none:=by
 have hm:cs.map nD=(cs.map fun c=>(c.1,iI c.2)).map Hh:=by rw[avL];rfl
 rw[hm];rcases aiD (cs.map fun c=>(c.1,iI c.2)) k with⟨i,v,g1,g2⟩|g
 ·left;rw[asi]at g2;obtain⟨⟨a,c⟩,g3,g4⟩:=ar_.1 g2;have:a=k:=congrArg auQ g4;subst this;exact⟨i,c,g1,g3⟩
 ·exact .inr g
theorem I5{rem:List IV}{i:Nat}{y:IV}(h:rem[i]?=some y):(rem.eraseIdx i).length<rem.length:=by
 have:=(List.getElem?_eq_some_iff.1 h).1;rw[List.length_eraseIdx];simp[this];omega
theorem ZG{rem:List IV}{i:Nat}{y b:IV}(h:rem[i]?=some y)(hb:b∈rem)(bc:b≠y):b∈rem.eraseIdx i:=by
 obtain⟨k,hk⟩:=List.mem_iff_getElem?.1 hb;refine List.mem_eraseIdx_iff_getElem?.2 ⟨k,fun he=>?_,hk⟩;subst he;rw[h]at hk;cases hk;exact bc rfl
section
variable{K:List (List IV→Prop)}{x0 x1 x2 x3 x4 x5 x6 x7 x8 x9 eZ jY ju l8 mH tX sg tY Ep L6 Lv x21 X0 XZ XY:IV}{Q':IV→Prop}
theorem am6(cs:List (Int×Int)){k0 k1 k2 k3 k4:List IV→Prop}:QL.sat ar3 CC (·=iB (decide (∀c∈cs,c.2≤1))) [k0,k1,k2,k3,k4] [x0,x1,x2,x3,x4,x5,x6,x7,x8,x9,eZ,jY,ju,l8,oQ cs,tX]:=by
 by_cases aT:∀c∈cs,c.2≤1
 ·rw[decide_eq_true aT];refine eY (fun(a:List IV×List IV)=>[.av (oQ cs::.av a.1::a.2)]) (fun a=>∀y∈a.1,∃c∈cs,y=nD c) (fun a=>a.1.length) (cs.map nD,[]) ?_ ?_ fun a hI=>?_
  ·simp[SE.den,h_]
  ·intro y hy;obtain⟨c,hc,rfl⟩:=asO.1 hy;exact⟨c,hc,rfl⟩
  obtain⟨rem,r⟩:=a;refine⟨_,rem,rfl,⟨r,rfl⟩,fun he=>?_,fun i y hy=>?_⟩
  ·simp[SE.den]
  ·obtain⟨c,hc,rfl⟩:=hI y (ash hy);have hle:=aT c hc;refine⟨_,_,rfl,rfl,?_⟩;simp[SE.den,nD,au];exact⟨hle,.mk (rem.eraseIdx i,[.av [iI c.1,iI c.2]]) (by simp) (fun y hy=>by obtain⟨c',h1,h2⟩:=hI y (aui hy);exact⟨c'.1,c'.2,h1,h2⟩) (I5 hy)⟩
 ·rw[decide_eq_false aT];refine eY (fun(a:List IV×List IV)=>[.av (oQ cs::.av a.1::a.2)]) (fun a=>(∀y∈a.1,∃c∈cs,y=nD c)∧∃c:Int×Int,1<c.2∧nD c∈a.1) (fun a=>a.1.length) (cs.map nD,[]) ?_ ?_ fun a hI=>?_
  ·simp[SE.den,h_]
  ·refine⟨fun y hy=>?_,?_⟩
   ·obtain⟨c,hc,rfl⟩:=asO.1 hy;exact⟨c,hc,rfl⟩
   ·simp only[auU]at aT;obtain⟨c,hc,aa⟩:=aT;exact⟨c,by omega,asO.2 ⟨c,hc,rfl⟩⟩
  obtain⟨rem,r⟩:=a;obtain⟨hI,b,hb,p7⟩:=hI;refine⟨_,rem,rfl,⟨r,rfl⟩,fun he=>?_,fun i y hy=>?_⟩
  ·simp only at p7;rw[he]at p7;simp at p7
  ·obtain⟨c,hc,rfl⟩:=hI y (ash hy);refine⟨_,_,rfl,rfl,?_⟩;simp[SE.den,nD,au];by_cases hle:1<c.2
   ·left;exact hle
   ·right;refine⟨by omega,.mk (rem.eraseIdx i,[.av [iI c.1,iI c.2]]) (by simp) ⟨fun y hy=>by obtain⟨c',h1,h2⟩:=hI y (aui hy);exact⟨c'.1,c'.2,h1,h2⟩,b.1,b.2,hb,?_⟩ (I5 hy)⟩;refine ZG hy p7 fun he=>?_;simp[nD]at he;omega
theorem am7(ks:List Int)(cs ds:List (Int×Int)){k0 k1 k2 k3:List IV→Prop}:∃z,AX z∧QM.sat ar3 CC (·=z) [k0,k1,k2,k3] [x0,x1,x2,x3,x4,x5,x6,x7,x8,x9,eZ,iM ks,ju,oQ cs,oQ ds]:=by
 have Hi:∀k:Int,∃c:Int,(SE.ok (.rw (.get 3 (.var 1) (.var 0) (.k .i64 0)))).den ar3 [iI k,oQ cs]=some (iI c):=by
  intro k;rcases abD cs k with⟨i,c,g1,g2⟩|g1
  ·exact⟨c,by simp[SE.den,g1,g2,nD,au]⟩
  ·exact⟨0,by simp[SE.den,g1,au]⟩
 obtain⟨f,hf⟩:=avj Hi;simp[SE.den]at hf;simp only[iI]at hf;by_cases aT:∀k∈ks,f k=1
 ·refine⟨iB (decide (∀c∈ds,c.2≤1)),⟨_,rfl⟩,?_⟩;refine eY (fun(a:List IV×List IV)=>[.av (iM ks::.av a.1::a.2)]) (fun a=>∀y∈a.1,∃k∈ks,y=my k) (fun a=>a.1.length) (ks.map my,[]) ?_ ?_ fun a hI=>?_
  ·simp[SE.den,h_]
  ·intro y hy;obtain⟨c,hc,rfl⟩:=asO.1 hy;exact⟨c,hc,rfl⟩
  obtain⟨rem,r⟩:=a;refine⟨_,rem,rfl,⟨r,rfl⟩,fun he=>?_,fun i y hy=>?_⟩
  ·refine⟨⟨.int ds.length,by simp[SE.den,lO]⟩,_,rfl,am6 ds⟩
  ·obtain⟨k,hk,rfl⟩:=hI y (ash hy);have hle:=aT k hk;have R8:=hf k;rw[hle]at R8;refine⟨_,_,rfl,rfl,?_⟩;simp[SE.den,my,au,ab];refine⟨_,R8,?_⟩;simp;exact .mk (rem.eraseIdx i,[.av [iI k,.agg []]]) (by simp) (fun y hy=>hI y (aui hy)) (I5 hy)
 ·refine⟨iB false,⟨false,rfl⟩,?_⟩;simp only[auU]at aT;obtain⟨b,hb,hbf⟩:=aT;refine eY (fun(a:List IV×List IV)=>[.av (iM ks::.av a.1::a.2)]) (fun a=>(∀y∈a.1,∃k∈ks,y=my k)∧my b∈a.1) (fun a=>a.1.length) (ks.map my,[]) ?_ ?_ fun a hI=>?_
  ·simp[SE.den,h_]
  ·refine⟨fun y hy=>?_,asO.2 ⟨b,hb,rfl⟩⟩;obtain⟨c,hc,rfl⟩:=asO.1 hy;exact⟨c,hc,rfl⟩
  obtain⟨rem,r⟩:=a;obtain⟨hI,p7⟩:=hI;refine⟨_,rem,rfl,⟨r,rfl⟩,fun he=>?_,fun i y hy=>?_⟩
  ·simp only at p7;rw[he]at p7;simp at p7
  ·obtain⟨k,hk,rfl⟩:=hI y (ash hy);have R8:=hf k;refine⟨_,_,rfl,rfl,?_⟩;simp[SE.den,my,au,ab];refine⟨_,R8,?_⟩;simp;by_cases hle:f k=1
   ·right;refine⟨hle,.mk (rem.eraseIdx i,[.av [iI k,.agg []]]) (by simp) ⟨fun y hy=>hI y (aui hy),ZG hy p7 fun he=>?_⟩ (I5 hy)⟩;simp[my]at he;subst he;exact hbf hle
   ·left;exact hle
variable{k0 k1 k2 k3 k4 k5:List IV→Prop}
abbrev aP(ds:List De)(rs:List Rl):IV:=.agg [ek ds,yn rs]
abbrev aM(m:Me):IV:=.agg [bF m.facts,bF m.past,nR m.log,iI m.next,iI m.given]
abbrev aX(x:Ap):IV:=.agg [iI x.rule,iL x.dw,iL x.gone,iL x.made,iB x.failed,iL x.fK]
theorem am8(i:Nat)(hi:i<1000)(ks:List Int)(n:Int){a b c:IV}(hk:∀q,k2 [iI (i+1:Nat),iM q]):QE.sat ar3 CC Q' [k0,k1,k2] [x0,x1,x2,x3,x4,x5,x6,x7,x8,x9,iI i,iM ks,.agg [iI n,a,b,c]]:=by
 have eO:=aw hi (by omega);have gm:cq 1 (.tree 1 [iI n]) (iI 0)=some (iI n):=dB (l:=[n]) (i:=0) (by simp);refine ao 1 (fun j (q:List Int)=>[iI j,iM q]) (fun _ _=>True) ks ?_ trivial fun j q hj _=>?_
 ·simp[SE.den]
 by_cases aa:j<1
 ·have h0:j=0:=by omega
  subst h0;have nC:=AU (ν:=[iM q,iI n]) (m:=.var 0) (key:=.var 1) (ks:=q) (k:=n) rfl rfl;simp[SE.den]at nC;simp only[iI]at nC;simp[SE.den,ab,cellsOf,gm];refine⟨_,nC,?_⟩;have AQ:aso.wrap 1=1:=eb (by omega) (by omega);simp[AQ];exact .mk _ rfl (by omega) trivial
 ·have h1:j=1:=by omega
  subst h1;simp[SE.den,ab,cellsOf,eO];exact hk q
theorem am9(fs:List Fa)(tB:∀f∈fs,Sm f.j)(x:Ap)(hm:Sm x.made)(hk:∀b,k4 [iB b]):QF.sat ar3 CC Q' [k0,k1,k2,k3,k4,k5] [x0,x1,x2,x3,x4,x5,x6,x7,x8,F8 fs,eZ,jY,ju,l8,mH,aX x,sg,tY,Ep,L6,Lv,x21,X0,XZ,XY]:=by
 refine ao x.made.length (fun j (_:Unit)=>[iI j]) (fun _ _=>True) () ?_ trivial fun j q hj _=>?_
 ·simp[SE.den]
 by_cases aa:j<x.made.length
 ·have hw:=aw aa hm;simp[SE.den,aa,hw,dB aa,ab];rcases QR fs x.made[j]with⟨q,f,hf,g1,g2,g3⟩|g1
  ·obtain⟨t,h78⟩:=V7 f.j x.fK (tB f hf);simp only[iI]at g1;simp[g1,g2,yy,dA,ab];refine⟨_,h78,?_⟩;cases t<;>simp
   ·exact hk false
   ·exact .mk () rfl (by omega) trivial
  ·simp only[iI]at g1;simp[g1,ab];exact hk false
 ·simp[SE.den,aa];exact hk true
theorem am_(fs:List Fa)(tB:∀f∈fs,Sm f.j)(x:Ap)(hm:Sm x.made)(hk:∀b,k4 [iB b]):QG.sat ar3 CC Q' [k0,k1,k2,k3,k4,k5] [x0,x1,x2,x3,x4,x5,x6,x7,x8,F8 fs,eZ,jY,ju,l8,mH,aX x,sg,tY,Ep,L6,Lv,x21,X0,XZ,XY]:=by
 refine ao x.made.length (fun j (_:Unit)=>[iI j]) (fun _ _=>True) () ?_ trivial fun j q hj _=>?_
 ·simp[SE.den]
 by_cases aa:j<x.made.length
 ·have hw:=aw aa hm;simp[SE.den,aa,hw,dB aa,ab];rcases QR fs x.made[j]with⟨q,f,hf,g1,g2,g3⟩|g1
  ·obtain⟨t,h78⟩:=V7 f.j x.fK (tB f hf);simp only[iI]at g1;simp[g1,g2,yy,dA,ab];refine⟨_,h78,?_⟩;cases t<;>simp
   ·exact hk false
   ·exact .mk () rfl (by omega) trivial
  ·simp only[iI]at g1;simp[g1,ab];exact hk false
 ·simp[SE.den,aa];exact hk true
theorem ana(fs:List Fa)(tB:∀f∈fs,Gd f)(x:Ap)(hx:IT x)(r:Rl)(hl:x.dw.length=r.keep.length+r.remove.length)(hp:0<x.dw.length)(ks:List Int)(hk:∀b,k4 [iB b]):
 QH.sat ar3 CC Q' [k0,k1,k2,k3,k4] [x0,x1,x2,x3,x4,x5,x6,x7,x8,F8 fs,eZ,iM ks,ju,l8,mH,aX x,aR r,tY]:=by
 have hxh:=hx.h;have hxg:=hx.g;have S9:=hx.m;have hxj:=hx.j;refine ao x.dw.length (fun j (q:List Fa)=>[iI j,bF q]) (fun j q=>q.length=j∧∀f∈q,Gd f) [] ?_ (by simp) fun j q hj hq=>?_
 ·simp[SE.den]
 obtain⟨hql,hqf⟩:=hq;by_cases aa:j<x.dw.length
 ·have hw:=aw aa (by omega);simp[SE.den,aa,hw,dB aa,ab];rcases QR fs x.dw[j]with⟨p,f,hf,g1,g2,g3⟩|g1
  ·have hc:=Ea (a:=q) f (by omega);simp only[iI]at g1
   try simp only[dA]at hc
   simp[g1,g2,yy,dA,ab,cellsOf,hc];refine .mk (q++[f]) rfl (by omega) ⟨by simp;omega,fun g hg=>?_⟩;rcases asE.1 hg with hg|hg
   ·exact hqf g hg
   ·simp at hg;subst hg;exact tB g hf
  ·simp only[iI]at g1;simp[g1,ab];exact hk false
 ·have e_:=Za (L:=x.dw) (k:=r.keep.length) (by omega);obtain⟨t1,h1⟩:=V7 x.gone (x.dw.drop r.keep.length) (by unfold Sm;omega);obtain⟨t2,h2⟩:=V_ true ks x.gone (by unfold Sm;omega)
  have h3:=am5 true q (by omega) (by
   have:=Co (f:=Fa.j) (l:=q) fun a ha=>(hqf a ha).2;have:q.length*20≤8*20:=Nat.mul_le_mul_right _ (by omega)
   omega) (by
    intro he;cases q with
    |nil=>simp at hql;omega
    |cons f q=>
     simp only[asY,List.flatten_cons,List.append_eq_nil_iff]at he;exact(hqf f (by simp)).1 he.1)
  generalize lI (q.map Fa.j)=u at h3;obtain⟨t3,h4⟩:=V7 x.fK u (by unfold Sm;omega);simp only[iL,iI]at e_;simp only[iL,List.map_drop]at h1 e_;simp[SE.den,aa,ab,e_];refine⟨_,h1,?_⟩;cases t1<;>simp
  ·exact hk false
  refine⟨_,h2,?_⟩;cases t2<;>simp
  ·exact hk false
  refine⟨_,h3,_,h4,?_⟩;cases t3<;>simp
  ·exact hk false
  have zB:∀f∈fs,Sm f.j:=fun f hf=>by have:=(tB f hf).2;unfold Sm;omega
  by_cases tW:x.failed=true
  ·left;refine⟨tW,?_⟩;by_cases y1:0<x.made.length
   ·left;exact⟨y1,hk false⟩
   right;refine⟨asH (by omega),?_⟩;right;exact⟨by omega,am9 fs zB x (by unfold Sm;omega) hk⟩
  ·right;refine⟨by simpa using tW,?_⟩;by_cases y1:12<x.made.length
   ·left;exact⟨by omega,hk false⟩
   ·right;exact⟨by omega,am_ fs zB x (by unfold Sm;omega) hk⟩
theorem anb(x:Ap)(hx:IT x)(i:Nat)(hi:i<1000)(cs ds:List (Int×Int))(hk:∀q:List (Int×Int),k3 [iI (i+1:Nat),oQ cs,oQ q]):
 QI.sat ar3 CC Q' [k0,k1,k2,k3,k4] [x0,x1,x2,x3,x4,x5,x6,x7,x8,x9,eZ,jY,iI i,l8,oQ ds,aX x,sg,tY,oQ cs]:=by
 have S9:=hx.m;have eO:=aw hi (by omega);refine ao x.made.length (fun j (q:List (Int×Int))=>[iI j,oQ q]) (fun _ _=>True) ds ?_ trivial fun j q hj _=>?_
 ·simp[SE.den]
 by_cases aa:j<x.made.length
 ·have hw:=aw aa (by omega);simp[SE.den,aa,hw,dB aa,ab];rcases abD q x.made[j]with⟨p,c,g1,g2⟩|g1
  ·try simp only[iI]at g1
   simp[g1,g2,nD,au];exact .mk (q.set p (x.made[j],aso.wrap (c+1))) (by simp[axu,nD]) (by omega) trivial
  ·try simp only[iI]at g1
   simp[g1,au];exact .mk (q++[(x.made[j],aso.wrap (0+1))]) (by simp[nD]) (by omega) trivial
 ·simp[SE.den,aa,eO];exact hk q
theorem anc(x:Ap)(hx:IT x)(i:Nat)(hi:i<1000)(cs ds:List (Int×Int))(hk:∀p q:List (Int×Int),k3 [iI (i+1:Nat),oQ p,oQ q]):
 QJ.sat ar3 CC Q' [k0,k1,k2,k3] [x0,x1,x2,x3,x4,x5,x6,x7,x8,x9,eZ,jY,iI i,oQ cs,oQ ds,aX x,sg]:=by
 have S9:=hx.g;refine ao x.gone.length (fun j (q:List (Int×Int))=>[iI j,oQ q]) (fun _ _=>True) cs ?_ trivial fun j q hj _=>?_
 ·simp[SE.den]
 by_cases aa:j<x.gone.length
 ·have hw:=aw aa (by omega);simp[SE.den,aa,hw,dB aa,ab];rcases abD q x.gone[j]with⟨p,c,g1,g2⟩|g1
  ·try simp only[iI]at g1
   simp[g1,g2,nD,au];exact .mk (q.set p (x.gone[j],aso.wrap (c+1))) (by simp[axu,nD]) (by omega) trivial
  ·try simp only[iI]at g1
   simp[g1,au];exact .mk (q++[(x.gone[j],aso.wrap (0+1))]) (by simp[nD]) (by omega) trivial
 ·simp[SE.den,aa];exact anb x hx i hi q ds (hk q)
theorem ane(L_:List De)(rs:List Rl)(HL:rs.length≤8)(hr:∀r∈rs,r.keep.length+r.remove.length≤3∧0<r.keep.length+r.remove.length)(fs:List Fa)(tB:∀f∈fs,Gd f)(x:Ap)(hx:IT x)(ks:List Int)(i:Nat)(hi:i<1000)(cs ds:List (Int×Int))(hk:∀p q:List (Int×Int),k3 [iI (i+1:Nat),oQ p,oQ q])(hQ:Q' (iB false)):
 QK.sat ar3 CC Q' [k0,k1,k2,k3] [aP L_ rs,x1,x2,x3,x4,x5,x6,x7,x8,F8 fs,eZ,iM ks,iI i,oQ cs,oQ ds,aX x]:=by
 have hxh:=hx.h;refine fJ (fun vs=>∃b:Bool,vs=[iB b]) ?_ ?_
 ·simp[SE.den,ab];by_cases y1:x.rule<0
  ·left;exact⟨y1,.inl rfl⟩
  right;refine⟨by omega,?_⟩;by_cases y2:(rs.length:Int)≤x.rule
  ·left;exact⟨y2,.inl rfl⟩
  right;refine⟨by omega,?_⟩;obtain⟨n,hn⟩:∃n:Nat,x.rule=n:=⟨x.rule.toNat,by omega⟩;have aa:n<rs.length:=by omega
  have sq:=G8 aa;obtain⟨r1,r2⟩:=hr _ (asb aa);generalize hrn:rs[n]=r at*
  have hw:aso.wrap ((r.keep.length:Int)+r.remove.length)=r.keep.length+r.remove.length:=eb (by omega) (by omega);simp only[iI]at sq;rw[←hn]at sq;refine⟨_,sq,?_⟩;simp[ab,hw];by_cases y3:x.dw.length=r.keep.length+r.remove.length
  rotate_left
  ·left;exact⟨by omega,.inl rfl⟩
  right;refine⟨by omega,_,amJ true x.dw (by unfold Sm;omega),?_⟩;simp[lO];by_cases y4:((V9 x.dw).length:Int)=x.dw.length
  rotate_left
  ·left;exact⟨y4,.inl rfl⟩
  right;refine⟨y4,?_⟩;refine ana fs tB x hx r y3 (by omega) ks fun b=>?_;cases b
  ·exact .inl rfl
  ·exact .inr rfl
 ·rintro vs ⟨b,rfl⟩;refine⟨rfl,?_⟩;cases b<;>simp[SE.den,ab]
  ·exact hQ
  ·exact anc x hx i hi cs ds hk
end
end Go.Proofs.YtggffkaadeagbaaGreat
namespace Go.Proofs.YtggffkaadeagbaaGreat
open Go Go.Ev
theorem aiE(p:Pg)(hd:Sm p.decls)(f:Fa)(hf:zC f)(g:Int):∃b,(b=true→f.j≠[])∧CC 36 false [dj p,dA f,iI g] (iB b):=by
 refine CC.lH _ aqx n36 t36 (by intro x hx;simp at hx;rcases hx with rfl|rfl|rfl;exact fA p;exact D8 f;exact .raw _) (by rfl) ?_;obtain⟨ZE,f45,F7⟩:=VV names f.a hf.1;obtain⟨vJ,qj⟩:=F6 p.decls f.a.s f.a.ts.length hd;obtain⟨b96,h96⟩:=e96 f.j hf.2;simp only[dj,dA];simp[ac_,SE.den,ab];refine⟨_,F7,?_⟩;cases ZE<;>simp;refine⟨_,Ty false f.a hf.1 (f45 rfl),?_⟩;simp;by_cases z:varsOf f.a.ts=[]
 rotate_left
 ·right;exact z
 left;refine⟨z,_,qj,?_⟩;cases vJ<;>simp;by_cases z2:f.j=[]
 ·right;exact z2
 left;refine⟨auh.2 z2,_,h96,?_⟩;cases b96<;>simp;have hp:0<f.j.length:=auh.2 z2;have j1:=dB (l:=f.j) (i:=f.j.length- 1) (by omega);have jw:=Fm hp (Nat.le_refl _) hf.2;simp only[iL]at j1;simp[j1,jw];exact fun _=>z2
section
variable{k0 k1 k2:List IV→Prop}{x0 x1 x2 x3 x4 x5 x6 x7 x8 eZ:IV}
theorem anf(L_:List De)(rs:List Rl)(HL:rs.length≤8)(hr:∀r∈rs,r.keep.length+r.remove.length≤3∧0<r.keep.length+r.remove.length)(fs:List Fa)(tB:∀f∈fs,Gd f)(m:Me)(hm:vI m)(ks:List Int):
 QN.sat ar3 CC AX [k0,k1,k2] [aP L_ rs,aM m,x2,x3,x4,x5,x6,x7,x8,F8 fs,eZ,iM ks]:=by
 have hl:=hm.l;refine ao m.log.length (fun j (q:List (Int×Int)×List (Int×Int))=>[iI j,oQ q.1,oQ q.2]) (fun _ _=>True) ([],[]) ?_ trivial fun j q hj _=>?_
 ·simp[SE.den,ab]
 by_cases aa:j<m.log.length
 ·have hw:=aw aa (by omega);have hi6:=ane (Q':=AX) (k0:=k0) (k1:=k1) (k2:=k2) (k3:=OZ m.log.length (fun j (q:List (Int×Int)×List (Int×Int))=>[iI j,oQ q.1,oQ q.2]) (fun _ _=>True) j) (x1:=aM m) (x2:=x2) (x3:=x3) (x4:=x4) (x5:=x5) (x6:=x6) (x7:=x7) (x8:=x8) (eZ:=eZ) L_ rs HL hr fs tB m.log[j] (hm.x _ (asb aa)) ks j (by omega) q.1 q.2 (fun p q'=>.mk (p,q') rfl (by omega) trivial) ⟨false,rfl⟩;simp[SE.den,aa,Vu aa,ab];exact hi6
 ·obtain⟨z,hz,h8⟩:=am7 (x0:=aP L_ rs) (x1:=aM m) (x2:=x2) (x3:=x3) (x4:=x4) (x5:=x5) (x6:=x6) (x7:=x7) (x8:=x8) (x9:=F8 fs) (eZ:=eZ) (ju:=iI j) ks q.1 q.2 (k0:=fun _=>False) (k1:=fun _=>False) (k2:=fun _=>False) (k3:=fun _=>False);simp[SE.den,aa,ab,lO];exact⟨z,hz,h8⟩
theorem aiF(L_:List De)(rs:List Rl)(HL:rs.length≤8)(hr:∀r∈rs,r.keep.length+r.remove.length≤3∧0<r.keep.length+r.remove.length)(fs:List Fa)(tB:∀f∈fs,Gd f)(m:Me)(hm:vI m):
 L7.sat ar3 CC AX [k0,k1] [aP L_ rs,aM m,x2,x3,x4,x5,x6,x7,x8,F8 fs]:=by
 have hl:=hm.p;refine ao m.past.length (fun j (q:List Int)=>[iI j,iM q]) (fun _ _=>True) [] ?_ trivial fun j q hj _=>?_
 ·simp[SE.den,ab]
 by_cases aa:j<m.past.length
 ·simp[SE.den,aa,vW aa,ab,cellsOf,au];exact am8 j (by omega) q _ fun q'=>.mk q' rfl (by omega) trivial
 ·simp[SE.den,aa,ab];exact anf L_ rs HL hr fs tB m hm q
theorem aiG(p:Pg)(hp:F4 p)(hr:∀r∈p.rules,r.keep.length+r.remove.length≤3∧0<r.keep.length+r.remove.length)(fs:List Fa)(tB:∀f∈fs,Gd f)(m:Me)(hm:vI m)(hn:∀f∈m.facts++m.past,zC f):
 L8.sat ar3 CC AX [k0] [aP p.decls p.rules,aM m,x2,x3,x4,F8 fs]:=by
 have hl:=hm.p;have hd:=hp.d;refine ao m.past.length (fun j (q:Int×Bool×List Fa)=>[iI j,iI q.1,iB q.2.1,F8 q.2.2]) (fun _ q=>∀f∈q.2.2,Gd f) (0,false,fs) ?_ tB fun j q hj hq=>?_
 ·simp[SE.den,ab]
 by_cases aa:j<m.past.length
 ·have hw:=aw aa (by omega);have iY:=List.mem_append_right m.facts (asb aa);obtain⟨b,hb,ZH⟩:=aiE p (by unfold Sm;omega) m.past[j] (hn _ iY) m.given;have abE:=hm.j _ iY;simp only[dj,dA]at ZH;obtain⟨la,fl,q⟩:=q;simp only at hq;simp[SE.den,aa,hw,vW aa,ab];by_cases y1:m.past[j].id≤la
  ·left;exact y1
  right;refine⟨by omega,?_⟩;by_cases y2:m.next≤m.past[j].id
  ·left;exact y2
  right;refine⟨by omega,_,ZH,?_⟩;cases b<;>simp;rcases QR q m.past[j].id with⟨i,f,hf,g1,g2,g3⟩|g1
  ·try simp only[iI]at g1
   simp[g1,g2,yy,dA,ab]
  ·try simp only[iI]at g1
   simp[g1,ab];refine .mk (m.past[j].id,true,q++[m.past[j]]) (by simp[yy,dA]) (by omega) fun g hg=>?_;simp only at hg;rcases asE.1 hg with hg|hg
   ·exact hq g hg
   ·simp at hg;subst hg;exact⟨hb rfl,abE⟩
 ·simp[SE.den,aa,ab];exact aiF p.decls p.rules hp.r hr q.2.2 hq m hm
theorem aiH(p:Pg)(hp:F4 p)(hr:∀r∈p.rules,r.keep.length+r.remove.length≤3∧0<r.keep.length+r.remove.length)(m:Me)(hm:vI m)(hn:∀f∈m.facts++m.past,zC f):
 L9.sat ar3 CC AX [] [aP p.decls p.rules,aM m,x2]:=by
 have hl:=hm.f;have hd:=hp.d;refine ao m.facts.length (fun j (q:Int×List Fa)=>[iI j,iI q.1,F8 q.2]) (fun _ q=>∀f∈q.2,Gd f) (0,[]) ?_ (by simp) fun j q hj hq=>?_
 ·simp[SE.den,ab]
 by_cases aa:j<m.facts.length
 ·have hw:=aw aa (by omega);have iY:=List.mem_append_left m.past (asb aa);obtain⟨b,hb,ZH⟩:=aiE p (by unfold Sm;omega) m.facts[j] (hn _ iY) m.given;have abE:=hm.j _ iY;simp only[dj,dA]at ZH;obtain⟨la,q⟩:=q;simp only at hq;simp[SE.den,aa,hw,vW aa,ab];by_cases y1:m.facts[j].id≤la
  ·left;exact y1
  right;refine⟨by omega,?_⟩;by_cases y2:m.next≤m.facts[j].id
  ·left;exact y2
  right;refine⟨by omega,_,ZH,?_⟩;cases b<;>simp;rcases QR q m.facts[j].id with⟨i,f,hf,g1,g2,g3⟩|g1
  ·try simp only[iI]at g1
   simp[g1,g2,yy,dA,ab]
  ·try simp only[iI]at g1
   simp[g1,ab];refine .mk (m.facts[j].id,q++[m.facts[j]]) (by simp[yy,dA]) (by omega) fun g hg=>?_;simp only at hg;rcases asE.1 hg with hg|hg
   ·exact hq g hg
   ·simp at hg;subst hg;exact⟨hb rfl,abE⟩
 ·simp[SE.den,aa,ab];exact aiG p hp hr q.2 hq m hm hn
end
theorem n13:(ar3.funcs[13]?).map (·.params.size)=some 2:=by kernel_rfl
theorem t13(z:IV):aD ar3 13 z=true:=by kernel_rfl
theorem e13(p:Pg)(hp:Wa p)(m:Me)(hm:vI m)(hn:∀f∈m.facts++m.past,zC f):∃b,CC 13 false [dj p,cV m] (iB b):=by
 have hs:QO.sat ar3 CC AX [] [dj p,cV m]:=by
  obtain⟨n,hh,HI⟩:=e11 p hp;have hl:=hm.l;have hf:=hm.f;have hpp:=hm.p;have hw:aso.wrap ((m.facts.length:Int)+m.past.length)=m.facts.length+m.past.length:=eb (by omega) (by omega);simp only[dj,cV]at*
  simp[QO,SE.den,ab,hw];refine⟨_,HI,?_⟩;simp[rM];by_cases z0:n=0
  rotate_left
  ·left;exact z0
  right;refine⟨z0,?_⟩;by_cases z1:m.next<1
  ·left;exact z1
  right;refine⟨by omega,?_⟩;by_cases z2:2147483648<m.next
  ·left;exact z2
  right;refine⟨by omega,?_⟩;by_cases z3:m.given<0
  ·left;exact z3
  right;refine⟨by omega,?_⟩;by_cases z4:64<m.given
  ·left;exact z4
  right;refine⟨by omega,?_⟩;obtain⟨c,hc⟩:=Y2 ((m.facts.length:Int)+m.past.length) m.log.length;simp only[iI]at hc;simp[hc,au];by_cases z5:5000<c
  ·left;exact z5
  right;refine⟨by omega,?_⟩;exact aiH p hp.s (fun r hr=>⟨(hp.s.rs r hr).h,hh z0 r hr⟩) m hm hn
 obtain⟨z,⟨b,rfl⟩,h2⟩:=yk (by rfl) hs;exact⟨b,CC.of am2 n13 (t13 _) (by intro y hy;simp at hy;rcases hy with rfl|rfl;exact fA p;exact gq m) (.raw _) h2⟩
end Go.Proofs.YtggffkaadeagbaaGreat
