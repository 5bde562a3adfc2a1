/- A part of the proof, no condition: the sorting of Retract. -/
import Derived.Test.YtggffkaadeagbaaGreatEvJ
import Derived.Test.YtggffkaadeagbaaGreatRuH
open Go.Proofs.Tryz renaming prog->ar3
open Go.IntKind renaming i64->aso
open List renaming take_succ_eq_append_getElem->asm,getElem?_append_right->asw,drop_eq_getElem_cons->asq
open List.Pairwise renaming nil->avX
set_option linter.all false
namespace Go.Proofs.YtggffkaadeagbaaGreat
open Go Go.Ev
theorem n61:(ar3.funcs[61]?).map (·.params.size)=some 2:=by kernel_rfl
theorem t61(z:IV):aD ar3 61 z=true:=by kernel_rfl
theorem n22:(ar3.funcs[22]?).map (·.params.size)=some 2:=by kernel_rfl
def Sp:af:=
 (qw E8 7 Fb 1 (q4 5) 7 (zb 9 (.ins 3 (.var 8) gR .an) (er 1 7 10)) (pQ 0 2 8 4))
def adZ:af:=
 (GG (wB 12 13) (HX .gtr 3 14 eX) (cB (nc 4 15 14) ng (uU (rF 4 15 ng) 61 (np (s5 4 15 14) (ri 1) (ri 2) (ri 3)) (np (mj 0) (mj 1) (mj 2) (mj 3)) (oz (fF 16) .lss (fF 16) (cB ng ng (cB (rF 4 15 ng) (nc 4 15 14) (u5 (nc 4 15 14) 4 zf s_ (np (mj 0) (mj 1) (mj 2) (mj 3)) (u5 (rF 4 17 ng) 4 E6 ng (np (s5 4 15 14) (ri 1) (ri 2) (ri 3)) (N4 5 .sub 3 14 1 (ou 18)))))) (er 4 12 15)))) (er 4 12 15))
def ad0:af:=
 (sX (BB 10 11) 3 12 jK adZ (aah 3 9 20 (wB 9 13)))
def Sq:af:=
 (GG (wB 12 13) (HX .gtr 3 14 eX) (cB (nc 4 15 14) ng (uU (rF 4 15 ng) 61 (np (s5 4 15 14) (ri 1) (ri 2) (ri 3)) (np (mj 0) (mj 1) (mj 2) (mj 3)) (oz (fF 16) .lss (fF 16) (cB ng ng (cB (rF 4 15 ng) (nc 4 15 14) (u5 (nc 4 15 14) 4 zf s_ (np (mj 0) (mj 1) (mj 2) (mj 3)) (u5 (rF 4 17 ng) 4 E6 ng (np (s5 4 15 14) (ri 1) (ri 2) (ri 3)) (N4 5 .sub 3 14 1 (ou 18)))))) (er 4 12 15)))) (er 4 12 15))
def ad1:af:=
 (.loop .an (kK .leq (rh .mul 2 uY) (jz 7) (.aG (kC bz uY) (.fail 119)) (fx (kC bz uY) .lss (kC bz uY) (jz 7) (.fail 119) (.aG (ni .mul 16 2) (.next 5 (MA (rh .mul 2 uY) (ni .mul 16 2)))))))
def Sr:af:=
 (sX (nj jK eX tl) 3 16 (jz 7) (.aG (rh .mul 2 uY) ad1) (uS 2 13))
def Ss:af:=
 (sX (BB 10 11) 3 12 (jz 7) Sq Sr)
def Su:af:=
 (GG (MB tl (ou 7)) (HX .leq 3 9 (jz 7)) (oJ 10 ad0) (oJ 10 Ss))
def Sv:af:=
 (sX pe 3 10 (jz 9) (uU (nc 4 9 10) 58 (By 9 10 3) bK (.nt ra (uS 3 10) (gb 4 10))) (vQ 3 H4))
def Sw:af:=
 (sY (zk (oI 10) eX 9) (jz 13) 3 11 (jz 13) (uU (nc 4 13 11) 58 (By 13 11 3) bK (kW 14 14 (u5 (nc 4 13 12) 4 nu E9 (np (s5 4 13 11) (By 13 11 1) (By 13 11 2) (By 13 11 3)) (oJ 12 (Bt 3 11 (BB 12 15)))) (pQ 3 11 12 13))) (yZ (.sub 4 nu E9 (jz 13)) (.HN 4 nu E9 zi) (UO 4 14 bz E9 (.next 2 (zk zf s_ 14)))))
def Pb:af:=
 (tj (.aG (jz 9) Sv) (.nt (ni .eql 10 (-1)) (.next 2 (zk jK jK 9)) (oJ 10 Sw)))
def Pc:af:=
 (sX pe 3 13 re (uU (nc 4 8 13) 58 (By 8 13 3) bK (.nt (fF 14) (uS 3 13) (gb 4 13))) (vQ 3 H4))
def Pd:af:=
 (sY (zk (oI 13) nu 8) (jz 16) 3 14 (jz 16) (uU (nc 4 16 14) 58 (H3 16 3) bK (kW 17 17 (u5 (nc 4 16 15) 4 uY zf (np (s5 4 16 14) (H3 16 1) (H3 16 2) (H3 16 3)) (oJ 15 (Bt 3 14 (BB 15 18)))) (pQ 3 14 15 16))) (yZ (.sub 4 uY zf (jz 16)) (.HN 4 uY zf zi) (UO 4 17 bz zf (.next 2 (zk (.var 18) E6 17)))))
def Pe:af:=
 (tj (.aG re Pc) (.nt (ni .eql 13 (-1)) (.next 2 (zk (.var 8) (.var 8) 8)) (oJ 13 Pd)))
def Pf:af:=
 (.o8 Pe 3 (vS (yY eX nu (zR q9 0 3 (qv 0 4))) bz))
def Pj:af:=
 (.o8 Pb 3 Pf)
def Pk:af:=
 (tj (.aG (jz 7) Su) Pj)
def Pl:af:=
 (qw (nj bz q8 oA) 6 dS 4 me 6 (jJ 4 9 (.qL 0 (.get 3 tf (cW 9) .an)) (BH 3 tf (cW 9) (.test eX (q6 4 72 7 4 (fy 9 9 9 9) (pQ 1 6 11 8)) (q6 4 72 8 4 (fy 9 9 9 9) (pQ 1 6 7 11))))) Pk)
def Pm:af:=
 (tj (.two jL (vQ 1 oA) (rE 4 72 oA jL (uS 1 5))) (.aG dS Pl))
def aba:af:=
 (qw (nj bz zd abY) 2 jM 6 wL 2 (jy 6 5 (fV 58 (qN 5 5) bK (.nt eh (.aG Fb Sp) (q6 6 112 4 6 (jN 5 5 5 5 5 5) (pQ 0 2 3 7))))) Pm)
def Yq:af:=
 (jy 5 0 (mE bK .lss bK 1 (UW (UT oA oA) 13) (kK .gtr bK (qN 0 4) (UW (UT oA oA) 13) (.aG jM aba))))
def agw:aL:=⟨dX,dM,stops,[⟨0,22,1000069,[],[(5,0)],[],[]⟩,⟨2,22070009,2,[(2,(7,0)),(2,(8,0))],[(5,0)],[],[]⟩,⟨3,22070009028,1,[(3,(8,0))],[(5,0)],[],[]⟩,⟨3,22070009019,1,[(3,(8,0))],[(5,0)],[],[]⟩,⟨0,22,1000076,[],[(6,3),(6,0)],[],[(0,(74,2)),(0,(76,2))]⟩,⟨1,22077,5,[(1,(5,0)),(1,(6,0))],[(6,0)],[],[]⟩,⟨1,22077,1000010,[(1,(10,0))],[],[],[]⟩,⟨2,22077011,2,[(2,(8,0))],[],[],[]⟩,⟨0,22,1000073,[],[(5,3),(5,0)],[],[(0,(71,2)),(0,(73,2))]⟩,⟨1,22074,5,[(1,(5,0)),(1,(6,0))],[(5,0)],[],[]⟩,⟨1,22074,1000010,[(1,(10,0))],[],[],[]⟩,⟨2,22074011,2,[(2,(8,0))],[],[],[]⟩,⟨2,22070009,7,[(2,(7,0)),(2,(6,0)),(2,(8,0))],[],[],[]⟩,⟨3,22070009028,4,[(3,(9,0))],[(5,0)],[],[]⟩,⟨3,22070009019,4,[(3,(9,0))],[(5,0)],[],[]⟩,⟨0,22,14,[(0,(11,0)),(0,(10,0)),(0,(51,0))],[(6,3),(6,0),(5,3),(5,0)],[(0,47)],[]⟩,⟨0,22,1000047,[(0,(47,0))],[(5,3),(5,0)],[],[]⟩,⟨0,22,6,[(0,(7,0)),(0,(28,0))],[(4,3),(4,0),(3,0)],[],[]⟩,⟨1,22040,1,[(1,(8,0))],[(3,0)],[],[]⟩],[]⟩
theorem aks:aA ar3 agw 400 false 22=Yq:=by kernel_rfl
theorem t22(a b:IV):aD ar3 22 (.av [a,b])=true:=by kernel_rfl
variable{Q:IV→Prop}{k0 k1 k2 k3 k4 k5:List IV→Prop}
theorem apj(a b:Fa):CC 61 true [dA a,dA b] (iI (di a.id b.id)):=by
 refine CC.of aj8 n61 (t61 _) (by simp[D8]) (by simp) ?_;simp[Yg,SE.den,dA,ab,au];refine⟨_,D9 _ _,?_⟩;simp[SE.den,au]
theorem abb{l:List Fa}{i:Nat}{f:Fa}(h:l[i]?=some f):cq 4 (bF l) (iI (i:Nat))=some (.agg [iI f.id,iS f.a.s,iT f.a.ts,iL f.j]):=dv (by simp[h,dA]) rfl
theorem MJ{l:List Fa}{i:Nat}(f:Fa)(h:i<l.length):vw 4 (bF l) (iI (i:Nat)) (.agg [iI f.id,iS f.a.s,iT f.a.ts,iL f.j])=some (bF (l.set i f)):=by
 simp[vw,fa,h,cellsOf,List.map_set,dA]
theorem abc{α:Type}{A B:List α}{x y:α}{j:Nat}(h:A.length=j):((A++y::x::B).set (j+1) y).set j x=A++x::y::B:=by
 subst h;simp[List.set_append]
theorem akt{v0 v1 v2 v3 v4 v5 v6 v7 v8 v9 v11:IV}{p rest:List Fa}{x:Fa}(hs:F0 jd p)(hlen:p.length+rest.length≤100)(hk:k4 [iI (p.length+1:Nat),bF (ia jd x p++rest)]):
 Sq.sat ar3 CC Q [k0,k1,k2,k3,k4] [v0,v1,v2,v3,v4,v5,v6,v7,v8,v9,iI 0,v11,iI p.length,bF (p++x::rest)]:=by
 have Yr:aso.wrap ((p.length:Int)+1)=((p.length+1:Nat):Int):=aw (n:=p.length+1) (by omega) (by omega);refine eY (fun j:Nat=>[iI j,bF (p.take j++x::(p.drop j++rest))]) (fun j=>j≤p.length∧∀b∈p.drop j,jd x b=true) (fun j=>j) p.length ?_ ?_ fun j ⟨hj,hB⟩=>?_
 ·simp[SE.den]
 ·simp
 have w6:(∀i,j=i+1→∀a,p[i]?=some a→jd x a=false)→k4 [iI (p.length+1:Nat),bF (p.take j++x::(p.drop j++rest))]:=fun hA=>by
  have:=Pa aa_ hs hj hB hA;rw[show p.take j++x::(p.drop j++rest)=(p.take j++x::p.drop j)++rest by simp,this];exact hk
 cases j with
 |zero=>
  have h0:=w6 (fun i hi=>by omega);simp only[List.take_zero,List.drop_zero,List.nil_append]at h0;simp[SE.den,Yr]
  first|exact h0|simpa using h0
 |succ j=>
  have qa:j<p.length:=by omega
  have gX:p.take (j+1)++x::(p.drop (j+1)++rest)=p.take j++p[j]::x::(p.drop (j+1)++rest):=by
   rw[asm qa,List.append_assoc];rfl
  have Kn:(p.take j).length=j:=by simp;omega
  have IK:=abc (A:=p.take j) (B:=p.drop (j+1)++rest) (x:=x) (y:=p[j]) Kn
  have D3:(p.take j++p[j]::x::(p.drop (j+1)++rest))[j+1]?=some x:=by
   rw[asw (by omega),Kn];simp
  have D4:(p.take j++p[j]::x::(p.drop (j+1)++rest))[j]?=some p[j]:=by
   rw[asw (by omega),Kn];simp
  have dG:p.take j++x::p[j]::(p.drop (j+1)++rest)=p.take j++x::(p.drop j++rest):=by
   rw[asq qa];rfl
  rw[gX]at w6⊢;generalize p.take j++p[j]::x::(p.drop (j+1)++rest)=R at w6 D3 D4 IK⊢;have hRl:j+1<R.length:=(List.getElem?_eq_some_iff.1 D3).1;have AQ:aso.wrap (j:Int)=j:=eb (by omega) (by omega);have IL:vw 4 (bF R) (iI ((j:Int)+1)) (.agg [iI p[j].id,iS p[j].a.s,iT p[j].a.ts,iL p[j].j])=some (bF (R.set (j+1) p[j])):=MJ (l:=R) (i:=j+1) p[j] hRl;have Pn:(R.set (j+1) p[j])[j]?=some p[j]:=by rw[List.getElem?_set_ne (by omega)];exact D4
  have w7:=MJ (l:=R.set (j+1) p[j]) (i:=j) x (by simp;omega);rw[IK,dG]at w7;generalize R.set (j+1) p[j]=R1 at IL Pn w7;generalize hR2:p.take j++x::(p.drop j++rest)=R2 at w7;have agx:=apj x p[j];simp only[dA]at agx;have bw:cq 4 (bF R) (iI ((j:Int)+1))=_:=abb D3;have gi:=abb D4;have Ng:=abb Pn;have om:(0:Int)<(j:Int)+1:=by omega
  simp[SE.den,AQ,bw,gi,ab,cellsOf,om];refine⟨_,agx,?_⟩;simp[SE.den,AQ,bw,gi,Ng,ab,cellsOf,IL,w7,Yr];by_cases aa:x.id<p[j].id
  ·left;refine⟨by unfold di;rw[if_pos aa];omega,.mk j ?_ ⟨by omega,fun b hb=>?_⟩ (Nat.lt_succ_self _)⟩
   ·rw[hR2]
   ·rw[asq qa]at hb;rcases List.mem_cons.1 hb with rfl|hb
    ·simpa[jd]using aa
    ·exact hB b hb
  ·right;refine⟨by unfold di;rw[if_neg aa];split<;>omega,?_⟩
   have h0:=w6 (fun i hi a ha=>by
    have:i=j:=by omega
    subst this;rw[List.getElem?_eq_getElem qa]at ha;cases ha;simpa[jd]using aa)
   first|exact h0|simpa using h0
theorem aku{v0 v1 v2 v3 v4 v5 v6 v8 v11 v12:IV}{l cur:List Fa}(hl:l.length≤18)(hk:k2 [bF cur]):
 Sr.sat ar3 CC Q [k0,k1,k2,k3,k4] [v0,v1,v2,v3,v4,v5,v6,bF l,v8,iI 20,iI 0,v11,v12,bF cur]:=by
 refine eY (fun _:Unit=>[iI 20,iI 0,iI 20]) (fun _=>True) (fun _=>0) () ?_ trivial fun _ _=>?_
 ·simp[SE.den]
 have:¬((20:Int)<l.length):=by omega
 simp[SE.den,this];exact hk
theorem akv{v0 v1 v2 v3 v4 v5 v6 v8:IV}{l:List Fa}(hl:l.length≤18)(hk:k2 [bF (ee jd [] l)]):
 Ss.sat ar3 CC Q [k0,k1,k2,k3] [v0,v1,v2,v3,v4,v5,v6,bF l,v8,iI 20,iI 0,bF l]:=by
 have tT:aso.wrap 1=1:=rfl;refine eY (fun p:Nat×List Fa=>[iI p.1,bF p.2]) (fun p=>1≤p.1∧p.2=ee jd [] (l.take p.1)++l.drop p.1) (fun p=>l.length+1- p.1) (1,l) ?_ ?_ fun⟨i,cur⟩ ⟨hi,hc⟩=>?_
 ·simp[SE.den,tT]
 ·refine⟨Nat.le_refl _,?_⟩;cases l with
  |nil=>rfl
  |cons a l=>simp[ee,ia]
 simp only at hi hc;by_cases aa:i<l.length
 ·rw[asq aa]at hc;simp[SE.den,aa];subst hc;have iW:(ee jd [] (l.take i)).length=i:=by rw[xo];simp;omega
  have h:=akt (Q:=Q) (k0:=k0) (k1:=k1) (k2:=k2) (k3:=k3) (k4:=O0 (fun p:Nat×List Fa=>[iI p.1,bF p.2]) (fun p=>1≤p.1∧p.2=ee jd [] (l.take p.1)++l.drop p.1) (fun p=>l.length+1- p.1) (i,ee jd [] (l.take i)++l[i]::l.drop (i+1)))
   (v0:=v0) (v1:=v1) (v2:=v2) (v3:=v3) (v4:=v4) (v5:=v5) (v6:=v6) (v7:=bF l) (v8:=v8) (v9:=iI 20) (v11:=bF l) (p:=ee jd [] (l.take i)) (rest:=l.drop (i+1)) (x:=l[i]) (J2 aa_ _ avX) (by simp;omega) ?_
  ·rw[iW]at h;simpa using h
  ·rw[iW];refine .mk (i+1,ia jd l[i] (ee jd [] (l.take i))++l.drop (i+1)) rfl ⟨by omega,?_⟩ (by simp;omega);rw[asm aa,O_]
 ·simp[SE.den,aa];rw[List.take_of_length_le (by omega),List.drop_of_length_le (by omega),List.append_nil]at hc;rw[hc];exact aku hl hk
theorem akw{v0 v1 v2 v3 v4 v5 v6 v8:IV}{l:List Fa}(hl:l.length≤18)(hk:k2 [bF (ee jd [] l)]):
 Su.sat ar3 CC Q [k0,k1,k2] [v0,v1,v2,v3,v4,v5,v6,bF l,v8]:=by
 refine eY (fun _:Unit=>[iI 20,iI 0,bF l]) (fun _=>True) (fun _=>0) () ?_ trivial fun _ _=>?_
 ·simp[SE.den]
 have:¬((20:Int)≤l.length):=by omega
 simp[SE.den,this];exact akv hl hk
end Go.Proofs.YtggffkaadeagbaaGreat
