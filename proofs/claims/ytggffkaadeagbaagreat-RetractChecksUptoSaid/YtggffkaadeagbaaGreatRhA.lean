/- A part of the proof, no condition: the checks of the program come to an end: terms; maps keyed by declarations; rows put behind each other. -/
import Derived.Test.YtggffkaadeagbaaGreatEvJ
import Derived.Test.YtggffkaadeagbaaGreatRuA
import Derived.Test.YtggffkaadeagbaaGreatRgA
import Derived.Test.YtggffkaadeagbaaGreatRgR
import Derived.Test.YtggffkaadeagbaaGreatEvR
import Derived.Test.YtggffkaadeagbaaGreatRgI
open Go.Proofs.Tryz renaming prog->aqD,underlying86->avd
open Go.Op renaming equalIn->ar3,equal->atO
open Option renaming bind_some->aqN
open Bool renaming false_eq_true->ara
open Go.Instr renaming findAsking->arD,findKey->ar7,sameBits->ati
open Go renaming undef->art
open List renaming map_map->ato,flatten_append->arS,length_append->aq3,mem_map->aq5,length_flatten->ar1,take_length->avn,getElem?_cons_zero->asb,replicate->aq1
open Go.IntKind renaming i64->arc
set_option linter.all false
namespace Go.Proofs.YtggffkaadeagbaaGreat
open Go Go.Ev
def I0:List Nat:=[123,127,126,186,189,44,79,30,102,9,10,23,31,15,257,149,89,148,198,147,199,50,191,71,214,93,163,49,152,64,164,158,95,108,206,250,213,130,131,107,129,155,34,90,51,202,153,201,200,151,203,150,204,154,91,41,67,101,99,109,157,210,12,26,28,25,14,19,100,40,39,70,69,35,53,52,68,42,58,75,24,27,22,29,61,190,66,133,128,249,121,78,183,83,211]
def I1:List Nat:=[48,118,216]
def I2:List Nat:=[185,188,254]
def I3:List Nat:=[155,159,103]
def YU:ab:=
 (mw 4 1 dQ (we (vX 0) .lss (vX 0) pP (n_ .lss 3 dQ (.i 1) pP (lE .eql 1 0 (jS .geq 1 1 (-2147483648) (jS .leq 1 1 2147483648 (tv 9 1 2 (dI fy (Fe fy) (Va (.rw (Fe fy)) 0)) pP) pP) pP) (q0 1 0 1 (lE .geq 1 1 (jS .leq 1 1 1048576 (tv 9 1 2 (dI fy (Fe fy) (Va (.rw (Fe fy)) 0)) pP) pP) pP) (q0 1 0 2 (lE .neq 1 1 pP (AW fy fy 6 pP (kB 83 yF (qp 3 3 (kB 211 yF (.nt fz (sZ 3 (GP (JV .eql fy 2) (JV .eql fy 2) pP (.aQ (uB dQ) (gZ 815 (Vb (jf (U_ 0)) 1 3 (uB dQ)) (.aQ (wj 5) (sY (.rw (wj 5)) (jf (OD 5 1 0)))))))) pP)) (.aQ (uB dQ) (gZ 815 (Vb (jf (U_ 0)) 1 3 (uB dQ)) (.aQ (wj 4) (sY (.rw (wj 4)) (jf (OD 4 1 0)))))))))) pP))))))
def agF:bj:=⟨I0,I1,I2,[],I3⟩
theorem ak6:wP aqD agF 400 [1] 159=YU:=by kernel_rfl
def Qg:ab:=
 (gE wi 3 gD 4 dy 3 (q5 5 (gZ 871 (M8 (jf (rq 4)) (kO 5 5 5 5) dQ) (GP (wj 6) (wj 6) (sY U9 (jf (OD 6 1 0))) (oz 0 3 (OD 6 1 0))))) (sY (.rw kZ) (rq 4)))
def YV:ab:=
 (dI dy dQ (.aQ gD Qg))
def agG:bj:=⟨I0,I1,I2,[⟨1,103,2,[(1,(10,0))],[(0,0)],[],[]⟩],I3⟩
theorem ak7:wP aqD agG 400 [1] 103=YV:=by kernel_rfl
def acD:ab:=
 (gi 2 0 83 pO (wk dy (tx fc .leq fc 6 (Bg 815 (ub A_ 0 1 Bh) 2))))
def ak8:bj:=⟨I0,I1,I2,[],I3⟩
theorem aoI:aI aqD ak8 400 false 45=acD:=by kernel_rfl
def YW:ab:=
 (pM (lM 3 0) pO (kB 83 ng (wk dy (tx lB .leq lB 6 (Bg 815 (ub A_ 0 2 Bh) 2)))) (q0 0 0 1 (lE .gtr 0 0 (jS .leq 0 0 12 (tv 9 0 1 (pM lB lB (Bg 815 (ub A_ 0 2 Bh) 1) a_) a_) a_) a_) (q0 0 0 2 (lE .gtr 0 0 (jS .leq 0 0 12 (tv 9 0 1 (pM lB lB (Bg 815 (ub A_ 0 2 Bh) 1) a_) a_) a_) a_) (q0 0 0 11 (lE .gtr 0 0 (jS .leq 0 0 12 (tv 9 0 1 (tx lB .eql lB 1 (Bg 815 (ub A_ 0 2 Bh) 1)) a_) a_) a_) (q0 0 0 12 (lE .gtr 0 0 (jS .leq 0 0 12 (tv 9 0 1 (tx lB .eql lB 1 (Bg 815 (ub A_ 0 2 Bh) 1)) a_) a_) a_) (lE .gtr 0 0 (jS .leq 0 0 12 (tv 9 0 1 (tx lB .eql lB 2 (Bg 815 (ub A_ 0 2 Bh) 1)) a_) a_) a_))))))
def agH:bj:=⟨I0,I1,I2,[],I3⟩
theorem ak9:aI aqD agH 400 false 138=YW:=by kernel_rfl
end Go.Proofs.YtggffkaadeagbaaGreat
namespace Go.Proofs.YtggffkaadeagbaaGreat
open Go Go.Ev
structure Names:Prop where
 right:∀s:List UInt8,Sm s→∃b,CC 83 false [iS s] (iB b)
 oper:∀s:List UInt8,Sm s→∃b,CC 211 false [iS s] (iB b)
theorem dK:aqD.funcs.size=356:=by kernel_rfl
theorem n159:(aqD.funcs[159]?).map (·.params.size)=some 3:=by kernel_rfl
theorem n103:(aqD.funcs[103]?).map (·.params.size)=some 3:=by kernel_rfl
theorem n45:(aqD.funcs[45]?).map (·.params.size)=some 1:=by kernel_rfl
theorem t45(z:IV):aN aqD 45 z=true:=by kernel_rfl
theorem n138:(aqD.funcs[138]?).map (·.params.size)=some 1:=by kernel_rfl
theorem t138(z:IV):aN aqD 138 z=true:=by kernel_rfl
end Go.Proofs.YtggffkaadeagbaaGreat
namespace Go.Proofs.YtggffkaadeagbaaGreat
open Go Go.Ev
def ak_(p:Bool→Prop)(z:IV):Prop:=∃(b:Bool) (n:Int),z=.av [iB b,.agg [iI n]]∧p b
@[simp] theorem apD(p:Bool→Prop)(b:Bool)(n:Int):ak_ p (.av [iB b,.agg [iI n]])↔p b:=
  ⟨fun⟨b',n',h1,h2⟩=>by cases h1;exact h2,fun h=>⟨b,n,rfl,h⟩⟩
end Go.Proofs.YtggffkaadeagbaaGreat
namespace Go.Proofs.YtggffkaadeagbaaGreat
open Go Go.Ev
theorem ala:aqD.underlying 9=some .string:=by kernel_rfl
theorem eq9(d:Nat)(a b:ByteArray):aK aqD (ar3 (d+1) 9 (.string a) (.string b))=some (a==b):=by
 rw[ar3,bn,Go.Ev.run_underlying ala,aqN];rfl
theorem eq3(d:Nat)(a b:Int):aK aqD (ar3 (d+1) 3 (.int .i64 a) (.int .i64 b))=some (a==b):=by
 rw[ar3,bn,Go.Ev.run_underlying aa6,aqN];rfl
theorem agI(d:Nat)(x y x' y':Value)(b1 b2:Bool)(h1:aK aqD (ar3 (d+1) 9 x x')=some b1)(h2:aK aqD (ar3 (d+1) 3 y y')=some b2):
 aK aqD (ar3 (d+2) 86 (.agg #[x,y]) (.agg #[x',y']))=some (b1&&b2):=by
 rw[ar3,bn,Go.Ev.run_underlying avd,aqN];have cg:aqD.stoodInHeld 86=false:=by kernel_rfl
 have p9:∀(a b:Value),aK aqD (part 9 #[a,b] 0)=some a:=fun a b=>by kernel_rfl
 have p3:∀(a b:Value),aK aqD (part 3 #[a,b] 1)=some b:=fun a b=>by kernel_rfl
 have hp:aK aqD program=some aqD:=rfl;rw[bn,hp,aqN,cg];simp only[ara,if_false,←Array.forIn_toList,List.forIn_cons,List.forIn_nil,bn,ne_eq,String.reduceEq,not_false_eq_true,if_true,p9,p3,aqN,h1,h2];have q:∀{α:Type} (a:α),aK aqD (pure a)=some a:=fun _=>rfl;cases b1
 ·rfl
 ·simp only[Bool.not_true,ara,if_false,q,aqN,bn,p3,h2];cases b2<;>rfl
theorem bq(a b:List UInt8):((⟨a.toArray⟩:ByteArray)==⟨b.toArray⟩)=(a==b):=by
 show(a.toArray==b.toArray)=_;simp
theorem agJ(P:Program)(t:TypeId)(a b c d:Value)(r:Bool)(hg:aK P (eqGuard .eql t (.func 0) (.func 0) (.agg #[a,b]) (.agg #[c,d]))=some ())(h:aK P (atO t (.agg #[a,b]) (.agg #[c,d]))=some r):
 c_ P .eql t (.agg [.raw a,.raw b]) (.agg [.raw c,.raw d])=some (iB r):=by
 show(aK P (do eqGuard .eql t (.func 0) (.func 0) (.agg #[a,b]) (.agg #[c,d]);Go.binOp .eql t (.agg #[a,b]) (.agg #[c,d]))).map lift=_;rw[bn,hg];show(aK P (do pure (.bool (←atO t (.agg #[a,b]) (.agg #[c,d]))))).map lift=_;rw[bn,h];rfl
deriving instance DecidableEq for De
theorem agK(s s':List UInt8)(n n':Int):c_ aqD .eql 86 (.agg [iS s,iI n]) (.agg [iS s',iI n'])=some (iB (s==s'&&n==n')):=by
 refine agJ _ _ _ _ _ _ _ (by kernel_rfl) ?_;rw[←bq];exact agI 9998 _ _ _ _ _ _ (eq9 _ _ _) (eq3 _ _ _)
def fH(d:De):Value:=.agg #[.string ⟨d.s.toArray⟩,.int .i64 d.n]
theorem eqK(k e:De):aK aqD (atO 86 (fH k) (fH e))=some (decide (k=e)):=by
 have h:aK aqD (atO 86 (fH k) (fH e))=some (k.s==e.s&&k.n==e.n):=by
  rw[←bq];exact agI 9998 _ _ _ _ _ _ (eq9 _ _ _) (eq3 _ _ _)
 rw[h];obtain⟨a,b⟩:=k;obtain⟨c,d⟩:=e;simp;rw[Bool.eq_iff_iff];simp
theorem D8{α:Type}(P:Program)(a:α):aK P (pure a)=some a:=rfl
theorem acE(k:De):∀(ks:List De) (i:Nat),(k∈ks→∃j,aK aqD (arD 86 (fH k) (ks.map fun e=>⟨fH e,art,0⟩) i)=some (some (i+j,art))∧ks[j]?=some k)∧
 (k∉ks→aK aqD (arD 86 (fH k) (ks.map fun e=>⟨fH e,art,0⟩) i)=some none)
 |[],i=>by simp[arD,D8]
 |e::ks,i=>by
  obtain⟨h1,h2⟩:=acE k ks (i+1)
  have hu:aK aqD (arD 86 (fH k) ((e::ks).map fun e=>⟨fH e,art,0⟩) i)=aK aqD (if decide (k=e)=true then pure (some (i,art))else arD 86 (fH k) (ks.map fun e=>⟨fH e,art,0⟩) (i+1)):=by
   rw[List.map_cons,arD,bn,eqK,aqN]
  rw[hu];by_cases h:k=e
  ·subst h;exact⟨fun _=>⟨0,by rw[if_pos (by simp)];simp[D8],rfl⟩,fun hn=>absurd (by simp) hn⟩
  ·rw[if_neg (by simpa using h)];refine⟨fun hm=>?_,fun hn=>h2 fun hm=>hn (by simp[hm])⟩;obtain⟨j,g1,g2⟩:=h1 (by simpa[h]using hm);exact⟨j+1,by rw[g1,show i+1+j=i+(j+1) by omega],by simpa using g2⟩
theorem Fu(b:Bool)(k:De):aK aqD (Instr.checkKey b 10000 86 (fH k))=some ():=by
 obtain⟨s,n⟩:=k;cases b<;>kernel_rfl
theorem YX(k:De)(ks:List De):aK aqD (ar7 86 (fH k) (ks.map fun e=>⟨fH e,art,0⟩))=aK aqD (arD 86 (fH k) (ks.map fun e=>⟨fH e,art,0⟩) 0):=by
 unfold ar7;rw[bn,Go.Ev.run_underlying avd,aqN];cases ks with
 |nil=>rfl
 |cons e ks=>rfl
theorem ad3(b:Bool)(k:De)(ks:List De):(k∈ks→∃j,gM aqD b 86 (fH k) ((ks.map fH).map fun e=>(e,.undef,0))=some (some j)∧ks[j]?=some k)∧(k∉ks→gM aqD b 86 (fH k) ((ks.map fH).map fun e=>(e,.undef,0))=some none):=by
 have hm:(((ks.map fH).map fun e=>(e,(.undef:IV),0)).map fun e=>({key:=e.1,val:=art,born:=e.2.2}:MapEntry))=ks.map fun e=>⟨fH e,art,0⟩:=by
  rw[ato,ato];rfl
 obtain⟨h1,h2⟩:=acE k ks 0;refine⟨fun h=>?_,fun h=>?_⟩
 ·obtain⟨j,g1,g2⟩:=h1 h;refine⟨j,?_,g2⟩;unfold gM;rw[bn,Fu,aqN,hm,YX,g1];simp
 ·unfold gM;rw[bn,Fu,aqN,hm,YX,h2 h]
theorem agL(k:De):ati 10000 (fH k) (fH k)=true:=by
 show((#[_,_]:Array Value).size==2&&_)=true;simp[ati,bq]
def yZ(d:De):IV:=.av [.agg [iS d.s,iI d.n],iB true]
theorem YY:∀ds:List De,nI (ds.map yZ)=some (ds.map fH)
 |[]=>rfl
 |k::ks=>by simp[nI,yZ,Ev.keyOf,YY ks,fH];rfl
theorem Tp(ds:List De)(k:De):(k∈ds→∃j,fa aqD 86 (ds.map yZ) (.agg [iS k.s,iI k.n])=some (some j)∧ds[j]?=some k)∧(k∉ds→fa aqD 86 (ds.map yZ) (.agg [iS k.s,iI k.n])=some none):=by
 have h:fa aqD 86 (ds.map yZ) (.agg [iS k.s,iI k.n])=H2 aqD 86 (ds.map fH) (fH k):=by
  unfold fa;rw[YY];have:EZ aqD 86=none:=by kernel_rfl
  rw[this];rfl
 rw[h];obtain⟨a1,a2⟩:=ad3 true k ds
 have hb:gM aqD false 86 (fH k) ((ds.map fH).map fun e=>(e,.undef,0))=gM aqD true 86 (fH k) ((ds.map fH).map fun e=>(e,.undef,0)):=by
  unfold gM;rw[bn,bn,Fu,Fu]
 unfold H2;rw[hb];refine⟨fun hm=>?_,fun hm=>?_⟩
 ·obtain⟨j,g1,g2⟩:=a1 hm;refine⟨j,?_,g2⟩;rw[g1];simp only[if_true];rw[List.getElem?_map,g2];simp only[Option.map_some,agL,if_true]
 ·rw[a2 hm];simp
end Go.Proofs.YtggffkaadeagbaaGreat
namespace Go.Proofs.YtggffkaadeagbaaGreat
open Go Go.Ev
def YZ:List Nat:=[123,127,126,186,189,44,79,30,102,9,10,23,31,15,257,149,89,148,198,147,199,50,191,71,214,93,163,49,152,64,164,158,95,108,206,250,213,130,131,107,129,155,34,90,51,202,153,201,200,151,203,150,204,154,91,41,67,101,99,109,157,210,12,26,28,25,14,19,100,40,39,70,69,35,53,52,68,42,58,98,96,75,211,136,83,192,85,11,24,27,22,13,29,61,36,33,32,84,47,143,46,190,66,87,45,138,133,88,128,249,121,78,183,256,156]
def Y0:List Nat:=[48,118,216]
def Y1:List Nat:=[185,188,254]
def Y2:List Nat:=[155,159,103,173000080,500139,500140,500097,600086]
def D9:ab:=
 (gE eW 4 cj 1 bt 4 (dI jy (.rws jy) (nb 1 8 dP jy (qX 7))) (yH dP))
def Y3:ab:=
 (gE eW 3 cj 1 bt 3 (yO (.rws jI) (lP 1 8 4 jI (A4 3 6))) (yH q3))
def L8:ab:=
 (gE cH 1 cj 1 bt 1 (dI g_ tc (we Fb .lss Fb H_ (oz 0 1 Fb))) (DC 3 2 cH H_ (we (s5 .sub 3 2) .gtr (s5 .sub 3 2) (.bind (.dec 8 (s5 .sub 3 2) (.k .i64 0)) (dI (E8 pR cH) cj D9)) (yE Y3))))
def Kj:ab:=
 (wh L8)
def ad4:bj:=⟨YZ,Y0,Y1,[⟨0,207,11,[(0,(6,0)),(0,(27,0))],[(0,0)],[(0,24)],[]⟩,⟨0,207,3,[(0,(3,0)),(0,(11,0))],[],[],[]⟩,⟨999999,0,0,[],[],[],[]⟩],Y2⟩
theorem agM:wB aqD ad4 400 false 207=Kj:=by kernel_rfl
def Y4:ab:=
 (gE eW 4 cj 1 bt 4 (dI jy (.rws jy) (nb 1 8 dP jy (qX 7))) H_)
def L9:ab:=
 (ni 3 1 3 (dI fz (.sub 1 fz (kA 4) cH) (dT 1 3)) (.ret eW))
def L_:ab:=
 (gE cH 1 cj 1 bt 1 (dI g_ tc (we Fb .lss Fb H_ (oz 0 1 Fb))) (DC 3 2 cH H_ (we (s5 .sub 3 2) .gtr (s5 .sub 3 2) (.bind (.dec 8 (s5 .sub 3 2) (.k .i64 0)) (dI (E8 pR cH) cj Y4)) (yE L9))))
def Kk:ab:=
 (wh L_)
def ad5:bj:=⟨YZ,Y0,Y1,[⟨0,207,11,[(0,(27,0))],[(0,0)],[(0,24)],[]⟩,⟨0,207,3,[(0,(3,0)),(0,(11,0))],[],[],[]⟩,⟨999999,0,0,[],[],[],[]⟩,⟨999998,0,0,[],[],[],[]⟩],Y2⟩
theorem agN:wB aqD ad5 400 true 207=Kk:=by kernel_rfl
end Go.Proofs.YtggffkaadeagbaaGreat
namespace Go.Proofs.YtggffkaadeagbaaGreat
open Go Go.Ev
abbrev Cz(ls:List (List Int)):IV:=.tree 1 (ls.map iL)
theorem I4{ls:List (List Int)}{i:Nat}(h:i<ls.length):dx 1 (Cz ls) (iI (i:Nat))=some (iL ls[i]):=fZ (by simp[h]) rfl
theorem Ma{ls:List (List Int)}{i:Nat}(h:i<ls.length):(ls.take (i+1)).flatten=(ls.take i).flatten++ls[i]:=by
 rw[List.take_succ_eq_append_getElem h,arS];simp only[List.flatten_cons,List.flatten_nil,List.append_nil]
theorem Kl(ls:List (List Int))(i:Nat):(ls.take i).flatten.length≤ls.flatten.length:=by
 conv=>rhs;rw[←List.take_append_drop i ls,arS,aq3]
 omega
theorem Qh(ls:List (List Int)):Pure (Cz ls):=by
 refine .tree 1 _ fun e he c hc=>?_;obtain⟨x,_,rfl⟩:=aq5.1 he;simp[cellsOf]at hc;subst hc;exact Aj x
section cat
theorem agO{k0:List IV→Prop}(ls:List (List Int))(hl:ls.length≤1000)(hf:ls.flatten.length≤100000){x1 x2 x3:IV}:
 D9.sat aqD CC (·=iL ls.flatten) [k0] [Cz ls,x1,x2,x3]:=by
 unfold D9;refine ao ls.length (fun i (a:List Int)=>[iI i,iL a]) (fun i a=>a=(ls.take i).flatten) [] ?_ (by simp) fun i a hi hI=>?_
 ·simp[SE.den]
 by_cases aa:i<ls.length
 ·have hw:=az aa (by omega);have GD:=Kl ls (i+1);have ht:=Ma aa;rw[ht,←hI,aq3]at GD;rw[←hI]at ht;have hc:=nO (a:=a) (b:=ls[i]) (by omega);have hr:=YH ls[i];simp[SE.den,aa,hw,I4 aa,hc, -ar1];exact⟨fun _ _ x hx=>by simp[cellsOf]at hx;subst hx;rfl,.mk _ rfl (by omega) ht.symm⟩
 ·have he:i=ls.length:=by omega
  subst he;rw[avn]at hI;subst hI;generalize ls.flatten=q at*
  simp[SE.den];exact fun _ _ x hx=>by simp[cellsOf]at hx;subst hx;rfl
end cat
theorem abe(ls:List (List Int))(hl:ls.length≤1000)(hf:ls.flatten.length≤100000)(hp:ls.flatten≠[]):Kj.sat aqD CC (·=iL ls.flatten) [] [Cz ls]:=by
 simp only[Kj,nq,SE.den,asb,aqN,rA];refine⟨⟨_,rfl⟩,⟨_,rfl⟩,?_⟩;unfold L8;refine ao ls.length (fun i (a:Int)=>[iI i,iI a]) (fun i a=>a=((ls.take i).flatten.length:Int)) 0 ?_ (by simp) fun i a hi hI=>?_
 ·simp[SE.den]
 have hle:=Kl ls i;by_cases aa:i<ls.length
 ·have hw:=az aa (by omega);have GD:=Kl ls (i+1)
  have ht:((ls.take (i+1)).flatten.length:Int)=a+(ls[i].length:Int):=by
   rw[Ma aa,aq3,hI];omega
  have NT:arc.wrap (a+(ls[i].length:Int))=a+(ls[i].length:Int):=dL (by omega) (by omega);have Lz:¬a+(ls[i].length:Int)<0:=by omega
  simp[SE.den,aa,hw,I4 aa,NT,Lz, -ar1];exact .mk _ rfl (by omega) ht.symm
 ·have he:i=ls.length:=by omega
  subst he;rw[avn]at hI;have sj:0<ls.flatten.length:=List.length_pos_iff.2 hp;have Lz:¬a<0:=by omega
  have hw:arc.wrap a=a:=dL (by omega) (by omega);have yc:0<a:=by omega
  have aoJ:(aq1 a.toNat (IV.raw (Value.int arc 0)))[0]?=some (iI 0):=by
   rw[List.getElem?_replicate,if_pos (by omega)]
  have si:dx 1 (.tree 1 (aq1 a.toNat (iI 0))) (iI 0)=some (iI 0):=fZ (i:=0) aoJ rfl;simp[SE.den,aa,hw,Lz,yc,lL, -ar1];exact⟨_,⟨⟨by omega,by omega,rfl⟩,rfl⟩,⟨_,si⟩,agO ls hl hf⟩
theorem abf(ls:List (List Int))(hl:ls.length≤1000)(hp:ls.flatten=[]):Kk.sat aqD CC (·=iL []) [] [Cz ls]:=by
 have hz:∀i (h:i<ls.length),ls[i]=[]:=fun i h=>List.flatten_eq_nil_iff.1 hp _ (List.getElem_mem h);simp only[Kk,nq,SE.den,asb,aqN,rA];refine⟨⟨_,rfl⟩,⟨_,rfl⟩,?_⟩;unfold L_;refine ao ls.length (fun i (_:Unit)=>[iI i,iI 0]) (fun _ _=>True) () ?_ trivial fun i _ hi _=>?_
 ·simp[SE.den]
 by_cases aa:i<ls.length
 ·have hw:=az aa (by omega);have FT:arc.wrap 0=0:=dL (by omega) (by omega);simp[SE.den,aa,hw,I4 aa,hz i aa,FT];exact .mk () rfl (by omega) trivial
 ·have FT:arc.wrap 0=0:=dL (by omega) (by omega);simp[SE.den,aa,FT];unfold L9;refine ao ls.length (fun i (_:Unit)=>[iI i]) (fun _ _=>True) () ?_ trivial fun i _ hi _=>?_
  ·simp[SE.den]
  by_cases aa:i<ls.length
  ·have hw:=az aa (by omega);simp[SE.den,aa,hw,I4 aa,hz i aa];exact⟨⟨.tree 1 [],by simp[mu,gC]⟩,.mk () rfl (by omega) trivial⟩
  ·simp[SE.den,aa]
theorem n207:(aqD.funcs[207]?).map (·.params.size)=some 1:=by kernel_rfl
theorem aoK:cF aqD 207=1:=by kernel_rfl
theorem f207(ls:List (List Int))(hl:ls.length≤1000)(hf:ls.flatten.length≤100000):jF aqD 1 207 [Cz ls] (ls.flatten.map iI):=by
 have bC:∀e∈ls.flatten.map iI,(cellsOf e).length=1:=fun e he=>by obtain⟨x,_,rfl⟩:=aq5.1 he;rfl
 have bo:∀c∈flat (ls.flatten.map iI),(∃v,c=.raw v)∧af c=true:=fun c hc=>by
  unfold flat at hc;obtain⟨e,he,hc⟩:=List.mem_flatMap.1 hc;obtain⟨x,_,rfl⟩:=aq5.1 he;simp[cellsOf]at hc;subst hc;exact⟨⟨_,rfl⟩,rfl⟩
 have h1:=aoK;by_cases hp:ls.flatten=[]
 ·rw[←h1];exact .X4 (nm:=true) mixed vD agN n207 (by simpa using Qh ls) (by rw[h1];exact bC) bo (by simp) (by rw[h1,hp];exact abf ls hl hp)
 ·rw[←h1];exact .X4 (nm:=false) mixed vD agM n207 (by simpa using Qh ls) (by rw[h1];exact bC) bo (fun _=>by simpa using hp) (by rw[h1];exact abe ls hl hf hp)
end Go.Proofs.YtggffkaadeagbaaGreat
