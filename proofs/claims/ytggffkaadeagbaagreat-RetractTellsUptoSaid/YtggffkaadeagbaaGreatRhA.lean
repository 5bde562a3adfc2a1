/- A part of the proof, no condition: the checks of the program come to an end: terms; maps keyed by declarations; rows put behind each other. -/
import Derived.Test.YtggffkaadeagbaaGreatEvJ
import Derived.Test.YtggffkaadeagbaaGreatRuA
import Derived.Test.YtggffkaadeagbaaGreatRgA
import Derived.Test.YtggffkaadeagbaaGreatRgR
import Derived.Test.YtggffkaadeagbaaGreatEvR
import Derived.Test.YtggffkaadeagbaaGreatRgI
open Go.Proofs.Tryz renaming prog->asK,underlying86->axj
open Go.Op renaming equalIn->aue,equal->avX
open Option renaming bind_some->asU
open Bool renaming false_eq_true->atn
open Go.Instr renaming findAsking->atM,findKey->auj,sameBits->avq
open Go renaming undef->atC
open List renaming map_map->avw,flatten_append->at1,length_append->atc,mem_map->ath,length_flatten->aud,take_length->awv,getElem?_cons_zero->auo,replicate->ate
open Go.IntKind renaming i64->as7
open Option renaming some->aa,none->ah
open Bool renaming true->ab,false->af
set_option linter.all false
namespace Go.Proofs.YtggffkaadeagbaaGreat
open Go Go.Ev
def J2:List Nat:=[123,127,126,186,189,44,79,30,102,9,10,23,31,15,257,149,89,148,198,147,199,50,191,71,214,93,163,49,152,64,164,158,95,108,206,250,213,130,131,107,129,155,34,90,51,202,153,201,200,151,203,150,204,154,91,41,67,101,99,109,157,210,12,26,28,25,14,19,100,40,39,70,69,35,53,52,68,42,58,75,24,27,22,29,61,190,66,133,128,249,121,78,183,83,211]
def J3:List Nat:=[48,118,216]
def J4:List Nat:=[185,188,254]
def J5:List Nat:=[155,159,103]
def aaD:ak:=
 (kC 4 1 cB (qI (xi 0) .lss (xi 0) qE (kg .lss 3 cB (.i 1) qE (lI .eql 1 0 (jV .geq 1 1 (-2147483648) (jV .leq 1 1 2147483648 (uB 9 1 2 (cY ft (Cu ft) (WE (.rw (Cu ft)) 0)) qE) qE) qE) (pE 1 0 1 (lI .geq 1 1 (jV .leq 1 1 1048576 (uB 9 1 2 (cY ft (Cu ft) (WE (.rw (Cu ft)) 0)) qE) qE) qE) (pE 1 0 2 (lI .neq 1 1 qE (ua ft ft 6 qE (jo 83 uj (mB 3 3 (jo 211 uj (.nt eS (uc 3 (HT (K_ .eql ft 2) (K_ .eql ft 2) qE (.aS (vE cB) (iD 815 (WI (iC (WD 0)) 1 3 (vE cB)) (.aS (xq 5) (t_ (.rw (xq 5)) (iC (PO 5 1 0)))))))) qE)) (.aS (vE cB) (iD 815 (WI (iC (WD 0)) 1 3 (vE cB)) (.aS (xq 4) (t_ (.rw (xq 4)) (iC (PO 4 1 0)))))))))) qE))))))
def aip:a_:=⟨J2,J3,J4,[],J5⟩
theorem amV:xV asK aip 400 [1] 159=aaD:=by kernel_rfl
def Ro:ak:=
 (gU xp 3 dR 4 cZ 3 (mj 5 (iD 871 (vR (iC (pf 4)) (gu 5 5 5 5) cB) (HT (xq 6) (xq 6) (t_ WC (iC (PO 6 1 0))) (pC 0 3 (PO 6 1 0))))) (t_ (.rw lT) (pf 4)))
def aaE:ak:=
 (cY cZ cB (.aS dR Ro))
def aiq:a_:=⟨J2,J3,J4,[⟨1,103,2,[(1,(10,0))],[(0,0)],[],[]⟩],J5⟩
theorem amW:xV asK aiq 400 [1] 103=aaE:=by kernel_rfl
def aei:ak:=
 (gB 2 0 83 oh (uC cZ (sb eY .leq eY 6 (Co 815 (n9 Cj 0 1 Cp) 2))))
def amX:a_:=⟨J2,J3,J4,[],J5⟩
theorem aqL:aH asK amX 400 af 45=aei:=by kernel_rfl
def aaF:ak:=
 (j2 (lS 3 0) oh (jo 83 og (uC cZ (sb jA .leq jA 6 (Co 815 (n9 Cj 0 2 Cp) 2)))) (pE 0 0 1 (lI .gtr 0 0 (jV .leq 0 0 12 (uB 9 0 1 (j2 jA jA (Co 815 (n9 Cj 0 2 Cp) 1) bf) bf) bf) bf) (pE 0 0 2 (lI .gtr 0 0 (jV .leq 0 0 12 (uB 9 0 1 (j2 jA jA (Co 815 (n9 Cj 0 2 Cp) 1) bf) bf) bf) bf) (pE 0 0 11 (lI .gtr 0 0 (jV .leq 0 0 12 (uB 9 0 1 (sb jA .eql jA 1 (Co 815 (n9 Cj 0 2 Cp) 1)) bf) bf) bf) (pE 0 0 12 (lI .gtr 0 0 (jV .leq 0 0 12 (uB 9 0 1 (sb jA .eql jA 1 (Co 815 (n9 Cj 0 2 Cp) 1)) bf) bf) bf) (lI .gtr 0 0 (jV .leq 0 0 12 (uB 9 0 1 (sb jA .eql jA 2 (Co 815 (n9 Cj 0 2 Cp) 1)) bf) bf) bf))))))
def air:a_:=⟨J2,J3,J4,[],J5⟩
theorem amY:aH asK air 400 af 138=aaF:=by kernel_rfl
end Go.Proofs.YtggffkaadeagbaaGreat
namespace Go.Proofs.YtggffkaadeagbaaGreat
open Go Go.Ev
structure Names:Prop where
 right:∀s:List UInt8,Sm s->∃b,CC 83 af [iS s] (iB b)
 oper:∀s:List UInt8,Sm s->∃b,CC 211 af [iS s] (iB b)
theorem dW:asK.funcs.size=356:=by kernel_rfl
theorem n159:(asK.funcs[159]?).map (·.params.size)=aa 3:=by kernel_rfl
theorem n103:(asK.funcs[103]?).map (·.params.size)=aa 3:=by kernel_rfl
theorem n45:(asK.funcs[45]?).map (·.params.size)=aa 1:=by kernel_rfl
theorem t45(z:IV):aO asK 45 z=ab:=by kernel_rfl
theorem n138:(asK.funcs[138]?).map (·.params.size)=aa 1:=by kernel_rfl
theorem t138(z:IV):aO asK 138 z=ab:=by kernel_rfl
end Go.Proofs.YtggffkaadeagbaaGreat
namespace Go.Proofs.YtggffkaadeagbaaGreat
open Go Go.Ev
def amZ(p:Bool->Prop)(z:IV):Prop:=∃(b:Bool) (n:Int),z=.az [iB b,.agg [iI n]]/\p b
@[simp] theorem arL(p:Bool->Prop)(b:Bool)(n:Int):amZ p (.az [iB b,.agg [iI n]])↔p b:=
  ⟨λ⟨b',n',h1,h2⟩=>by cases h1;exact h2,λh=>⟨b,n,rfl,h⟩⟩
end Go.Proofs.YtggffkaadeagbaaGreat
namespace Go.Proofs.YtggffkaadeagbaaGreat
open Go Go.Ev
theorem am0:asK.underlying 9=aa .string:=by kernel_rfl
theorem eq9(d:Nat)(a b:ByteArray):aT asK (aue (d+1) 9 (.string a) (.string b))=aa (a==b):=by
 rw[aue,bx,Go.Ev.run_underlying am0,asU];rfl
theorem eq3(d:Nat)(a b:Int):aT asK (aue (d+1) 3 (.int .i64 a) (.int .i64 b))=aa (a==b):=by
 rw[aue,bx,Go.Ev.run_underlying acL,asU];rfl
theorem ais(d:Nat)(x y x' y':Value)(b1 b2:Bool)(h1:aT asK (aue (d+1) 9 x x')=aa b1)(h2:aT asK (aue (d+1) 3 y y')=aa b2):
 aT asK (aue (d+2) 86 (.agg #[x,y]) (.agg #[x',y']))=aa (b1&&b2):=by
 rw[aue,bx,Go.Ev.run_underlying axj,asU];have cw:asK.stoodInHeld 86=af:=by kernel_rfl
 have p9:∀(a b:Value),aT asK (part 9 #[a,b] 0)=aa a:=λa b=>by kernel_rfl
 have p3:∀(a b:Value),aT asK (part 3 #[a,b] 1)=aa b:=λa b=>by kernel_rfl
 have hp:aT asK program=aa asK:=rfl;rw[bx,hp,asU,cw];simp only[atn,if_false,<-Array.forIn_toList,List.forIn_cons,List.forIn_nil,bx,ne_eq,String.reduceEq,not_false_eq_true,if_true,p9,p3,asU,h1,h2];have q:∀{α:Type} (a:α),aT asK (pure a)=aa a:=λ_=>rfl;cases b1
 ·rfl
 ·simp only[Bool.not_true,atn,if_false,q,asU,bx,p3,h2];cases b2<;>rfl
theorem bq(a b:List UInt8):((⟨a.toArray⟩:ByteArray)==⟨b.toArray⟩)=(a==b):=by
 show(a.toArray==b.toArray)=_;simp
theorem ait(P:Program)(t:TypeId)(a b c d:Value)(r:Bool)(hg:aT P (eqGuard .eql t (.func 0) (.func 0) (.agg #[a,b]) (.agg #[c,d]))=aa ())(h:aT P (avX t (.agg #[a,b]) (.agg #[c,d]))=aa r):
 dt P .eql t (.agg [.raw a,.raw b]) (.agg [.raw c,.raw d])=aa (iB r):=by
 show(aT P (do eqGuard .eql t (.func 0) (.func 0) (.agg #[a,b]) (.agg #[c,d]);Go.binOp .eql t (.agg #[a,b]) (.agg #[c,d]))).map lift=_;rw[bx,hg];show(aT P (do pure (.bool (<-avX t (.agg #[a,b]) (.agg #[c,d]))))).map lift=_;rw[bx,h];rfl
deriving instance DecidableEq for De
theorem aiu(s s':List UInt8)(n n':Int):dt asK .eql 86 (.agg [iS s,iI n]) (.agg [iS s',iI n'])=aa (iB (s==s'&&n==n')):=by
 refine ait _ _ _ _ _ _ _ (by kernel_rfl) ?_;rw[<-bq];exact ais 9998 _ _ _ _ _ _ (eq9 _ _ _) (eq3 _ _ _)
def fX(d:De):Value:=.agg #[.string ⟨d.s.toArray⟩,.int .i64 d.n]
theorem eqK(k e:De):aT asK (avX 86 (fX k) (fX e))=aa (decide (k=e)):=by
 have h:aT asK (avX 86 (fX k) (fX e))=aa (k.s==e.s&&k.n==e.n):=by
  rw[<-bq];exact ais 9998 _ _ _ _ _ _ (eq9 _ _ _) (eq3 _ _ _)
 rw[h];obtain⟨a,b⟩:=k;obtain⟨c,d⟩:=e;simp;rw[Bool.eq_iff_iff];simp
theorem Fi{α:Type}(P:Program)(a:α):aT P (pure a)=aa a:=rfl
theorem aej(k:De):∀(ks:List De) (i:Nat),(k∈ks->∃j,aT asK (atM 86 (fX k) (ks.map λe=>⟨fX e,atC,0⟩) i)=aa (aa (i+j,atC))/\ks[j]?=aa k)/\
 (k∉ks->aT asK (atM 86 (fX k) (ks.map λe=>⟨fX e,atC,0⟩) i)=aa ah)
 |[],i=>by simp[atM,Fi]
 |e::ks,i=>by
  obtain⟨h1,h2⟩:=aej k ks (i+1)
  have hu:aT asK (atM 86 (fX k) ((e::ks).map λe=>⟨fX e,atC,0⟩) i)=aT asK (if decide (k=e)=ab then pure (aa (i,atC))else atM 86 (fX k) (ks.map λe=>⟨fX e,atC,0⟩) (i+1)):=by
   rw[List.map_cons,atM,bx,eqK,asU]
  rw[hu];by_cases h:k=e
  ·subst h;exact⟨λ_=>⟨0,by rw[if_pos (by simp)];simp[Fi],rfl⟩,λhn=>absurd (by simp) hn⟩
  ·rw[if_neg (by simpa using h)];refine⟨λhm=>?_,λhn=>h2 λhm=>hn (by simp[hm])⟩;obtain⟨j,g1,g2⟩:=h1 (by simpa[h]using hm);exact⟨j+1,by rw[g1,show i+1+j=i+(j+1) by omega],by simpa using g2⟩
theorem Gz(b:Bool)(k:De):aT asK (Instr.checkKey b 10000 86 (fX k))=aa ():=by
 obtain⟨s,n⟩:=k;cases b<;>kernel_rfl
theorem aaG(k:De)(ks:List De):aT asK (auj 86 (fX k) (ks.map λe=>⟨fX e,atC,0⟩))=aT asK (atM 86 (fX k) (ks.map λe=>⟨fX e,atC,0⟩) 0):=by
 unfold auj;rw[bx,Go.Ev.run_underlying axj,asU];cases ks with
 |nil=>rfl
 |cons e ks=>rfl
theorem afG(b:Bool)(k:De)(ks:List De):(k∈ks->∃j,ia asK b 86 (fX k) ((ks.map fX).map λe=>(e,.undef,0))=aa (aa j)/\ks[j]?=aa k)/\(k∉ks->ia asK b 86 (fX k) ((ks.map fX).map λe=>(e,.undef,0))=aa ah):=by
 have hm:(((ks.map fX).map λe=>(e,(.undef:IV),0)).map λe=>({key:=e.1,val:=atC,born:=e.2.2}:MapEntry))=ks.map λe=>⟨fX e,atC,0⟩:=by
  rw[avw,avw];rfl
 obtain⟨h1,h2⟩:=aej k ks 0;refine⟨λh=>?_,λh=>?_⟩
 ·obtain⟨j,g1,g2⟩:=h1 h;refine⟨j,?_,g2⟩;unfold ia;rw[bx,Gz,asU,hm,aaG,g1];simp
 ·unfold ia;rw[bx,Gz,asU,hm,aaG,h2 h]
theorem aiv(k:De):avq 10000 (fX k) (fX k)=ab:=by
 show((#[_,_]:Array Value).size==2&&_)=ab;simp[avq,bq]
def Ac(d:De):IV:=.az [.agg [iS d.s,iI d.n],iB ab]
theorem aaH:∀ds:List De,oH (ds.map Ac)=aa (ds.map fX)
 |[]=>rfl
 |k::ks=>by simp[oH,Ac,Ev.keyOf,aaH ks,fX];rfl
theorem Ux(ds:List De)(k:De):(k∈ds->∃j,fB asK 86 (ds.map Ac) (.agg [iS k.s,iI k.n])=aa (aa j)/\ds[j]?=aa k)/\(k∉ds->fB asK 86 (ds.map Ac) (.agg [iS k.s,iI k.n])=aa ah):=by
 have h:fB asK 86 (ds.map Ac) (.agg [iS k.s,iI k.n])=I_ asK 86 (ds.map fX) (fX k):=by
  unfold fB;rw[aaH];have:F5 asK 86=ah:=by kernel_rfl
  rw[this];rfl
 rw[h];obtain⟨a1,a2⟩:=afG ab k ds
 have hb:ia asK af 86 (fX k) ((ds.map fX).map λe=>(e,.undef,0))=ia asK ab 86 (fX k) ((ds.map fX).map λe=>(e,.undef,0)):=by
  unfold ia;rw[bx,bx,Gz,Gz]
 unfold I_;rw[hb];refine⟨λhm=>?_,λhm=>?_⟩
 ·obtain⟨j,g1,g2⟩:=a1 hm;refine⟨j,?_,g2⟩;rw[g1];simp only[if_true];rw[List.getElem?_map,g2];simp only[Option.map_some,aiv,if_true]
 ·rw[a2 hm];simp
end Go.Proofs.YtggffkaadeagbaaGreat
namespace Go.Proofs.YtggffkaadeagbaaGreat
open Go Go.Ev
def aaI:List Nat:=[123,127,126,186,189,44,79,30,102,9,10,23,31,15,257,149,89,148,198,147,199,50,191,71,214,93,163,49,152,64,164,158,95,108,206,250,213,130,131,107,129,155,34,90,51,202,153,201,200,151,203,150,204,154,91,41,67,101,99,109,157,210,12,26,28,25,14,19,100,40,39,70,69,35,53,52,68,42,58,98,96,75,211,136,83,192,85,11,24,27,22,13,29,61,36,33,32,84,47,143,46,190,66,87,45,138,133,88,128,249,121,78,183,256,156]
def aaJ:List Nat:=[48,118,216]
def aaK:List Nat:=[185,188,254]
def aaL:List Nat:=[155,159,103,173000080,500139,500140,500097,600086]
def Fj:ak:=
 (gU fq 4 bK 1 bw 4 (cY fD (.rws fD) (mC 1 8 eb fD (rZ 7))) (zM eb))
def aaM:ak:=
 (gU fq 3 bK 1 bw 3 (zU (.rws gC) (mE 1 8 4 gC (Cg 3 6))) (zM r8))
def Nn:ak:=
 (gU cx 1 bK 1 bw 1 (cY ej ui (qI Gg .lss Gg Je (pC 0 1 Gg))) (EL 3 2 cx Je (qI (ud .sub 3 2) .gtr (ud .sub 3 2) (.bind (.dec 8 (ud .sub 3 2) (.k .i64 0)) (cY (Gb qG cx) bK Fj)) (zK aaM))))
def LB:ak:=
 (xo Nn)
def afH:a_:=⟨aaI,aaJ,aaK,[⟨0,207,11,[(0,(6,0)),(0,(27,0))],[(0,0)],[(0,24)],[]⟩,⟨0,207,3,[(0,(3,0)),(0,(11,0))],[],[],[]⟩,⟨999999,0,0,[],[],[],[]⟩],aaL⟩
theorem aiw:xE asK afH 400 af 207=LB:=by kernel_rfl
def aaN:ak:=
 (gU fq 4 bK 1 bw 4 (cY fD (.rws fD) (mC 1 8 eb fD (rZ 7))) Je)
def No:ak:=
 (oi 3 1 3 (cY eS (.sub 1 eS (jI 4) cx) (eh 1 3)) (.ret fq))
def Np:ak:=
 (gU cx 1 bK 1 bw 1 (cY ej ui (qI Gg .lss Gg Je (pC 0 1 Gg))) (EL 3 2 cx Je (qI (ud .sub 3 2) .gtr (ud .sub 3 2) (.bind (.dec 8 (ud .sub 3 2) (.k .i64 0)) (cY (Gb qG cx) bK aaN)) (zK No))))
def LC:ak:=
 (xo Np)
def afI:a_:=⟨aaI,aaJ,aaK,[⟨0,207,11,[(0,(27,0))],[(0,0)],[(0,24)],[]⟩,⟨0,207,3,[(0,(3,0)),(0,(11,0))],[],[],[]⟩,⟨999999,0,0,[],[],[],[]⟩,⟨999998,0,0,[],[],[],[]⟩],aaL⟩
theorem aix:xE asK afI 400 ab 207=LC:=by kernel_rfl
end Go.Proofs.YtggffkaadeagbaaGreat
namespace Go.Proofs.YtggffkaadeagbaaGreat
open Go Go.Ev
abbrev DJ(ls:List (List Int)):IV:=.tree 1 (ls.map iL)
theorem J6{ls:List (List Int)}{i:Nat}(h:i<ls.length):dy 1 (DJ ls) (iI (i:Nat))=aa (iL ls[i]):=fw (by simp[h]) rfl
theorem Nq{ls:List (List Int)}{i:Nat}(h:i<ls.length):(ls.take (i+1)).flatten=(ls.take i).flatten++ls[i]:=by
 rw[List.take_succ_eq_append_getElem h,at1];simp only[List.flatten_cons,List.flatten_nil,List.append_nil]
theorem LD(ls:List (List Int))(i:Nat):(ls.take i).flatten.length<=ls.flatten.length:=by
 conv=>rhs;rw[<-List.take_append_drop i ls,at1,atc]
 omega
theorem Rp(ls:List (List Int)):Pure (DJ ls):=by
 refine .tree 1 _ λe he c hc=>?_;obtain⟨x,_,rfl⟩:=ath.1 he;simp[cellsOf]at hc;subst hc;exact Bp x
section cat
theorem aiy{k0:List IV->Prop}(ls:List (List Int))(hl:ls.length<=1000)(hf:ls.flatten.length<=100000){x1 x2 x3:IV}:
 Fj.sat asK CC (·=iL ls.flatten) [k0] [DJ ls,x1,x2,x3]:=by
 unfold Fj;refine aw ls.length (λi (a:List Int)=>[iI i,iL a]) (λi a=>a=(ls.take i).flatten) [] ?_ (by simp) λi a hi hI=>?_
 ·simp[SE.den]
 by_cases ai:i<ls.length
 ·have hw:=aD ai (by omega);have HH:=LD ls (i+1);have ht:=Nq ai;rw[ht,<-hI,atc]at HH;rw[<-hI]at ht;have hc:=oN (a:=a) (b:=ls[i]) (by omega);have hr:=aar ls[i];simp[SE.den,ai,hw,J6 ai,hc, -aud];exact⟨λ_ _ x hx=>by simp[cellsOf]at hx;subst hx;rfl,.mk _ rfl (by omega) ht.symm⟩
 ·have he:i=ls.length:=by omega
  subst he;rw[awv]at hI;subst hI;generalize ls.flatten=q at*
  simp[SE.den];exactλ_ _ x hx=>by simp[cellsOf]at hx;subst hx;rfl
end cat
theorem acU(ls:List (List Int))(hl:ls.length<=1000)(hf:ls.flatten.length<=100000)(hp:ls.flatten≠[]):LB.sat asK CC (·=iL ls.flatten) [] [DJ ls]:=by
 simp only[LB,oq,SE.den,auo,asU,sD];refine⟨⟨_,rfl⟩,⟨_,rfl⟩,?_⟩;unfold Nn;refine aw ls.length (λi (a:Int)=>[iI i,iI a]) (λi a=>a=((ls.take i).flatten.length:Int)) 0 ?_ (by simp) λi a hi hI=>?_
 ·simp[SE.den]
 have hle:=LD ls i;by_cases ai:i<ls.length
 ·have hw:=aD ai (by omega);have HH:=LD ls (i+1)
  have ht:((ls.take (i+1)).flatten.length:Int)=a+(ls[i].length:Int):=by
   rw[Nq ai,atc,hI];omega
  have O7:as7.wrap (a+(ls[i].length:Int))=a+(ls[i].length:Int):=cQ (by omega) (by omega);have MS:¬a+(ls[i].length:Int)<0:=by omega
  simp[SE.den,ai,hw,J6 ai,O7,MS, -aud];exact .mk _ rfl (by omega) ht.symm
 ·have he:i=ls.length:=by omega
  subst he;rw[awv]at hI;have tx:0<ls.flatten.length:=List.length_pos_iff.2 hp;have MS:¬a<0:=by omega
  have hw:as7.wrap a=a:=cQ (by omega) (by omega);have zi:0<a:=by omega
  have aqM:(ate a.toNat (IV.raw (Value.int as7 0)))[0]?=aa (iI 0):=by
   rw[List.getElem?_replicate,if_pos (by omega)]
  have tv:dy 1 (.tree 1 (ate a.toNat (iI 0))) (iI 0)=aa (iI 0):=fw (i:=0) aqM rfl;simp[SE.den,ai,hw,MS,zi,mA, -aud];exact⟨_,⟨⟨by omega,by omega,rfl⟩,rfl⟩,⟨_,tv⟩,aiy ls hl hf⟩
theorem acV(ls:List (List Int))(hl:ls.length<=1000)(hp:ls.flatten=[]):LC.sat asK CC (·=iL []) [] [DJ ls]:=by
 have hz:∀i (h:i<ls.length),ls[i]=[]:=λi h=>List.flatten_eq_nil_iff.1 hp _ (List.getElem_mem h);simp only[LC,oq,SE.den,auo,asU,sD];refine⟨⟨_,rfl⟩,⟨_,rfl⟩,?_⟩;unfold Np;refine aw ls.length (λi (_:Unit)=>[iI i,iI 0]) (λ_ _=>True) () ?_ trivial λi _ hi _=>?_
 ·simp[SE.den]
 by_cases ai:i<ls.length
 ·have hw:=aD ai (by omega);have GY:as7.wrap 0=0:=cQ (by omega) (by omega);simp[SE.den,ai,hw,J6 ai,hz i ai,GY];exact .mk () rfl (by omega) trivial
 ·have GY:as7.wrap 0=0:=cQ (by omega) (by omega);simp[SE.den,ai,GY];unfold No;refine aw ls.length (λi (_:Unit)=>[iI i]) (λ_ _=>True) () ?_ trivial λi _ hi _=>?_
  ·simp[SE.den]
  by_cases ai:i<ls.length
  ·have hw:=aD ai (by omega);simp[SE.den,ai,hw,J6 ai,hz i ai];exact⟨⟨.tree 1 [],by simp[nj,gS]⟩,.mk () rfl (by omega) trivial⟩
  ·simp[SE.den,ai]
theorem n207:(asK.funcs[207]?).map (·.params.size)=aa 1:=by kernel_rfl
theorem aqN:cP asK 207=1:=by kernel_rfl
theorem f207(ls:List (List Int))(hl:ls.length<=1000)(hf:ls.flatten.length<=100000):kb asK 1 207 [DJ ls] (ls.flatten.map iI):=by
 have bH:∀e∈ls.flatten.map iI,(cellsOf e).length=1:=λe he=>by obtain⟨x,_,rfl⟩:=ath.1 he;rfl
 have bz:∀c∈flat (ls.flatten.map iI),(∃v,c=.raw v)/\aj c=ab:=λc hc=>by
  unfold flat at hc;obtain⟨e,he,hc⟩:=List.mem_flatMap.1 hc;obtain⟨x,_,rfl⟩:=ath.1 he;simp[cellsOf]at hc;subst hc;exact⟨⟨_,rfl⟩,rfl⟩
 have h1:=aqN;by_cases hp:ls.flatten=[]
 ·rw[<-h1];exact .ZE (nm:=ab) mixed wM aix n207 (by simpa using Rp ls) (by rw[h1];exact bH) bz (by simp) (by rw[h1,hp];exact acV ls hl hp)
 ·rw[<-h1];exact .ZE (nm:=af) mixed wM aiw n207 (by simpa using Rp ls) (by rw[h1];exact bH) bz (λ_=>by simpa using hp) (by rw[h1];exact acU ls hl hf hp)
end Go.Proofs.YtggffkaadeagbaaGreat
