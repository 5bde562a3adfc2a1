/- A part of the proof, no condition: the checks of the program come to an end: terms; maps keyed by declarations; rows put behind each other. -/
import Derived.Test.YtpfogalbnijcoaaGreatEvJ
import Derived.Test.YtpfogalbnijcoaaGreatRuA
import Derived.Test.YtpfogalbnijcoaaGreatRgA
import Derived.Test.YtpfogalbnijcoaaGreatRgR
import Derived.Test.YtpfogalbnijcoaaGreatEvR
import Derived.Test.YtpfogalbnijcoaaGreatRgI
open Go.Proofs.Tryz renaming prog->ar1,underlying53->awz
open Go.Op renaming equalIn->atu,equal->avd
open Option renaming bind_some->asa
open Bool renaming false_eq_true->asA
open Go.Instr renaming findAsking->as0,findKey->atx,sameBits->auJ
open Go renaming undef->asQ
open List renaming map_map->auP,flatten_append->ath,length_append->ass,mem_map->asv,length_flatten->atr,take_length->awJ,getElem?_cons_zero->atC,replicate->asr
open Go.IntKind renaming i64->asC
open Option renaming some->aa,none->ah
open Bool renaming true->ab,false->af
set_option linter.all false
namespace Go.Proofs.YtpfogalbnijcoaaGreat
open Go Go.Ev
def Jz:List Nat:=[209,280,208,250,295,22,23,8,49,4,9,272,199,118,198,240,197,241,62,249,122,206,61,202,101,123,125,177,248,124,205,59,119,63,244,203,243,242,201,245,200,246,204,120,36,68,64,126,207,33,17,66,35,34,60,65,37,256,257,227,281,279,187,29,234,105,235]
def JA:List Nat:=[277]
def JB:List Nat:=[238]
def JC:List Nat:=[205,189,111]
def ZM:ak:=
 (jW 4 1 dq (tG (pD 0 1) .lss (pD 0 1) 0 qg (.nt (lY .lss dq 1) qg (tM .eql 1 0 0 (uN .geq 1 1 (-2147483648) (uN .leq 1 1 2147483648 (NK wW (fK iJ (FT 0) (V9 (.rw (FT 0)) 0 1)) qg) qg) qg) .eql 1 0 1 (uN .geq 1 1 0 (uN .leq 1 1 1048576 (NK wW (fK iJ (FT 0) (V9 (.rw (FT 0)) 0 1)) qg) qg) qg) (uN .eql 1 0 2 (uN .neq 1 1 0 qg (rK iJ iJ 6 qg (ja 105 wW (Aq 3 3 (oR 235 wW iN (fE 3 (u6 (FT 2) (FT 2) qg (.bj (rJ dq) (xg 865 (pD 0 1) 1 3 (rJ dq) (.bj (w_ 5) (NG (.rw (w_ 5)) (IH 5 1 0))))))) qg) (.bj (rJ dq) (xg 865 (pD 0 1) 1 3 (rJ dq) (.bj (w_ 4) (NG (.rw (w_ 4)) (IH 4 1 0))))))))) qg)))))
def ahy:bg:=⟨Jz,JA,JB,[],JC⟩
theorem alV:xH ar1 ahy 400 [1] 189=ZM:=by kernel_rfl
def QS:ak:=
 (tR w8 3 fj (nG 4 dh 3 4 5 (qL 943 (zA (mM (mN 4)) (iK 5 5 5 5) (mM dq)) (pB (w_ 6) (nE (w_ 6)) (NG V8 (IH 6 1 0)) 0 3 3 1 (mM (IH 6 1 0))))) (yq (.rw pC) (mN 4)))
def ZN:ak:=
 (fK dh dq (.bj fj QS))
def ahz:bg:=⟨Jz,JA,JB,[⟨1,111,2,[(1,(10,0))],[(0,0)],[],[]⟩],JC⟩
theorem alW:xH ar1 ahz 400 [1] 111=ZN:=by kernel_rfl
def adw:ak:=
 (jP 2 (oR 105 tT dh (tG gi .leq gi 6 (xg 865 Cg 0 1 (.i 20) (BW 2)) aU) aU))
def alX:bg:=⟨Jz,JA,JB,[],JC⟩
theorem apJ:aK ar1 alX 400 af 52=adw:=by kernel_rfl
def ZO:ak:=
 (nL (jt 3 0) tT 0 (oR 105 my dh (tG jl .leq jl 6 (xg 865 Cg 0 2 (.i 20) (BW 2)) aU) aU) (tM .eql 0 0 1 (oW .gtr 0 0 (oW .leq 0 12 (FR (nL jl jl 0 (xg 865 Cg 0 2 (.i 20) (BW 1)) aU)))) .eql 0 0 2 (oW .gtr 0 0 (oW .leq 0 12 (FR (nL jl jl 0 (xg 865 Cg 0 2 (.i 20) (BW 1)) aU)))) (tM .eql 0 0 11 (oW .gtr 0 0 (oW .leq 0 12 (FR (nL jl jl 1 (xg 865 Cg 0 2 (.i 20) (BW 1)) aU)))) .eql 0 0 12 (oW .gtr 0 0 (oW .leq 0 12 (FR (nL jl jl 1 (xg 865 Cg 0 2 (.i 20) (BW 1)) aU)))) (oW .gtr 0 0 (oW .leq 0 12 (FR (nL jl jl 2 (xg 865 Cg 0 2 (.i 20) (BW 1)) aU)))))))
def ahA:bg:=⟨Jz,JA,JB,[],JC⟩
theorem alY:aK ar1 ahA 400 af 134=ZO:=by kernel_rfl
end Go.Proofs.YtpfogalbnijcoaaGreat
namespace Go.Proofs.YtpfogalbnijcoaaGreat
open Go Go.Ev
structure Names:Prop where
 right:∀s:List UInt8,Sm s->∃b,CC 105 af [iS s] (iB b)
 oper:∀s:List UInt8,Sm s->∃b,CC 235 af [iS s] (iB b)
theorem dP:ar1.funcs.size=377:=by kernel_rfl
theorem n159:(ar1.funcs[189]?).map (·.params.size)=aa 3:=by kernel_rfl
theorem n103:(ar1.funcs[111]?).map (·.params.size)=aa 3:=by kernel_rfl
theorem n45:(ar1.funcs[52]?).map (·.params.size)=aa 1:=by kernel_rfl
theorem t45(z:IV):aQ ar1 52 z=ab:=by kernel_rfl
theorem n138:(ar1.funcs[134]?).map (·.params.size)=aa 1:=by kernel_rfl
theorem t138(z:IV):aQ ar1 134 z=ab:=by kernel_rfl
end Go.Proofs.YtpfogalbnijcoaaGreat
namespace Go.Proofs.YtpfogalbnijcoaaGreat
open Go Go.Ev
def alZ(p:Bool->Prop)(z:IV):Prop:=∃(b:Bool) (n:Int),z=.az [iB b,.agg [iI n]]/\p b
@[simp] theorem aq1(p:Bool->Prop)(b:Bool)(n:Int):alZ p (.az [iB b,.agg [iI n]])↔p b:=
  ⟨λ⟨b',n',h1,h2⟩=>by cases h1;exact h2,λh=>⟨b,n,rfl,h⟩⟩
end Go.Proofs.YtpfogalbnijcoaaGreat
namespace Go.Proofs.YtpfogalbnijcoaaGreat
open Go Go.Ev
theorem al0:ar1.underlying 9=aa .string:=by kernel_rfl
theorem eq9(d:Nat)(a b:ByteArray):aS ar1 (atu (d+1) 9 (.string a) (.string b))=aa (a==b):=by
 rw[atu,bx,Go.Ev.run_underlying al0,asa];rfl
theorem eq3(d:Nat)(a b:Int):aS ar1 (atu (d+1) 3 (.int .i64 a) (.int .i64 b))=aa (a==b):=by
 rw[atu,bx,Go.Ev.run_underlying abX,asa];rfl
theorem ahB(d:Nat)(x y x' y':Value)(b1 b2:Bool)(h1:aS ar1 (atu (d+1) 9 x x')=aa b1)(h2:aS ar1 (atu (d+1) 3 y y')=aa b2):
 aS ar1 (atu (d+2) 53 (.agg #[x,y]) (.agg #[x',y']))=aa (b1&&b2):=by
 rw[atu,bx,Go.Ev.run_underlying awz,asa];have ct:ar1.stoodInHeld 53=af:=by kernel_rfl
 have p9:∀(a b:Value),aS ar1 (part 9 #[a,b] 0)=aa a:=λa b=>by kernel_rfl
 have p3:∀(a b:Value),aS ar1 (part 3 #[a,b] 1)=aa b:=λa b=>by kernel_rfl
 have hp:aS ar1 program=aa ar1:=rfl;rw[bx,hp,asa,ct];simp only[asA,if_false,<-Array.forIn_toList,List.forIn_cons,List.forIn_nil,bx,ne_eq,String.reduceEq,not_false_eq_true,if_true,p9,p3,asa,h1,h2];have q:∀{α:Type} (a:α),aS ar1 (pure a)=aa a:=λ_=>rfl;cases b1
 ·rfl
 ·simp only[Bool.not_true,asA,if_false,q,asa,bx,p3,h2];cases b2<;>rfl
theorem bq(a b:List UInt8):((⟨a.toArray⟩:ByteArray)==⟨b.toArray⟩)=(a==b):=by
 show(a.toArray==b.toArray)=_;simp
theorem ahC(P:Program)(t:TypeId)(a b c d:Value)(r:Bool)(hg:aS P (eqGuard .eql t (.func 0) (.func 0) (.agg #[a,b]) (.agg #[c,d]))=aa ())(h:aS P (avd t (.agg #[a,b]) (.agg #[c,d]))=aa r):
 dc P .eql t (.agg [.raw a,.raw b]) (.agg [.raw c,.raw d])=aa (iB r):=by
 show(aS P (do eqGuard .eql t (.func 0) (.func 0) (.agg #[a,b]) (.agg #[c,d]);Go.binOp .eql t (.agg #[a,b]) (.agg #[c,d]))).map lift=_;rw[bx,hg];show(aS P (do pure (.bool (<-avd t (.agg #[a,b]) (.agg #[c,d]))))).map lift=_;rw[bx,h];rfl
deriving instance DecidableEq for De
theorem ahD(s s':List UInt8)(n n':Int):dc ar1 .eql 53 (.agg [iS s,iI n]) (.agg [iS s',iI n'])=aa (iB (s==s'&&n==n')):=by
 refine ahC _ _ _ _ _ _ _ (by kernel_rfl) ?_;rw[<-bq];exact ahB 9998 _ _ _ _ _ _ (eq9 _ _ _) (eq3 _ _ _)
def fM(d:De):Value:=.agg #[.string ⟨d.s.toArray⟩,.int .i64 d.n]
theorem eqK(k e:De):aS ar1 (avd 53 (fM k) (fM e))=aa (decide (k=e)):=by
 have h:aS ar1 (avd 53 (fM k) (fM e))=aa (k.s==e.s&&k.n==e.n):=by
  rw[<-bq];exact ahB 9998 _ _ _ _ _ _ (eq9 _ _ _) (eq3 _ _ _)
 rw[h];obtain⟨a,b⟩:=k;obtain⟨c,d⟩:=e;simp;rw[Bool.eq_iff_iff];simp
theorem EN{α:Type}(P:Program)(a:α):aS P (pure a)=aa a:=rfl
theorem adx(k:De):∀(ks:List De) (i:Nat),(k∈ks->∃j,aS ar1 (as0 53 (fM k) (ks.map λe=>⟨fM e,asQ,0⟩) i)=aa (aa (i+j,asQ))/\ks[j]?=aa k)/\
 (k∉ks->aS ar1 (as0 53 (fM k) (ks.map λe=>⟨fM e,asQ,0⟩) i)=aa ah)
 |[],i=>by simp[as0,EN]
 |e::ks,i=>by
  obtain⟨h1,h2⟩:=adx k ks (i+1)
  have hu:aS ar1 (as0 53 (fM k) ((e::ks).map λe=>⟨fM e,asQ,0⟩) i)=aS ar1 (if decide (k=e)=ab then pure (aa (i,asQ))else as0 53 (fM k) (ks.map λe=>⟨fM e,asQ,0⟩) (i+1)):=by
   rw[List.map_cons,as0,bx,eqK,asa]
  rw[hu];by_cases h:k=e
  ·subst h;exact⟨λ_=>⟨0,by rw[if_pos (by simp)];simp[EN],rfl⟩,λhn=>absurd (by simp) hn⟩
  ·rw[if_neg (by simpa using h)];refine⟨λhm=>?_,λhn=>h2 λhm=>hn (by simp[hm])⟩;obtain⟨j,g1,g2⟩:=h1 (by simpa[h]using hm);exact⟨j+1,by rw[g1,show i+1+j=i+(j+1) by omega],by simpa using g2⟩
theorem F8(b:Bool)(k:De):aS ar1 (Instr.checkKey b 10000 53 (fM k))=aa ():=by
 obtain⟨s,n⟩:=k;cases b<;>kernel_rfl
theorem ZP(k:De)(ks:List De):aS ar1 (atx 53 (fM k) (ks.map λe=>⟨fM e,asQ,0⟩))=aS ar1 (as0 53 (fM k) (ks.map λe=>⟨fM e,asQ,0⟩) 0):=by
 unfold atx;rw[bx,Go.Ev.run_underlying awz,asa];cases ks with
 |nil=>rfl
 |cons e ks=>rfl
theorem aeX(b:Bool)(k:De)(ks:List De):(k∈ks->∃j,gT ar1 b 53 (fM k) ((ks.map fM).map λe=>(e,.undef,0))=aa (aa j)/\ks[j]?=aa k)/\(k∉ks->gT ar1 b 53 (fM k) ((ks.map fM).map λe=>(e,.undef,0))=aa ah):=by
 have hm:(((ks.map fM).map λe=>(e,(.undef:IV),0)).map λe=>({key:=e.1,val:=asQ,born:=e.2.2}:MapEntry))=ks.map λe=>⟨fM e,asQ,0⟩:=by
  rw[auP,auP];rfl
 obtain⟨h1,h2⟩:=adx k ks 0;refine⟨λh=>?_,λh=>?_⟩
 ·obtain⟨j,g1,g2⟩:=h1 h;refine⟨j,?_,g2⟩;unfold gT;rw[bx,F8,asa,hm,ZP,g1];simp
 ·unfold gT;rw[bx,F8,asa,hm,ZP,h2 h]
theorem ahE(k:De):auJ 10000 (fM k) (fM k)=ab:=by
 show((#[_,_]:Array Value).size==2&&_)=ab;simp[auJ,bq]
def z7(d:De):IV:=.az [.agg [iS d.s,iI d.n],iB ab]
theorem ZQ:∀ds:List De,n_ (ds.map z7)=aa (ds.map fM)
 |[]=>rfl
 |k::ks=>by simp[n_,z7,Ev.keyOf,ZQ ks,fM];rfl
theorem T9(ds:List De)(k:De):(k∈ds->∃j,fi ar1 53 (ds.map z7) (.agg [iS k.s,iI k.n])=aa (aa j)/\ds[j]?=aa k)/\(k∉ds->fi ar1 53 (ds.map z7) (.agg [iS k.s,iI k.n])=aa ah):=by
 have h:fi ar1 53 (ds.map z7) (.agg [iS k.s,iI k.n])=IG ar1 53 (ds.map fM) (fM k):=by
  unfold fi;rw[ZQ];have:FG ar1 53=ah:=by kernel_rfl
  rw[this];rfl
 rw[h];obtain⟨a1,a2⟩:=aeX ab k ds
 have hb:gT ar1 af 53 (fM k) ((ds.map fM).map λe=>(e,.undef,0))=gT ar1 ab 53 (fM k) ((ds.map fM).map λe=>(e,.undef,0)):=by
  unfold gT;rw[bx,bx,F8,F8]
 unfold IG;rw[hb];refine⟨λhm=>?_,λhm=>?_⟩
 ·obtain⟨j,g1,g2⟩:=a1 hm;refine⟨j,?_,g2⟩;rw[g1];simp only[if_true];rw[List.getElem?_map,g2];simp only[Option.map_some,ahE,if_true]
 ·rw[a2 hm];simp
end Go.Proofs.YtpfogalbnijcoaaGreat
namespace Go.Proofs.YtpfogalbnijcoaaGreat
open Go Go.Ev
def ZR:List Nat:=[209,280,208,250,295,22,23,8,49,4,9,272,199,118,198,240,197,241,62,249,122,206,61,202,101,123,125,177,248,124,205,59,119,63,244,203,243,242,201,245,200,246,204,120,36,68,64,126,207,33,17,66,35,34,60,65,37,58,55,235,180,105,230,107,24,10,25,51,50,106,54,186,53,256,257,108,52,134,227,110,281,279,187,29,234,260,117]
def ZS:List Nat:=[277]
def ZT:List Nat:=[238]
def ZU:List Nat:=[205,189,111,224000102,500182,500183,500056,600057]
def EO:ak:=
 (lN e_ 4 cb 1 bC 4 (nJ 6 (.rws rH) (nI 1 8 ej rH (rA 7))) (zF ej))
def ZV:ak:=
 (lN e_ 3 cb 1 bC 3 (nJ 5 (.rws ie) (l5 1 8 4 ie (IJ 3 6))) (zF oP))
def MH:ak:=
 (lN dg 1 cb 1 bC 1 (nJ 3 tL (pB FM (lY .lss FM 0) IM 0 3 1 1 (mM FM))) (.nt (Ao .lss 2 0) IM (rK (pD 2 0) (pD 2 0) 0 (.bind (.dec 8 (pD 2 0) (.k .i64 0)) (fK (zD qc dg) cb EO)) (zC ZV))))
def KX:ak:=
 (w7 MH)
def aeY:bg:=⟨ZR,ZS,ZT,[⟨0,194,11,[(0,(6,0)),(0,(27,0))],[(0,0)],[(0,24)],[]⟩,⟨0,194,3,[(0,(3,0)),(0,(11,0))],[],[],[]⟩,⟨999999,0,0,[],[],[],[]⟩],ZU⟩
theorem ahF:xp ar1 aeY 400 af 194=KX:=by kernel_rfl
def ZW:ak:=
 (lN e_ 4 cb 1 bC 4 (nJ 6 (.rws rH) (nI 1 8 ej rH (rA 7))) IM)
def MI:ak:=
 (nM 3 1 3 (nJ 4 (.sub 1 iN Ce dg) (kg 1 3)) (.ret e_))
def MJ:ak:=
 (lN dg 1 cb 1 bC 1 (nJ 3 tL (pB FM (lY .lss FM 0) IM 0 3 1 1 (mM FM))) (.nt (Ao .lss 2 0) IM (rK (pD 2 0) (pD 2 0) 0 (.bind (.dec 8 (pD 2 0) (.k .i64 0)) (fK (zD qc dg) cb ZW)) (zC MI))))
def KY:ak:=
 (w7 MJ)
def aeZ:bg:=⟨ZR,ZS,ZT,[⟨0,194,11,[(0,(27,0))],[(0,0)],[(0,24)],[]⟩,⟨0,194,3,[(0,(3,0)),(0,(11,0))],[],[],[]⟩,⟨999999,0,0,[],[],[],[]⟩,⟨999998,0,0,[],[],[],[]⟩],ZU⟩
theorem ahG:xp ar1 aeZ 400 ab 194=KY:=by kernel_rfl
end Go.Proofs.YtpfogalbnijcoaaGreat
namespace Go.Proofs.YtpfogalbnijcoaaGreat
open Go Go.Ev
abbrev Dj(ls:List (List Int)):IV:=.tree 1 (ls.map iL)
theorem JD{ls:List (List Int)}{i:Nat}(h:i<ls.length):dD 1 (Dj ls) (iI (i:Nat))=aa (iL ls[i]):=gj (by simp[h]) rfl
theorem MK{ls:List (List Int)}{i:Nat}(h:i<ls.length):(ls.take (i+1)).flatten=(ls.take i).flatten++ls[i]:=by
 rw[List.take_succ_eq_append_getElem h,ath];simp only[List.flatten_cons,List.flatten_nil,List.append_nil]
theorem KZ(ls:List (List Int))(i:Nat):(ls.take i).flatten.length<=ls.flatten.length:=by
 conv=>rhs;rw[<-List.take_append_drop i ls,ath,ass]
 omega
theorem QT(ls:List (List Int)):Pure (Dj ls):=by
 refine .tree 1 _ λe he c hc=>?_;obtain⟨x,_,rfl⟩:=asv.1 he;simp[cellsOf]at hc;subst hc;exact Bi x
section cat
theorem ahH{k0:List IV->Prop}(ls:List (List Int))(hl:ls.length<=1000)(hf:ls.flatten.length<=100000){x1 x2 x3:IV}:
 EO.sat ar1 CC (·=iL ls.flatten) [k0] [Dj ls,x1,x2,x3]:=by
 unfold EO;refine aw ls.length (λi (a:List Int)=>[iI i,iL a]) (λi a=>a=(ls.take i).flatten) [] ?_ (by simp) λi a hi hI=>?_
 ·simp[SE.den]
 by_cases ai:i<ls.length
 ·have hw:=aD ai (by omega);have Hh:=KZ ls (i+1);have ht:=MK ai;rw[ht,<-hI,ass]at Hh;rw[<-hI]at ht;have hc:=oh (a:=a) (b:=ls[i]) (by omega);have hr:=Zx ls[i];simp[SE.den,ai,hw,JD ai,hc, -atr];exact⟨λ_ _ x hx=>by simp[cellsOf]at hx;subst hx;rfl,.mk _ rfl (by omega) ht.symm⟩
 ·have he:i=ls.length:=by omega
  subst he;rw[awJ]at hI;subst hI;generalize ls.flatten=q at*
  simp[SE.den];exactλ_ _ x hx=>by simp[cellsOf]at hx;subst hx;rfl
end cat
theorem ab6(ls:List (List Int))(hl:ls.length<=1000)(hf:ls.flatten.length<=100000)(hp:ls.flatten≠[]):KX.sat ar1 CC (·=iL ls.flatten) [] [Dj ls]:=by
 simp only[KX,nP,SE.den,atC,asa,r8];refine⟨⟨_,rfl⟩,⟨_,rfl⟩,?_⟩;unfold MH;refine aw ls.length (λi (a:Int)=>[iI i,iI a]) (λi a=>a=((ls.take i).flatten.length:Int)) 0 ?_ (by simp) λi a hi hI=>?_
 ·simp[SE.den]
 have hle:=KZ ls i;by_cases ai:i<ls.length
 ·have hw:=aD ai (by omega);have Hh:=KZ ls (i+1)
  have ht:((ls.take (i+1)).flatten.length:Int)=a+(ls[i].length:Int):=by
   rw[MK ai,ass,hI];omega
  have DM:asC.wrap (a+(ls[i].length:Int))=a+(ls[i].length:Int):=dQ (by omega) (by omega);have Mc:¬a+(ls[i].length:Int)<0:=by omega
  simp[SE.den,ai,hw,JD ai,DM,Mc, -atr];exact .mk _ rfl (by omega) ht.symm
 ·have he:i=ls.length:=by omega
  subst he;rw[awJ]at hI;have sY:0<ls.flatten.length:=List.length_pos_iff.2 hp;have Mc:¬a<0:=by omega
  have hw:asC.wrap a=a:=dQ (by omega) (by omega);have za:0<a:=by omega
  have ab7:(asr a.toNat (IV.raw (Value.int asC 0)))[0]?=aa (iI 0):=by
   rw[List.getElem?_replicate,if_pos (by omega)]
  have sX:dD 1 (.tree 1 (asr a.toNat (iI 0))) (iI 0)=aa (iI 0):=gj (i:=0) ab7 rfl;simp[SE.den,ai,hw,Mc,za,lX, -atr];exact⟨_,⟨⟨by omega,by omega,rfl⟩,rfl⟩,⟨_,sX⟩,ahH ls hl hf⟩
theorem ab8(ls:List (List Int))(hl:ls.length<=1000)(hp:ls.flatten=[]):KY.sat ar1 CC (·=iL []) [] [Dj ls]:=by
 have hz:∀i (h:i<ls.length),ls[i]=[]:=λi h=>List.flatten_eq_nil_iff.1 hp _ (List.getElem_mem h);simp only[KY,nP,SE.den,atC,asa,r8];refine⟨⟨_,rfl⟩,⟨_,rfl⟩,?_⟩;unfold MJ;refine aw ls.length (λi (_:Unit)=>[iI i,iI 0]) (λ_ _=>True) () ?_ trivial λi _ hi _=>?_
 ·simp[SE.den]
 by_cases ai:i<ls.length
 ·have hw:=aD ai (by omega);have GA:asC.wrap 0=0:=dQ (by omega) (by omega);simp[SE.den,ai,hw,JD ai,hz i ai,GA];exact .mk () rfl (by omega) trivial
 ·have GA:asC.wrap 0=0:=dQ (by omega) (by omega);simp[SE.den,ai,GA];unfold MI;refine aw ls.length (λi (_:Unit)=>[iI i]) (λ_ _=>True) () ?_ trivial λi _ hi _=>?_
  ·simp[SE.den]
  by_cases ai:i<ls.length
  ·have hw:=aD ai (by omega);simp[SE.den,ai,hw,JD ai,hz i ai];exact⟨⟨.tree 1 [],by simp[kP,gh]⟩,.mk () rfl (by omega) trivial⟩
  ·simp[SE.den,ai]
theorem n207:(ar1.funcs[194]?).map (·.params.size)=aa 1:=by kernel_rfl
theorem apK:cK ar1 194=1:=by kernel_rfl
theorem f207(ls:List (List Int))(hl:ls.length<=1000)(hf:ls.flatten.length<=100000):jR ar1 1 194 [Dj ls] (ls.flatten.map iI):=by
 have bH:∀e∈ls.flatten.map iI,(cellsOf e).length=1:=λe he=>by obtain⟨x,_,rfl⟩:=asv.1 he;rfl
 have bp:∀c∈flat (ls.flatten.map iI),(∃v,c=.raw v)/\aj c=ab:=λc hc=>by
  unfold flat at hc;obtain⟨e,he,hc⟩:=List.mem_flatMap.1 hc;obtain⟨x,_,rfl⟩:=asv.1 he;simp[cellsOf]at hc;subst hc;exact⟨⟨_,rfl⟩,rfl⟩
 have h1:=apK;by_cases hp:ls.flatten=[]
 ·rw[<-h1];exact .YU (nm:=ab) mixed wu ahG n207 (by simpa using QT ls) (by rw[h1];exact bH) bp (by simp) (by rw[h1,hp];exact ab8 ls hl hp)
 ·rw[<-h1];exact .YU (nm:=af) mixed wu ahF n207 (by simpa using QT ls) (by rw[h1];exact bH) bp (λ_=>by simpa using hp) (by rw[h1];exact ab6 ls hl hf hp)
end Go.Proofs.YtpfogalbnijcoaaGreat
