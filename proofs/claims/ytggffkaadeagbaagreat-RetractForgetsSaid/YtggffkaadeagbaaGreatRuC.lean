/- A part of the proof, no condition: comparisons. -/
import Derived.Test.YtggffkaadeagbaaGreatRuA
open Go.Proofs.Tryz renaming prog->ar3
open List renaming drop_eq_getElem_cons->asq,drop_of_length_le->asA,getElem_mem->asb,sizeOf_lt_of_mem->atD
open List.cons renaming injEq->as5
set_option linter.all false
namespace Go.Proofs.YtggffkaadeagbaaGreat
open Go Go.Ev
theorem n183:(ar3.funcs[183]?).map (·.params.size)=some 2:=by kernel_rfl
theorem t183(z:IV):aD ar3 183 z=true:=by kernel_rfl
def Ci(n:Int):List Int→Nat→Int
 |[],_=> -1
 |x::l,i=>if n=x then i else Ci n l (i+1)
theorem GV(n:Int):∀(l:List Int) (i:Nat),decide (0≤Ci n l i)=l.contains n
 |[],_=>rfl
 |x::l,i=>by
  by_cases h:n=x
  ·simp[Ci,h]
  ·have:=GV n l (i+1);simp[Ci,h]at this⊢;exact this
theorem agf(l:List Int)(n:Int)(hl:Sm l):CC 183 false [iL l,iI n] (iI (Ci n l 0)):=by
 refine CC.of ajP n183 (t183 _) (by simp) (by simp) ?_;simp[X2,SE.den];refine dh l.length (fun i (_:Unit)=>[iI i]) (fun i _=>Ci n l 0=Ci n (l.drop i) i) () ?_ ?_ fun i _ hi hI=>?_
 ·simp[SE.den]
 ·simp
 by_cases aa:i<l.length
 ·rw[asq aa]at hI;have hw:=aw aa hl;simp[SE.den,aa,hw];by_cases h:n=l[i]
  ·left;exact⟨h,by rw[hI];simp[Ci,h]⟩
  ·right;simp[h,hI,Ci];omega
 ·simp[SE.den,aa];rw[hI,asA (by omega)];rfl
theorem n121:(ar3.funcs[121]?).map (·.params.size)=some 2:=by kernel_rfl
theorem t121(z:IV):aD ar3 121 z=true:=by kernel_rfl
theorem agh(l:List Int)(n:Int)(hl:Sm l):CC 121 false [iL l,iI n] (iB (l.contains n)):=by
 refine CC.of ajQ n121 (t121 _) (by simp) (by simp) ?_;simp[X3,SE.den];refine⟨_,agf l n hl,?_⟩;have:=GV n l 0;simp at this⊢;exact this
theorem n58:(ar3.funcs[58]?).map (·.params.size)=some 2:=by kernel_rfl
theorem t58(z:IV):aD ar3 58 z=true:=by kernel_rfl
theorem c58(l:List Int)(n:Int)(hl:Sm l):CC 58 false [iL l,iI n] (iB (l.contains n)):=by
 refine CC.of aor n58 (t58 _) (by simp) (by simp) ?_;simp[acd,SE.den];exact⟨_,agh l n hl,by simp⟩
theorem Vt(l:List Int)(n:Int)(hl:Sm l):CC 58 true [iL l,iI n] (iB (l.contains n)):=by
 refine CC.of aj9 n58 (t58 _) (by simp) (by simp) ?_;simp[Yh,SE.den,au];exact⟨_,agh l n hl,by simp[au]⟩
theorem n94:(ar3.funcs[94]?).map (·.params.size)=some 2:=by kernel_rfl
theorem t94(z:IV):aD ar3 94 z=true:=by kernel_rfl
theorem n53:(ar3.funcs[53]?).map (·.params.size)=some 2:=by kernel_rfl
theorem t53(z:IV):aD ar3 53 z=true:=by kernel_rfl
theorem c53(a b:List Int)(hl:Sm a):CC 53 false [iL a,iL b] (iB (a==b)):=by
 refine CC.of aos n53 (t53 _) (by simp) (by simp) ?_;simp[ace,SE.den];by_cases bR:a.length=b.length
 ·right;simp[bR];refine dh a.length (fun i (_:Unit)=>[iI i]) (fun i _=>(a=b↔a.drop i=b.drop i)) () ?_ ?_ fun i _ hi hI=>?_
  ·simp[SE.den]
  ·simp
  by_cases aa:i<a.length
  ·have Cq:i<b.length:=by omega
   have nS:a=b↔a[i]=b[i]∧a.drop (i+1)=b.drop (i+1):=by
    rw[hI,asq aa,asq Cq,as5]
   have hw:=aw aa hl;simp[SE.den,aa,Cq,hw];by_cases h:a[i]=b[i]
   ·right;exact⟨h,by omega,by rw[nS];simp[h]⟩
   ·left;exact⟨h,fun hh=>h (nS.1 hh).1⟩
  ·simp[SE.den,aa];rw[asA (by omega),asA (by omega)]at hI;exact hI.2 rfl
 ·left;exact⟨by omega,fun h=>bR (by rw[h])⟩
theorem n78:(ar3.funcs[78]?).map (·.params.size)=some 2:=by kernel_rfl
theorem t78(z:IV):aD ar3 78 z=true:=by kernel_rfl
end Go.Proofs.YtggffkaadeagbaaGreat
namespace Go.Proofs.YtggffkaadeagbaaGreat
open Go Go.Ev
theorem n186:(ar3.funcs[186]?).map (·.params.size)=some 1:=by kernel_rfl
theorem t186(z:IV):aD ar3 186 z=true:=by kernel_rfl
theorem n189:(ar3.funcs[189]?).map (·.params.size)=some 1:=by kernel_rfl
theorem t189(z:IV):aD ar3 189 z=true:=by kernel_rfl
theorem n123:(ar3.funcs[123]?).map (·.params.size)=some 2:=by kernel_rfl
theorem t123(z:IV):aD ar3 123 z=true:=by kernel_rfl
theorem n127:(ar3.funcs[127]?).map (·.params.size)=some 2:=by kernel_rfl
theorem t127(z:IV):aD ar3 127 z=true:=by kernel_rfl
theorem n126:(ar3.funcs[126]?).map (·.params.size)=some 1:=by kernel_rfl
theorem t126(z:IV):aD ar3 126 z=true:=by kernel_rfl
theorem n249:(ar3.funcs[249]?).map (·.params.size)=some 1:=by kernel_rfl
theorem t249(z:IV):aD ar3 249 z=true:=by kernel_rfl
theorem n190:(ar3.funcs[190]?).map (·.params.size)=some 2:=by kernel_rfl
theorem t190(z:IV):aD ar3 190 z=true:=by kernel_rfl
theorem n128:(ar3.funcs[128]?).map (·.params.size)=some 2:=by kernel_rfl
theorem t128(z:IV):aD ar3 128 z=true:=by kernel_rfl
theorem n66:(ar3.funcs[66]?).map (·.params.size)=some 2:=by kernel_rfl
theorem t66(z:IV):aD ar3 66 z=true:=by kernel_rfl
theorem n250:(ar3.funcs[250]?).map (·.params.size)=some 1:=by kernel_rfl
theorem t250(z:IV):aD ar3 250 z=true:=by kernel_rfl
theorem n130:(ar3.funcs[130]?).map (·.params.size)=some 2:=by kernel_rfl
theorem t130(z:IV):aD ar3 130 z=true:=by kernel_rfl
theorem n129:(ar3.funcs[129]?).map (·.params.size)=some 2:=by kernel_rfl
theorem t129(z:IV):aD ar3 129 z=true:=by kernel_rfl
theorem n131:(ar3.funcs[131]?).map (·.params.size)=some 2:=by kernel_rfl
theorem t131(z:IV):aD ar3 131 z=true:=by kernel_rfl
theorem n191:(ar3.funcs[191]?).map (·.params.size)=some 2:=by kernel_rfl
theorem t191(z:IV):aD ar3 191 z=true:=by kernel_rfl
theorem n71:(ar3.funcs[71]?).map (·.params.size)=some 2:=by kernel_rfl
theorem t71(z:IV):aD ar3 71 z=true:=by kernel_rfl
theorem n64:(ar3.funcs[64]?).map (·.params.size)=some 2:=by kernel_rfl
theorem t64(z:IV):aD ar3 64 z=true:=by kernel_rfl
def Tm.k:Tm→Int|.mk k _ _ _=>k
def Tm.n:Tm→Int|.mk _ n _ _=>n
def Tm.s:Tm→List UInt8|.mk _ _ s _=>s
def Tm.ts:Tm→List Tm|.mk _ _ _ ts=>ts
theorem bo(t:Tm):bV t=.agg [iI t.k,iI t.n,iS t.s,iT t.ts]:=by cases t;exact uF _ _ _ _
def di(a b:Int):Int:=if a<b then-1 else if b<a then 1 else 0
def iF(a b:List UInt8):Int:=if Op.bytesLess a b then-1 else if a=b then 0 else 1
def rk(k:Int):Int:=if k=1 then 0 else if k=0 then 1 else if k=2 then 2 else 3
def dq(x y:Int):Int:=if x=0 then y else x
mutual
def fL:Tm→Tm→Int
 |.mk k n s ts,u=>dq (di (rk k) (rk u.k)) (if rk k=0 then di n u.n else if rk k=1 then di n u.n else if rk k=2 then dq (di ts.length u.ts.length) (dq (iF s u.s) (cmpL ts u.ts))else dq (di k u.k) (dq (di n u.n) (iF s u.s)))
def cmpL:List Tm→List Tm→Int
 |[],_=>0
 |t::l,m=>match m with
  |[]=>0
  |u::m=>dq (fL t u) (cmpL l m)
end
mutual
def py:Tm→Prop
 |.mk _ _ _ ts=>Sm ts∧O5 ts
def O5:List Tm→Prop
 |[]=>True
 |t::l=>py t∧O5 l
end
theorem O6:∀l:List Tm,O5 l↔∀t∈l,py t
 |[]=>by simp[O5]
 |t::l=>by simp[O5,O6 l]
theorem mI(t:Tm):py t↔Sm t.ts∧∀u∈t.ts,py u:=by cases t;simp[py,O6,Tm.ts]
theorem agi(a:Int):CC 186 false [iI a] (iB false):=by
 refine CC.of ajT n186 (t186 _) (by simp) (by simp) ?_;simp[X4,SE.den]
theorem agj(a:List UInt8):CC 189 false [iS a] (iB false):=by
 refine CC.of ajU n189 (t189 _) (by simp) (by simp) ?_;simp[X5,SE.den]
theorem D9(a b:Int):CC 123 false [iI a,iI b] (iI (di a b)):=by
 refine CC.of ajV n123 (t123 _) (by simp) (by simp) ?_;simp[X6,SE.den];refine⟨_,agi a,?_⟩;simp[SE.den];refine⟨_,agi b,?_⟩;simp[SE.den];unfold di
 grind
theorem aa3(a b:List UInt8):CC 127 false [iS a,iS b] (iI (iF a b)):=by
 refine CC.of ajW n127 (t127 _) (by simp) (by simp) ?_;simp[X7,SE.den];refine⟨_,agj a,?_⟩;simp[SE.den];refine⟨_,agj b,?_⟩;simp[SE.den];unfold iF
 grind
theorem agk(l:List Int)(hl:Sm l):CC 126 true [iL l] (iI (l.foldr dq 0)):=by
 refine CC.of afZ n126 (t126 _) (by simp) (by simp) ?_;simp[Sn,SE.den];refine dh l.length (fun i (_:Unit)=>[iI i]) (fun i _=>l.foldr dq 0=(l.drop i).foldr dq 0) () ?_ ?_ fun i _ hi hI=>?_
 ·simp[SE.den]
 ·simp
 by_cases aa:i<l.length
 ·rw[asq aa,List.foldr_cons]at hI;have hw:=aw aa hl;simp[SE.den,aa,hw,au];by_cases h:l[i]=0
  ·right;exact⟨h,by omega,by rw[hI];simp[dq,h]⟩
  ·left;exact⟨h,by rw[hI];simp[dq,h]⟩
 ·simp[SE.den,aa,au];rw[hI,asA (by omega)];rfl
theorem aa4(a:Int):CC 249 false [iI a] (iI (rk a)):=by
 refine CC.of ajX n249 (t249 _) (by simp) (by simp) ?_;simp[X8,SE.den];unfold rk
 grind
theorem D_(a b:Int):CC 130 false [iI a,iI b] (iI (di a b)):=by
 refine CC.of aj2 n130 (t130 _) (by simp) (by simp) ?_;simp[Yc,SE.den];unfold di
 grind
theorem aa5(a b:List UInt8):CC 129 false [iS a,iS b] (iI (iF a b)):=by
 refine CC.of aj3 n129 (t129 _) (by simp) (by simp) ?_;simp[Yd,SE.den];unfold iF
 grind
theorem agl(t:Tm):CC 250 false [bV t] (iI (rk t.k)):=by
 refine CC.of aj1 n250 (t250 _) (by simp[jc]) (by simp) ?_;simp[Yb,SE.den,bo,ab];unfold rk
 grind
theorem agm(l m:List Tm)(we:l.length=m.length)(hl:Sm l)(hc:∀t∈l,∀u,CC 190 false [bV t,bV u] (iI (fL t u))):CC 128 false [iT l,iT m] (iI (cmpL l m)):=by
 refine CC.of ajZ n128 (t128 _) (by simp) (by simp) ?_;simp[X_,SE.den];refine dh l.length (fun i (_:Unit)=>[iI i]) (fun i _=>cmpL l m=cmpL (l.drop i) (m.drop i)) () ?_ ?_ fun i _ hi hI=>?_
 ·simp[SE.den]
 ·simp
 by_cases aa:i<l.length
 ·have oq:i<m.length:=by omega
  rw[asq aa,asq oq,cmpL]at hI;have hw:=aw aa hl;have h1:cq 4 (iT l) (iI (i:Nat))=some (bV l[i]):=dv (by simp[aa]) (by rw[bo];rfl);have h2:cq 4 (iT m) (iI (i:Nat))=some (bV m[i]):=dv (by simp[oq]) (by rw[bo];rfl);have h3:=hc l[i] (asb aa) m[i];rw[bo,bo]at h3;simp[SE.den,aa,hw,h1,h2,bo,ab];refine⟨_,h3,?_⟩;simp[SE.den,hw];by_cases h:fL l[i] m[i]=0
  ·right;exact⟨h,by omega,by rw[hI];simp[dq,h]⟩
  ·left;exact⟨h,by rw[hI];simp[dq,h]⟩
 ·simp[SE.den,aa];rw[hI,asA (by omega)];rfl
end Go.Proofs.YtggffkaadeagbaaGreat
namespace Go.Proofs.YtggffkaadeagbaaGreat
open Go Go.Ev
theorem uG(a b:Tm):fL a b=dq (di (rk a.k) (rk b.k)) (if rk a.k=0 then di a.n b.n else if rk a.k=1 then di a.n b.n else if rk a.k=2 then dq (di a.ts.length b.ts.length) (dq (iF a.s b.s) (cmpL a.ts b.ts))else dq (di a.k b.k) (dq (di a.n b.n) (iF a.s b.s))):=by
 cases a;cases b;simp only[fL,Tm.k,Tm.n,Tm.s,Tm.ts];first|rfl|congr
theorem lT{α β:Type}{l:List α}{m:List β}(h:di l.length m.length=0):l.length=m.length:=by
 unfold di at h;split at h
 ·omega
 ·split at h<;>omega
theorem qP{x y:Int}(h:¬x=0):dq x y=x:=if_neg h
theorem f190(a b:Tm)(ha:py a)(hc:∀t∈a.ts,∀u,CC 190 false [bV t,bV u] (iI (fL t u))):CC 190 false [bV a,bV b] (iI (fL a b)):=by
 refine CC.of ajY n190 (t190 _) (by simp[jc]) (by simp) ?_;simp[X9,SE.den,bo,ab];refine⟨_,aa4 a.k,?_⟩;simp[SE.den];refine⟨_,aa4 b.k,?_⟩;simp[SE.den];refine⟨_,D9 _ _,?_⟩;simp[SE.den];rw[uG];by_cases h0:di (rk a.k) (rk b.k)=0
 ·right;refine⟨h0,?_⟩;refine⟨_,aa4 a.k,?_⟩;simp[SE.den,dq,h0];by_cases h1:rk a.k=0
  ·left;refine⟨h1,_,D9 _ _,?_⟩;simp[SE.den,h1]
  ·right;refine⟨h1,?_⟩;by_cases h2:rk a.k=1
   ·left;refine⟨h2,_,D9 _ _,?_⟩;simp[SE.den,h2]
   ·right;refine⟨h2,?_⟩;by_cases h3:rk a.k=2
    ·left;refine⟨h3,_,D9 _ _,?_⟩;simp[SE.den,h3];by_cases h4:di a.ts.length b.ts.length=0
     ·right;refine⟨h4,_,aa3 _ _,?_⟩;simp[SE.den,h4];by_cases h5:iF a.s b.s=0
      ·right;refine⟨h5,_,agm _ _ (lT h4) ((mI a).1 ha).1 hc,?_⟩;simp[SE.den,h5]
      ·left;exact⟨h5,by simp[h5]⟩
     ·left;exact⟨h4,by simp[h4]⟩
    ·right;refine⟨h3,_,D9 _ _,?_⟩;simp[SE.den];refine⟨_,D9 _ _,?_⟩;simp[SE.den];refine⟨_,aa3 _ _,?_⟩;simp[SE.den,au,cellsOf];refine⟨_,agk [_,_,_] (by simp),?_⟩;simp[SE.den,h1,h2,h3,dq]
     grind
 ·left;exact⟨h0,by simp[dq,h0]⟩
theorem ago:∀(a:Tm),py a→∀b:Tm,CC 190 false [bV a,bV b] (iI (fL a b))
 |.mk k n s ts,hw,b=>f190 _ b hw fun t ht u=>ago t (((mI _).1 hw).2 t ht) u
 decreasing_by simp[Tm.ts]at ht;have:=atD ht;simp;omega
theorem ako(l m:List Tm)(we:l.length=m.length)(hl:Sm l)(hw:∀t∈l,py t):CC 128 false [iT l,iT m] (iI (cmpL l m)):=
 agm l m we hl fun t ht u=>ago t (hw t ht) u
def lU(a b:At):Int:=dq (iF a.s b.s) (dq (di a.ts.length b.ts.length) (cmpL a.ts b.ts))
def CQ(a:At):Prop:=Sm a.ts∧∀t∈a.ts,py t
theorem adX(a b:At):lU a b=dq (dq (iF a.s b.s) (di a.ts.length b.ts.length)) (cmpL a.ts b.ts):=by
 unfold lU dq;grind
theorem apg(a b:At)(ha:CQ a):CC 66 true [ku a,ku b] (iI (lU a b)):=by
 refine CC.of aj0 n66 (t66 _) (by simp[r9]) (by simp) ?_;simp[Ya,SE.den,ku,ab];refine⟨_,aa3 _ _,?_⟩;simp[SE.den];refine⟨_,D9 _ _,?_⟩;simp[SE.den,au,cellsOf];refine⟨_,agk [_,_] (by simp),?_⟩;simp[SE.den,au];rw[adX];by_cases h:dq (iF a.s b.s) (di a.ts.length b.ts.length)=0
 ·right;have h0:(dq (iF a.s b.s) (dq (di a.ts.length b.ts.length) 0))=0:=by unfold dq at h⊢;grind
  have hl:a.ts.length=b.ts.length:=lT (by unfold dq at h;grind);refine⟨h0,_,ako _ _ hl ha.1 ha.2,?_⟩;simp[SE.den,h,dq,au];unfold dq at h;simp[h]
 ·left;have h0:(dq (iF a.s b.s) (dq (di a.ts.length b.ts.length) 0))=dq (iF a.s b.s) (di a.ts.length b.ts.length):=by unfold dq;grind
  rw[h0];exact⟨h,(qP h).symm⟩
theorem agp(l m:List Tm)(we:l.length=m.length)(hl:Sm l)(hc:∀t∈l,∀u,CC 191 false [bV t,bV u] (iI (fL t u))):CC 131 false [iT l,iT m] (iI (cmpL l m)):=by
 refine CC.of aj4 n131 (t131 _) (by simp) (by simp) ?_;simp[Ye,SE.den];refine dh l.length (fun i (_:Unit)=>[iI i]) (fun i _=>cmpL l m=cmpL (l.drop i) (m.drop i)) () ?_ ?_ fun i _ hi hI=>?_
 ·simp[SE.den]
 ·simp
 by_cases aa:i<l.length
 ·have oq:i<m.length:=by omega
  rw[asq aa,asq oq,cmpL]at hI;have hw:=aw aa hl;have h1:cq 4 (iT l) (iI (i:Nat))=some (bV l[i]):=dv (by simp[aa]) (by rw[bo];rfl);have h2:cq 4 (iT m) (iI (i:Nat))=some (bV m[i]):=dv (by simp[oq]) (by rw[bo];rfl);have h3:=hc l[i] (asb aa) m[i];rw[bo,bo]at h3;simp[SE.den,aa,oq,hw,h1,h2,bo,ab];refine⟨_,h3,?_⟩;simp[SE.den];by_cases h:fL l[i] m[i]=0
  ·right;exact⟨h,by omega,by rw[hI];simp[dq,h]⟩
  ·left;exact⟨h,by rw[hI];simp[dq,h]⟩
 ·simp[SE.den,aa];refine⟨_,D_ _ _,?_⟩;simp[SE.den];rw[hI,asA (by omega),cmpL,we];simp[di]
theorem f191(a b:Tm)(ha:py a)(hc:∀t∈a.ts,∀u,CC 191 false [bV t,bV u] (iI (fL t u))):CC 191 false [bV a,bV b] (iI (fL a b)):=by
 refine CC.of aj5 n191 (t191 _) (by simp[jc]) (by simp) ?_;have ha5:=agl a;have hb5:=agl b;rw[bo]at ha5 hb5;simp[Yf,SE.den,bo,ab];refine⟨_,ha5,?_⟩;simp[SE.den];refine⟨_,hb5,?_⟩;simp[SE.den];refine⟨_,D_ _ _,?_⟩;simp[SE.den];rw[uG];by_cases h0:di (rk a.k) (rk b.k)=0
 ·right;refine⟨h0,?_⟩;refine⟨_,ha5,?_⟩;simp[SE.den,dq,h0];by_cases h1:rk a.k=0
  ·left;refine⟨h1,_,D_ _ _,?_⟩;simp[SE.den,h1]
  ·right;refine⟨h1,?_⟩;by_cases h2:rk a.k=1
   ·left;refine⟨h2,_,D_ _ _,?_⟩;simp[SE.den,h2]
   ·right;refine⟨h2,?_⟩;by_cases h3:rk a.k=2
    ·left;refine⟨h3,_,D_ _ _,?_⟩;simp[SE.den,h3];by_cases h4:di a.ts.length b.ts.length=0
     ·left;refine⟨h4,_,aa5 _ _,?_⟩;simp[SE.den,h4];by_cases h5:iF a.s b.s=0
      ·left;refine⟨h5,_,agp _ _ (lT h4) ((mI a).1 ha).1 hc,?_⟩;simp[SE.den,h5]
      ·right;exact⟨h5,by simp[h5]⟩
     ·right;exact⟨h4,by simp[h4]⟩
    ·right;refine⟨h3,_,D_ _ _,?_⟩;simp[SE.den];by_cases h4:di a.k b.k=0
     ·left;refine⟨h4,_,D_ _ _,?_⟩;simp[SE.den];by_cases h5:di a.n b.n=0
      ·left;refine⟨h5,_,aa5 _ _,?_⟩;simp[SE.den,h1,h2,h3,h4,h5]
      ·right;exact⟨h5,by simp[h1,h2,h3,h4,h5]⟩
     ·right;exact⟨h4,by simp[h1,h2,h3,h4]⟩
 ·left;exact⟨h0,by simp[dq,h0]⟩
theorem agq:∀(a:Tm),py a→∀b:Tm,CC 191 false [bV a,bV b] (iI (fL a b))
 |.mk k n s ts,hw,b=>f191 _ b hw fun t ht u=>agq t (((mI _).1 hw).2 t ht) u
 decreasing_by simp[Tm.ts]at ht;have:=atD ht;simp;omega
theorem akp(l m:List Tm)(we:l.length=m.length)(hl:Sm l)(hw:∀t∈l,py t):CC 131 false [iT l,iT m] (iI (cmpL l m)):=
 agp l m we hl fun t ht u=>agq t (hw t ht) u
theorem c71(a b:At)(ha:CQ a):CC 71 false [ku a,ku b] (iI (lU a b)):=by
 refine CC.of aot n71 (t71 _) (by simp[r9]) (by simp) ?_;simp[acf,SE.den,ku,ab];refine⟨_,aa5 _ _,?_⟩;simp[SE.den];by_cases h1:iF a.s b.s=0
 ·left;refine⟨h1,_,D_ _ _,?_⟩;simp[SE.den];by_cases h2:di a.ts.length b.ts.length=0
  ·left;refine⟨h2,_,akp _ _ (lT h2) ha.1 ha.2,?_⟩;simp[SE.den,lU,dq,h1,h2]
  ·right;exact⟨h2,by simp[lU,dq,h1,h2]⟩
 ·right;exact⟨h1,by simp[lU,dq,h1]⟩
theorem c64(a b:At)(ha:CQ a):CC 64 false [ku a,ku b] (iB (lU a b==0)):=by
 refine CC.of aou n64 (t64 _) (by simp[r9]) (by simp) ?_;have h:=c71 a b ha;simp only[ku]at h;simp[acg,SE.den,ku,ab];refine⟨_,h,?_⟩;simp[SE.den]
end Go.Proofs.YtggffkaadeagbaaGreat
namespace Go.Proofs.YtggffkaadeagbaaGreat
open Go Go.Ev
theorem t28(z:IV):aD ar3 28 z=true:=by kernel_rfl
def oP(f:Fa):Prop:=CQ f.a∧Sm f.j
def Yo(x:Ap):Prop:=Sm x.dw∧Sm x.gone∧Sm x.made∧Sm x.fK
structure CS(m:Me):Prop where
 sf:Sm m.facts
 sp:Sm m.past
 sl:Sm m.log
 f:∀x∈m.facts,oP x
 p:∀x∈m.past,oP x
 l:∀x∈m.log,Yo x
theorem aa6{l:List Fa}{i:Nat}(h:i<l.length):cq 4 (bF l) (iI (i:Nat))=some (dA l[i]):=dv (by simp[h]) rfl
theorem agr{l:List At}{i:Nat}(h:i<l.length):cq 2 (cS l) (iI (i:Nat))=some (ku l[i]):=dv (by simp[h]) rfl
theorem ags{l:List Ap}{i:Nat}(h:i<l.length):cq 6 (nR l) (iI (i:Nat))=some (jR l[i]):=dv (by simp[h]) rfl
theorem rI{l:List Tm}{i:Nat}(h:i<l.length):cq 4 (iT l) (iI (i:Nat))=some (bV l[i]):=dv (by simp[h]) (by rw[bo];rfl)
end Go.Proofs.YtggffkaadeagbaaGreat
