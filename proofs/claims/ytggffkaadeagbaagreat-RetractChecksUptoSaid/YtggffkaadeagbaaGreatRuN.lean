/- A part of the proof, no condition: Retract of the program. -/
import Derived.Test.YtggffkaadeagbaaGreatRuM
import Derived.Test.YtggffkaadeagbaaGreatRuH
open Go.Value renaming int->arG
open Go.Instr renaming sameNow->atM
open Go.Proofs.Tryz renaming prog->aqD
open Option renaming bind_some->aqN
set_option linter.all false
namespace Go.Proofs.YtggffkaadeagbaaGreat
open Go Go.Ev
variable{Q:IV→Prop}{k0 k1 k2 k3 k4 k5:List IV→Prop}
end Go.Proofs.YtggffkaadeagbaaGreat
namespace Go.Proofs.YtggffkaadeagbaaGreat
open Go Go.Ev
variable{Q:IV→Prop}{k0 k1 k2 k3 k4 k5:List IV→Prop}
def mb(k:Int):IV:=.av [iI k,.agg []]
abbrev iM(ks:List Int):IV:=.av (ks.map mb)
def tE(ks:List Int)(k:Int):List Int:=if k∈ks then ks else ks++[k]
theorem LY:∀ks:List Int,nI (ks.map mb)=some (ks.map (arG .i64))
 |[]=>rfl
 |k::ks=>by simp[nI,mb,Ev.keyOf,LY ks]
theorem PH(k:Int):∀(ks:List Int) (n:Nat),(k∈ks→∃i,nowAt (.int .i64) (.int .i64 k) (ks.map (arG .i64)) n=some (some (n+i))∧ks[i]?=some k)∧(k∉ks→nowAt (.int .i64) (.int .i64 k) (ks.map (arG .i64)) n=some none)
 |[],n=>by simp[nowAt]
 |a::ks,n=>by
  obtain⟨h1,h2⟩:=PH k ks (n+1);by_cases h:k=a
  ·subst h;refine⟨fun _=>⟨0,by simp[nowAt,atM],rfl⟩,fun hn=>absurd (by simp) hn⟩
  ·refine⟨fun hm=>?_,fun hn=>?_⟩
   ·obtain⟨i,g1,g2⟩:=h1 (by simpa[h]using hm);have hb:(k==a)=false:=by simpa using h
    exact⟨i+1,by simp[nowAt,atM,hb,g1];omega,by simpa using g2⟩
   ·have hb:(k==a)=false:=by simpa using h
    simp[nowAt,atM,hb,h2 (fun hm=>hn (by simp[hm]))]
theorem aa6:aqD.underlying 3=some (.int .i64):=by kernel_rfl
theorem pn(ks:List Int)(k:Int):(k∈ks→∃i,fa aqD 3 (ks.map mb) (iI k)=some (some i)∧ks[i]?=some k)∧(k∉ks→fa aqD 3 (ks.map mb) (iI k)=some none):=by
 have h:fa aqD 3 (ks.map mb) (iI k)=nowAt (.int .i64) (.int .i64 k) (ks.map (arG .i64)) 0:=by
  unfold fa;rw[LY];simp[EZ,aa6,Ev.keyOf]
 rw[h];have:=PH k ks 0;simpa using this
theorem aa7{α:Type}{l:List α}{i:Nat}{a:α}(h:l[i]?=some a):l.set i a=l:=by
 apply List.ext_getElem?;intro q;simp only[List.getElem?_set]
 grind
theorem Fq{ν:List IV}{m key:SE}{ks:List Int}{k:Int}(h1:m.den aqD ν=some (iM ks))(h2:key.den aqD ν=some (iI k)):(SE.ins 3 m key .an).den aqD ν=some (iM (tE ks k)):=by
 simp only[SE.den,h1,h2,aqN];by_cases hm:k∈ks
 ·obtain⟨i,g1,g2⟩:=(pn ks k).1 hm;rw[g1];simp only[tE,if_pos hm];rw[aa7];rw[List.getElem?_map,g2];rfl
 ·rw[(pn ks k).2 hm];simp[tE,if_neg hm,mb]
theorem S0{ν:List IV}{m key:SE}{ks:List Int}{k:Int}(h1:m.den aqD ν=some (iM ks))(h2:key.den aqD ν=some (iI k)):(SE.has 3 m key).den aqD ν=some (iB (decide (k∈ks))):=by
 simp only[SE.den,h1,h2,aqN];by_cases hm:k∈ks
 ·obtain⟨i,g1,g2⟩:=(pn ks k).1 hm;rw[g1];simp[hm]
 ·rw[(pn ks k).2 hm];simp[hm]
theorem S1{ν:List IV}{m key:SE}{ks:List Int}{k:Int}(h1:m.den aqD ν=some (iM ks))(h2:key.den aqD ν=some (iI k)):(SE.rM 0 (.get 3 m key .an)).den aqD ν=some (.agg []):=by
 simp only[SE.den,h1,h2,aqN];by_cases hm:k∈ks
 ·obtain⟨i,g1,g2⟩:=(pn ks k).1 hm;rw[g1];simp[g2,mb]
 ·rw[(pn ks k).2 hm];simp
structure aqB(m:Me):Prop where
 w:IQ m
 fp:m.facts.length+m.past.length≤18
 l:m.log.length≤12
 g:∀x∈m.log,x.gone.length≤8
end Go.Proofs.YtggffkaadeagbaaGreat
