/- A part of the proof, no condition: Retract of the program. -/
import Derived.Test.YtggffkaadeagbaaGreatRuM
import Derived.Test.YtggffkaadeagbaaGreatRuH
open Go.Value renaming int->atP
open Go.Instr renaming sameNow->avV
open Go.Proofs.Tryz renaming prog->asK
open Option renaming bind_some->asU
open Option renaming some->aa,none->ah
open Bool renaming false->af
set_option linter.all false
namespace Go.Proofs.YtggffkaadeagbaaGreat
open Go Go.Ev
variable{Q:IV->Prop}{k0 k1 k2 k3 k4 k5:List IV->Prop}
end Go.Proofs.YtggffkaadeagbaaGreat
namespace Go.Proofs.YtggffkaadeagbaaGreat
open Go Go.Ev
variable{Q:IV->Prop}{k0 k1 k2 k3 k4 k5:List IV->Prop}
def na(k:Int):IV:=.az [iI k,.agg []]
abbrev iM(ks:List Int):IV:=.az (ks.map na)
def uL(ks:List Int)(k:Int):List Int:=if k∈ks then ks else ks++[k]
theorem Nd:∀ks:List Int,oH (ks.map na)=aa (ks.map (atP .i64))
 |[]=>rfl
 |k::ks=>by simp[oH,na,Ev.keyOf,Nd ks]
theorem QO(k:Int):∀(ks:List Int) (n:Nat),(k∈ks->∃i,nowAt (.int .i64) (.int .i64 k) (ks.map (atP .i64)) n=aa (aa (n+i))/\ks[i]?=aa k)/\(k∉ks->nowAt (.int .i64) (.int .i64 k) (ks.map (atP .i64)) n=aa ah)
 |[],n=>by simp[nowAt]
 |a::ks,n=>by
  obtain⟨h1,h2⟩:=QO k ks (n+1);by_cases h:k=a
  ·subst h;refine⟨λ_=>⟨0,by simp[nowAt,avV],rfl⟩,λhn=>absurd (by simp) hn⟩
  ·refine⟨λhm=>?_,λhn=>?_⟩
   ·obtain⟨i,g1,g2⟩:=h1 (by simpa[h]using hm);have hb:(k==a)=af:=by simpa using h
    exact⟨i+1,by simp[nowAt,avV,hb,g1];omega,by simpa using g2⟩
   ·have hb:(k==a)=af:=by simpa using h
    simp[nowAt,avV,hb,h2 (λhm=>hn (by simp[hm]))]
theorem acL:asK.underlying 3=aa (.int .i64):=by kernel_rfl
theorem qi(ks:List Int)(k:Int):(k∈ks->∃i,fB asK 3 (ks.map na) (iI k)=aa (aa i)/\ks[i]?=aa k)/\(k∉ks->fB asK 3 (ks.map na) (iI k)=aa ah):=by
 have h:fB asK 3 (ks.map na) (iI k)=nowAt (.int .i64) (.int .i64 k) (ks.map (atP .i64)) 0:=by
  unfold fB;rw[Nd];simp[F5,acL,Ev.keyOf]
 rw[h];have:=QO k ks 0;simpa using this
theorem acM{α:Type}{l:List α}{i:Nat}{a:α}(h:l[i]?=aa a):l.set i a=l:=by
 apply List.ext_getElem?;intro q;simp only[List.getElem?_set]
 grind
theorem Gw{ν:List IV}{m key:SE}{ks:List Int}{k:Int}(h1:m.den asK ν=aa (iM ks))(h2:key.den asK ν=aa (iI k)):(SE.ins 3 m key .an).den asK ν=aa (iM (uL ks k)):=by
 simp only[SE.den,h1,h2,asU];by_cases hm:k∈ks
 ·obtain⟨i,g1,g2⟩:=(qi ks k).1 hm;rw[g1];simp only[uL,if_pos hm];rw[acM];rw[List.getElem?_map,g2];rfl
 ·rw[(qi ks k).2 hm];simp[uL,if_neg hm,na]
theorem T9{ν:List IV}{m key:SE}{ks:List Int}{k:Int}(h1:m.den asK ν=aa (iM ks))(h2:key.den asK ν=aa (iI k)):(SE.has 3 m key).den asK ν=aa (iB (decide (k∈ks))):=by
 simp only[SE.den,h1,h2,asU];by_cases hm:k∈ks
 ·obtain⟨i,g1,g2⟩:=(qi ks k).1 hm;rw[g1];simp[hm]
 ·rw[(qi ks k).2 hm];simp[hm]
theorem T_{ν:List IV}{m key:SE}{ks:List Int}{k:Int}(h1:m.den asK ν=aa (iM ks))(h2:key.den asK ν=aa (iI k)):(SE.sQ 0 (.get 3 m key .an)).den asK ν=aa (.agg []):=by
 simp only[SE.den,h1,h2,asU];by_cases hm:k∈ks
 ·obtain⟨i,g1,g2⟩:=(qi ks k).1 hm;rw[g1];simp[g2,na]
 ·rw[(qi ks k).2 hm];simp
structure asI(m:Me):Prop where
 w:DI m
 fp:m.facts.length+m.past.length<=18
 l:m.log.length<=12
 g:∀x∈m.log,x.gone.length<=8
end Go.Proofs.YtggffkaadeagbaaGreat
