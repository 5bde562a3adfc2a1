/- A part of the proof, no condition: Retract of the program. -/
import Derived.Test.YtpfogalbnijcoaaGreatRuM
import Derived.Test.YtpfogalbnijcoaaGreatRuH
open Go.Value renaming int->as6
open Go.Instr renaming sameNow->avb
open Go.Proofs.Tryz renaming prog->ar1
open Option renaming bind_some->asa
open Option renaming some->aa,none->ah
open Bool renaming false->af
set_option linter.all false
namespace Go.Proofs.YtpfogalbnijcoaaGreat
open Go Go.Ev
variable{Q:IV->Prop}{k0 k1 k2 k3 k4 k5:List IV->Prop}
end Go.Proofs.YtpfogalbnijcoaaGreat
namespace Go.Proofs.YtpfogalbnijcoaaGreat
open Go Go.Ev
variable{Q:IV->Prop}{k0 k1 k2 k3 k4 k5:List IV->Prop}
def mF(k:Int):IV:=.az [iI k,.agg []]
abbrev iM(ks:List Int):IV:=.az (ks.map mF)
def t_(ks:List Int)(k:Int):List Int:=if k∈ks then ks else ks++[k]
theorem MA:∀ks:List Int,n_ (ks.map mF)=aa (ks.map (as6 .i64))
 |[]=>rfl
 |k::ks=>by simp[n_,mF,Ev.keyOf,MA ks]
theorem Qk(k:Int):∀(ks:List Int) (n:Nat),(k∈ks->∃i,nowAt (.int .i64) (.int .i64 k) (ks.map (as6 .i64)) n=aa (aa (n+i))/\ks[i]?=aa k)/\(k∉ks->nowAt (.int .i64) (.int .i64 k) (ks.map (as6 .i64)) n=aa ah)
 |[],n=>by simp[nowAt]
 |a::ks,n=>by
  obtain⟨h1,h2⟩:=Qk k ks (n+1);by_cases h:k=a
  ·subst h;refine⟨λ_=>⟨0,by simp[nowAt,avb],rfl⟩,λhn=>absurd (by simp) hn⟩
  ·refine⟨λhm=>?_,λhn=>?_⟩
   ·obtain⟨i,g1,g2⟩:=h1 (by simpa[h]using hm);have hb:(k==a)=af:=by simpa using h
    exact⟨i+1,by simp[nowAt,avb,hb,g1];omega,by simpa using g2⟩
   ·have hb:(k==a)=af:=by simpa using h
    simp[nowAt,avb,hb,h2 (λhm=>hn (by simp[hm]))]
theorem abX:ar1.underlying 3=aa (.int .i64):=by kernel_rfl
theorem pO(ks:List Int)(k:Int):(k∈ks->∃i,fi ar1 3 (ks.map mF) (iI k)=aa (aa i)/\ks[i]?=aa k)/\(k∉ks->fi ar1 3 (ks.map mF) (iI k)=aa ah):=by
 have h:fi ar1 3 (ks.map mF) (iI k)=nowAt (.int .i64) (.int .i64 k) (ks.map (as6 .i64)) 0:=by
  unfold fi;rw[MA];simp[FG,abX,Ev.keyOf]
 rw[h];have:=Qk k ks 0;simpa using this
theorem abY{α:Type}{l:List α}{i:Nat}{a:α}(h:l[i]?=aa a):l.set i a=l:=by
 apply List.ext_getElem?;intro q;simp only[List.getElem?_set]
 grind
theorem F6{ν:List IV}{m key:SE}{ks:List Int}{k:Int}(h1:m.den ar1 ν=aa (iM ks))(h2:key.den ar1 ν=aa (iI k)):(SE.ins 3 m key .an).den ar1 ν=aa (iM (t_ ks k)):=by
 simp only[SE.den,h1,h2,asa];by_cases hm:k∈ks
 ·obtain⟨i,g1,g2⟩:=(pO ks k).1 hm;rw[g1];simp only[t_,if_pos hm];rw[abY];rw[List.getElem?_map,g2];rfl
 ·rw[(pO ks k).2 hm];simp[t_,if_neg hm,mF]
theorem TJ{ν:List IV}{m key:SE}{ks:List Int}{k:Int}(h1:m.den ar1 ν=aa (iM ks))(h2:key.den ar1 ν=aa (iI k)):(SE.has 3 m key).den ar1 ν=aa (iB (decide (k∈ks))):=by
 simp only[SE.den,h1,h2,asa];by_cases hm:k∈ks
 ·obtain⟨i,g1,g2⟩:=(pO ks k).1 hm;rw[g1];simp[hm]
 ·rw[(pO ks k).2 hm];simp[hm]
theorem TK{ν:List IV}{m key:SE}{ks:List Int}{k:Int}(h1:m.den ar1 ν=aa (iM ks))(h2:key.den ar1 ν=aa (iI k)):(SE.sx 0 (.get 3 m key .an)).den ar1 ν=aa (.agg []):=by
 simp only[SE.den,h1,h2,asa];by_cases hm:k∈ks
 ·obtain⟨i,g1,g2⟩:=(pO ks k).1 hm;rw[g1];simp[g2,mF]
 ·rw[(pO ks k).2 hm];simp
structure arZ(m:Me):Prop where
 w:Jq m
 fp:m.facts.length+m.past.length<=18
 l:m.log.length<=12
 g:∀x∈m.log,x.gone.length<=8
end Go.Proofs.YtpfogalbnijcoaaGreat
