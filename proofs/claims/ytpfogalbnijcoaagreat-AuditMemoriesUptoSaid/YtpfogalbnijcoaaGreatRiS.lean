/- A part of the proof, no condition: numbers sorted, each once. -/
import Derived.Shelf.Small.Bits
import Derived.Shelf.Strconv.Itoa0
import Derived.Shelf.Strings.Search1
import Derived.Shelf.Strings.Search2
import Derived.Shelf.Strings.Search3
import Derived.Shelf.LaysM
import Derived.Shelf.Strings.Shaped
import Derived.Shelf.Sort.Plain
import Derived.Ground.Names2Prog
import Derived.Shelf.Slices.CompactI
import Derived.Shelf.Slices.SearchI
import Derived.Shelf.Slices.Cells
import Derived.Shelf.Slices.In.SortNone
import Derived.Test.YtpfogalbnijcoaaGreatProg
import Derived.Test.YtpfogalbnijcoaaGreatRhA
import Derived.Test.YtpfogalbnijcoaaGreatRiA
import Derived.Sort.Grow
open Go.Shelf renaming Ren->awu
open Go.Proofs.Lays renaming n189->axo
open Go.Proofs.Tryz renaming prog->ar1,underlying0->awM,isAgg0->axA,sizeOf0->axp,zeroValue0->awU,underlying3->auB,isAgg3->axB,sizeOf3->axq,zeroValue3->awV,underlying4->au1,isAgg4->axC,sizeOf4->axr,zeroValue4->avQ,underlying35->awD,isAgg35->axs,sizeOf35->axg,zeroValue35->awN
open Go.Value renaming int->as6
open Go.Sort renaming ahead->au2
open Go.Proofs.Lays2 renaming n20->axh
open Go.Lib renaming compact->awn,compact->atE,compact_length_le->avR
open List renaming replicate->asr
open Array renaming getElem?_modify->av5
open Go.RowKit renaming Below->auW
open Option renaming some->aa,none->ah
set_option linter.all false
namespace Go.Proofs
open Go.Shelf
def Tryz.SJ:awu:=⟨λ|189=>195|125=>239|257=>238|128=>270|129=>271|294=>261|295=>262|296=>263|297=>264|298=>265|299=>266|216=>267|300=>268|301=>269|328=>283|329=>284|330=>285|331=>286|332=>287|215=>250|343=>297|n=>n,λ|28=>35|3=>3|46=>272|0=>0|51=>291|53=>293|4=>4|183=>285|182=>284|131=>259|5=>5|9=>9|218=>303|222=>307|228=>318|229=>319|n=>n,λ|n=>n⟩
theorem Tryz.Ud:axo ar1 Tryz.SJ:={
 mixed:=by kernel_rfl
 f125:=Tryz.func239.trans (congrArg aa (by kernel_rfl))
 f128:=Tryz.func270.trans (congrArg aa (by kernel_rfl))
 f129:=Tryz.func271.trans (congrArg aa (by kernel_rfl))
 f189:=Tryz.func195.trans (congrArg aa (by kernel_rfl))
 f215:=Tryz.func250.trans (congrArg aa (by kernel_rfl))
 f216:=Tryz.func267.trans (congrArg aa (by kernel_rfl))
 f257:=Tryz.func238.trans (congrArg aa (by kernel_rfl))
 f294:=Tryz.func261.trans (congrArg aa (by kernel_rfl))
 f295:=Tryz.func262.trans (congrArg aa (by kernel_rfl))
 f296:=Tryz.func263.trans (congrArg aa (by kernel_rfl))
 f297:=Tryz.func264.trans (congrArg aa (by kernel_rfl))
 f298:=Tryz.func265.trans (congrArg aa (by kernel_rfl))
 f299:=Tryz.func266.trans (congrArg aa (by kernel_rfl))
 f300:=Tryz.func268.trans (congrArg aa (by kernel_rfl))
 f301:=Tryz.func269.trans (congrArg aa (by kernel_rfl))
 f328:=Tryz.func283.trans (congrArg aa (by kernel_rfl))
 f329:=Tryz.func284.trans (congrArg aa (by kernel_rfl))
 f330:=Tryz.func285.trans (congrArg aa (by kernel_rfl))
 f331:=Tryz.func286.trans (congrArg aa (by kernel_rfl))
 f332:=Tryz.func287.trans (congrArg aa (by kernel_rfl))
 f343:=Tryz.func297.trans (congrArg aa (by kernel_rfl))
 t0:=awM
 a0:=axA
 z0:=axp
 v0:=awU
 t3:=auB
 a3:=axB
 z3:=axq
 v3:=awV
 t4:=au1
 a4:=axC
 z4:=axr
 v4:=avQ
 t5:=Tryz.underlying5
 a5:=Tryz.isAgg5
 z5:=Tryz.sizeOf5
 v5:=Tryz.zeroValue5
 t9:=Tryz.underlying9
 a9:=Tryz.isAgg9
 z9:=Tryz.sizeOf9
 v9:=Tryz.zeroValue9
 t28:=awD
 a28:=axs
 z28:=axg
 v28:=awN
 t46:=Tryz.underlying272
 a46:=Tryz.isAgg272
 z46:=Tryz.sizeOf272
 v46:=Tryz.zeroValue272
 t51:=Tryz.underlying291
 a51:=Tryz.isAgg291
 z51:=Tryz.sizeOf291
 v51:=Tryz.zeroValue291
 t53:=Tryz.underlying293
 a53:=Tryz.isAgg293
 z53:=Tryz.sizeOf293
 v53:=Tryz.zeroValue293
 t131:=Tryz.underlying259
 a131:=Tryz.isAgg259
 z131:=Tryz.sizeOf259
 v131:=Tryz.zeroValue259
 t182:=Tryz.underlying284
 a182:=Tryz.isAgg284
 z182:=Tryz.sizeOf284
 v182:=Tryz.zeroValue284
 t183:=Tryz.underlying285
 a183:=Tryz.isAgg285
 z183:=Tryz.sizeOf285
 v183:=Tryz.zeroValue285
 t218:=Tryz.underlying303
 a218:=Tryz.isAgg303
 z218:=Tryz.sizeOf303
 v218:=Tryz.zeroValue303
 t222:=Tryz.underlying307
 a222:=Tryz.isAgg307
 z222:=Tryz.sizeOf307
 v222:=Tryz.zeroValue307
 t228:=Tryz.underlying318
 a228:=Tryz.isAgg318
 z228:=Tryz.sizeOf318
 v228:=Tryz.zeroValue318
 t229:=Tryz.underlying319
 a229:=Tryz.isAgg319
 z229:=Tryz.sizeOf319
 v229:=Tryz.zeroValue319}
open Go.Sort Go.RowKit in
theorem Tryz.slices_Sort_int(q8 off cap:Nat)(zs:List Int)(w:World)(hH:Holds (as6 .i64) w q8 off zs.toArray)(G0:q8<w.heap.size)(aT:zs.length<4611686018427387904):
 Calls ar1 195 #[.slice (aa ⟨q8,off,ah⟩) zs.length cap] w λe w'=>
  e=.returned (.tuple #[])/\∃n os,w'=grow (putRow (as6 .i64) (au2 w n) q8 off (zs.mergeSort λx y=>decide (x<=y)).toArray) os:=Any.slices_Sort_int Tryz.Ud q8 off cap zs w hH G0 aT
def Tryz.Nr:awu:=⟨λ|20=>196|n=>n,λ|22=>35|3=>3|4=>4|0=>0|n=>n,λ|n=>n⟩
theorem Tryz.MN:axh ar1 Tryz.Nr:={
 mixed:=by kernel_rfl
 f20:=Tryz.func196.trans (congrArg aa (by kernel_rfl))
 t0:=awM
 a0:=axA
 z0:=axp
 v0:=awU
 t3:=auB
 a3:=axB
 z3:=axq
 v3:=awV
 t4:=au1
 a4:=axC
 z4:=axr
 v4:=avQ
 t22:=awD
 a22:=axs
 z22:=axg
 v22:=awN
 i3:=by kernel_rfl}
open Go.RowKit Go.Lib Go.Sort in
theorem Tryz.slices_Compact_int(q8 off cap:Nat)(zs:List Int)(w:World)(hH:Holds (as6 .i64) w q8 off zs.toArray)(aT:zs.length<=9223372036854775807)(fB:zs.length<=cap):
 Calls ar1 196 #[.slice (aa ⟨q8,off,ah⟩) zs.length cap] w λe w'=>e=.returned (.slice (aa ⟨q8,off,ah⟩) (awn zs).length cap)/\∃q,w'=putRow (as6 .i64) (au2 w q) q8 off (awn zs++asr (zs.length-(awn zs).length) 0).toArray:=Any.slices_Compact_int Tryz.MN q8 off cap zs w hH aT fB
open Go.RowKit Go.Lib Go.Sort in
theorem Tryz.slices_Compact_int_empty(a:Option Addr)(cap:Nat)(w:World):
 Calls ar1 196 #[.slice a 0 cap] w λe w'=>e=.returned (.slice a 0 cap)/\w'=w:=Any.slices_Compact_int_empty Tryz.MN a cap w
open Go.RowKit Go.Sort in
theorem Tryz.slices_Sort_int_none(p:Option Addr)(cap:Nat)(w:World):
 Calls ar1 195 #[.slice p 0 cap] w λe w'=>e=.returned (.tuple #[])/\w'=w:=Any.slices_Sort_int_none Tryz.Ud p cap w
end Go.Proofs
namespace Go.Proofs.YtpfogalbnijcoaaGreat
open Go Go.RowKit Go.Shelf Go.Sort
attribute [local go_sem] Oper.semAt_some
def eO(ls:List (List Int)):List Int:=atE (ls.flatten.mergeSort λx y=>decide (x<=y))
theorem SK{α:Type}[Inhabited α](enc:α->Value)(w:World)(b o:Nat)(d:Array α)(k:Nat)(h:k≠b):(putRow enc w b o d).heap[k]?=w.heap[k]? :=by
 simp[putRow,mapBlock,av5,Ne.symm h]
theorem MO{α:Type}[Inhabited α]{enc:α->Value}{w:World}{b o:Nat}{d:Array α}{c:Array Value}{e:TypeId}{fr:Nat×Nat}(hh:w.heap[b]?=aa (.cells c e fr)):(putRow enc w b o d).heap[b]?=aa (.cells (putCells enc o d c) e fr):=by
 simp[putRow,mapBlock,av5,hh,onCells]
theorem QX{α:Type}[Inhabited α]{enc:α->Value}{d:Array α}{c:Array Value}{k:Nat}(h1:k<d.size)(h2:k<c.size):(putCells enc 0 d c)[k]?=aa (enc d[k]!):=by
 simp[putCells,h1,h2]
theorem Dk{α:Type}[Inhabited α]{enc:α->Value}{o:Nat}{d:Array α}{c:Array Value}:(putCells enc o d c).size=c.size:=by simp[putCells]
theorem ET{α:Type}[Inhabited α]{enc:α->Value}{w:World}{B b o:Nat}{d:Array α}(h:B<=b):auW B w (putRow enc w b o d):=
 ⟨rfl,rfl,rfl,by simp,λk hk=>SK _ _ _ _ _ _ (by omega)⟩
theorem W5{w:World}{B:Nat}{os:Array Obj}(h:B<=w.heap.size):auW B w (grow w os):=⟨rfl,rfl,rfl,by simp,λk hk=>heap_grow_old _ _ (by omega)⟩
theorem GS{w:World}{B q:Nat}:auW B w (au2 w q):=⟨rfl,rfl,rfl,Nat.le_refl _,λ_ _=>rfl⟩
theorem SL:atE ([]:List Int)=[]:=List.eq_nil_of_length_eq_zero (by have:=avR ([]:List Int);simpa using this)
theorem ae5(B b cap:Nat)(zs:List Int)(w:World){c:Array Value}{el:TypeId}{fr:Nat×Nat}(hH:Holds (as6 .i64) w b 0 zs.toArray)(hh:w.heap[b]?=aa (.cells c el fr))(hB:B<=b)(aT:zs.length<4611686018427387904):
 Calls ar1 195 #[.slice (aa ⟨b,0,ah⟩) zs.length cap] w λe w'=>
  e=.returned (.tuple #[])/\Holds (as6 .i64) w' b 0 (zs.mergeSort λx y=>decide (x<=y)).toArray/\(∃c',w'.heap[b]?=aa (.cells c' el fr)/\c'.size=c.size)/\auW B w w':=by
 have wz:=(Array.getElem?_eq_some_iff.1 hh).1;refine(Tryz.slices_Sort_int b 0 cap zs w hH wz aT).mono ?_;rintro e w' ⟨rfl,n,os,rfl⟩;refine⟨rfl,holds_grow _ _ _ _ _ _ (by simpa using wz) (holds_putRow (as6 .i64) (au2 w n) b 0 zs.toArray _ hH (by simp)),⟨putCells (as6 .i64) 0 (zs.mergeSort λx y=>decide (x<=y)).toArray c,?_,Dk⟩,?_⟩
 ·rw[heap_grow_old _ _ (by simpa using wz)];exact MO (w:=au2 w n) hh
 ·exact(GS.trans (ET hB)).trans (W5 (by simp;omega))
theorem W6(B b cap:Nat)(zs:List Int)(w:World){c:Array Value}{el:TypeId}{fr:Nat×Nat}(hH:Holds (as6 .i64) w b 0 zs.toArray)(hh:w.heap[b]?=aa (.cells c el fr))(hB:B<=b)(aT:zs.length<=100000)(fB:zs.length<=cap)(hc:cap<=c.size):
 Calls ar1 196 #[.slice (aa ⟨b,0,ah⟩) zs.length cap] w λe w'=>
  e=.returned (.slice (aa ⟨b,0,ah⟩) (atE zs).length cap)/\(∃c',w'.heap[b]?=aa (.cells c' el fr)/\cap<=c'.size/\∀(k:Nat) (x:Int),(atE zs)[k]?=aa x->c'[k]?=aa (as6 .i64 x))/\auW B w w':=by
 refine(Tryz.slices_Compact_int b 0 cap zs w hH (by omega) fB).mono ?_;rintro e w' ⟨rfl,q,rfl⟩;have hle:=avR zs;refine⟨rfl,⟨_,MO (w:=au2 w q) hh,by rw[Dk];exact hc,λk x hk=>?_⟩,GS.trans (ET hB)⟩;have oL:=(List.getElem?_eq_some_iff.1 hk).1;rw[QX (by simp;omega) (by omega)];have AJ:(atE zs++asr (zs.length-(atE zs).length) 0)[k]?=aa x:=by rw[List.getElem?_append_left oL];exact hk
 simp[getElem!_def,AJ]
end Go.Proofs.YtpfogalbnijcoaaGreat
