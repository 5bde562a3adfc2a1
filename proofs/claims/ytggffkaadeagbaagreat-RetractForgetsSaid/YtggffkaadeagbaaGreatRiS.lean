/- A part of the proof, no condition: numbers sorted, each once. -/
import Derived.Shelf.Small.Bits
import Derived.Shelf.Strconv.Itoa0
import Derived.Shelf.Strings.Search1
import Derived.Shelf.Strings.Search2
import Derived.Shelf.Strings.Search3
import Derived.Shelf.LaysM
import Derived.Shelf.Strings.Shaped
import Derived.Shelf.Sort.Plain
import Derived.Ground.Names2Prog
import Derived.Shelf.Slices.CompactI
import Derived.Shelf.Slices.SearchI
import Derived.Shelf.Slices.Cells
import Derived.Shelf.Slices.In.SortNone
import Derived.Test.YtggffkaadeagbaaGreatProg
import Derived.Test.YtggffkaadeagbaaGreatRhA
import Derived.Test.YtggffkaadeagbaaGreatRiA
import Derived.Sort.Grow
open Go.Shelf renaming Ren->awu
open Go.Proofs.Lays renaming n189->axn
open Go.Proofs.Tryz renaming prog->ar3,underlying0->awK,isAgg0->axD,sizeOf0->axo,zeroValue0->awS,underlying3->auE,isAgg3->axE,sizeOf3->axp,zeroValue3->awT,underlying4->au3,isAgg4->axF,sizeOf4->axq,zeroValue4->avU,underlying47->awE,isAgg47->axr,sizeOf47->axd,zeroValue47->awL
open Go.Value renaming int->as8
open Go.Sort renaming ahead->au4
open Go.Proofs.Lays2 renaming n20->axe
open Go.Lib renaming compact->awn,compact->atJ,compact_length_le->avV
open List renaming replicate->asn
open Array renaming getElem?_modify->av9
open Go.RowKit renaming Below->auW
set_option linter.all false
namespace Go.Proofs
open Go.Shelf
def Tryz.Rf:awu:=⟨fun|189=>208|125=>255|257=>254|128=>279|129=>280|294=>270|295=>271|296=>272|297=>273|298=>274|299=>275|216=>276|300=>277|301=>278|328=>293|329=>294|330=>295|331=>296|332=>297|215=>186|343=>308|n=>n,fun|28=>47|3=>3|46=>42|0=>0|51=>273|53=>275|4=>4|183=>266|182=>265|131=>270|5=>5|9=>9|218=>280|222=>284|228=>292|229=>293|n=>n,fun|n=>n⟩
theorem Tryz.Tg:axn ar3 Tryz.Rf:={
 mixed:=by kernel_rfl
 f125:=Tryz.func255.trans (congrArg some (by kernel_rfl))
 f128:=Tryz.func279.trans (congrArg some (by kernel_rfl))
 f129:=Tryz.func280.trans (congrArg some (by kernel_rfl))
 f189:=Tryz.func208.trans (congrArg some (by kernel_rfl))
 f215:=Tryz.func186.trans (congrArg some (by kernel_rfl))
 f216:=Tryz.func276.trans (congrArg some (by kernel_rfl))
 f257:=Tryz.func254.trans (congrArg some (by kernel_rfl))
 f294:=Tryz.func270.trans (congrArg some (by kernel_rfl))
 f295:=Tryz.func271.trans (congrArg some (by kernel_rfl))
 f296:=Tryz.func272.trans (congrArg some (by kernel_rfl))
 f297:=Tryz.func273.trans (congrArg some (by kernel_rfl))
 f298:=Tryz.func274.trans (congrArg some (by kernel_rfl))
 f299:=Tryz.func275.trans (congrArg some (by kernel_rfl))
 f300:=Tryz.func277.trans (congrArg some (by kernel_rfl))
 f301:=Tryz.func278.trans (congrArg some (by kernel_rfl))
 f328:=Tryz.func293.trans (congrArg some (by kernel_rfl))
 f329:=Tryz.func294.trans (congrArg some (by kernel_rfl))
 f330:=Tryz.func295.trans (congrArg some (by kernel_rfl))
 f331:=Tryz.func296.trans (congrArg some (by kernel_rfl))
 f332:=Tryz.func297.trans (congrArg some (by kernel_rfl))
 f343:=Tryz.func308.trans (congrArg some (by kernel_rfl))
 t0:=awK
 a0:=axD
 z0:=axo
 v0:=awS
 t3:=auE
 a3:=axE
 z3:=axp
 v3:=awT
 t4:=au3
 a4:=axF
 z4:=axq
 v4:=avU
 t5:=Tryz.underlying5
 a5:=Tryz.isAgg5
 z5:=Tryz.sizeOf5
 v5:=Tryz.zeroValue5
 t9:=Tryz.underlying9
 a9:=Tryz.isAgg9
 z9:=Tryz.sizeOf9
 v9:=Tryz.zeroValue9
 t28:=awE
 a28:=axr
 z28:=axd
 v28:=awL
 t46:=Tryz.underlying42
 a46:=Tryz.isAgg42
 z46:=Tryz.sizeOf42
 v46:=Tryz.zeroValue42
 t51:=Tryz.underlying273
 a51:=Tryz.isAgg273
 z51:=Tryz.sizeOf273
 v51:=Tryz.zeroValue273
 t53:=Tryz.underlying275
 a53:=Tryz.isAgg275
 z53:=Tryz.sizeOf275
 v53:=Tryz.zeroValue275
 t131:=Tryz.underlying270
 a131:=Tryz.isAgg270
 z131:=Tryz.sizeOf270
 v131:=Tryz.zeroValue270
 t182:=Tryz.underlying265
 a182:=Tryz.isAgg265
 z182:=Tryz.sizeOf265
 v182:=Tryz.zeroValue265
 t183:=Tryz.underlying266
 a183:=Tryz.isAgg266
 z183:=Tryz.sizeOf266
 v183:=Tryz.zeroValue266
 t218:=Tryz.underlying280
 a218:=Tryz.isAgg280
 z218:=Tryz.sizeOf280
 v218:=Tryz.zeroValue280
 t222:=Tryz.underlying284
 a222:=Tryz.isAgg284
 z222:=Tryz.sizeOf284
 v222:=Tryz.zeroValue284
 t228:=Tryz.underlying292
 a228:=Tryz.isAgg292
 z228:=Tryz.sizeOf292
 v228:=Tryz.zeroValue292
 t229:=Tryz.underlying293
 a229:=Tryz.isAgg293
 z229:=Tryz.sizeOf293
 v229:=Tryz.zeroValue293}
open Go.Sort Go.RowKit in
theorem Tryz.slices_Sort_int(o8 off cap:Nat)(zs:List Int)(w:World)(hH:Holds (as8 .i64) w o8 off zs.toArray)(F_:o8<w.heap.size)(aK:zs.length<4611686018427387904):
 Calls ar3 208 #[.slice (some ⟨o8,off,none⟩) zs.length cap] w fun e w'=>
  e=.returned (.tuple #[])∧∃n os,w'=grow (putRow (as8 .i64) (au4 w n) o8 off (zs.mergeSort fun x y=>decide (x≤y)).toArray) os:=Any.slices_Sort_int Tryz.Tg o8 off cap zs w hH F_ aK
def Tryz.Mk:awu:=⟨fun|20=>209|n=>n,fun|22=>47|3=>3|4=>4|0=>0|n=>n,fun|n=>n⟩
theorem Tryz.LR:axe ar3 Tryz.Mk:={
 mixed:=by kernel_rfl
 f20:=Tryz.func209.trans (congrArg some (by kernel_rfl))
 t0:=awK
 a0:=axD
 z0:=axo
 v0:=awS
 t3:=auE
 a3:=axE
 z3:=axp
 v3:=awT
 t4:=au3
 a4:=axF
 z4:=axq
 v4:=avU
 t22:=awE
 a22:=axr
 z22:=axd
 v22:=awL
 i3:=by kernel_rfl}
open Go.RowKit Go.Lib Go.Sort in
theorem Tryz.slices_Compact_int(o8 off cap:Nat)(zs:List Int)(w:World)(hH:Holds (as8 .i64) w o8 off zs.toArray)(aK:zs.length≤9223372036854775807)(fv:zs.length≤cap):
 Calls ar3 209 #[.slice (some ⟨o8,off,none⟩) zs.length cap] w fun e w'=>e=.returned (.slice (some ⟨o8,off,none⟩) (awn zs).length cap)∧∃q,w'=putRow (as8 .i64) (au4 w q) o8 off (awn zs++asn (zs.length-(awn zs).length) 0).toArray:=Any.slices_Compact_int Tryz.LR o8 off cap zs w hH aK fv
open Go.RowKit Go.Lib Go.Sort in
theorem Tryz.slices_Compact_int_empty(a:Option Addr)(cap:Nat)(w:World):
 Calls ar3 209 #[.slice a 0 cap] w fun e w'=>e=.returned (.slice a 0 cap)∧w'=w:=Any.slices_Compact_int_empty Tryz.LR a cap w
open Go.RowKit Go.Sort in
theorem Tryz.slices_Sort_int_none(p:Option Addr)(cap:Nat)(w:World):
 Calls ar3 208 #[.slice p 0 cap] w fun e w'=>e=.returned (.tuple #[])∧w'=w:=Any.slices_Sort_int_none Tryz.Tg p cap w
end Go.Proofs
namespace Go.Proofs.YtggffkaadeagbaaGreat
open Go Go.RowKit Go.Shelf Go.Sort
attribute [local go_sem] Oper.semAt_some
def lI(ls:List (List Int)):List Int:=atJ (ls.flatten.mergeSort fun x y=>decide (x≤y))
theorem Rg{α:Type}[Inhabited α](enc:α→Value)(w:World)(b o:Nat)(d:Array α)(k:Nat)(h:k≠b):(putRow enc w b o d).heap[k]?=w.heap[k]? :=by
 simp[putRow,mapBlock,av9,Ne.symm h]
theorem LS{α:Type}[Inhabited α]{enc:α→Value}{w:World}{b o:Nat}{d:Array α}{c:Array Value}{e:TypeId}{fr:Nat×Nat}(hh:w.heap[b]?=some (.cells c e fr)):(putRow enc w b o d).heap[b]?=some (.cells (putCells enc o d c) e fr):=by
 simp[putRow,mapBlock,av9,hh,onCells]
theorem Qg{α:Type}[Inhabited α]{enc:α→Value}{d:Array α}{c:Array Value}{k:Nat}(h1:k<d.size)(h2:k<c.size):(putCells enc 0 d c)[k]?=some (enc d[k]!):=by
 simp[putCells,h1,h2]
theorem CV{α:Type}[Inhabited α]{enc:α→Value}{o:Nat}{d:Array α}{c:Array Value}:(putCells enc o d c).size=c.size:=by simp[putCells]
theorem En{α:Type}[Inhabited α]{enc:α→Value}{w:World}{B b o:Nat}{d:Array α}(h:B≤b):auW B w (putRow enc w b o d):=
 ⟨rfl,rfl,rfl,by simp,fun k hk=>Rg _ _ _ _ _ _ (by omega)⟩
theorem V3{w:World}{B:Nat}{os:Array Obj}(h:B≤w.heap.size):auW B w (grow w os):=⟨rfl,rfl,rfl,by simp,fun k hk=>heap_grow_old _ _ (by omega)⟩
theorem F5{w:World}{B q:Nat}:auW B w (au4 w q):=⟨rfl,rfl,rfl,Nat.le_refl _,fun _ _=>rfl⟩
theorem Rh:atJ ([]:List Int)=[]:=List.eq_nil_of_length_eq_zero (by have:=avV ([]:List Int);simpa using this)
theorem aev(B b cap:Nat)(zs:List Int)(w:World){c:Array Value}{el:TypeId}{fr:Nat×Nat}(hH:Holds (as8 .i64) w b 0 zs.toArray)(hh:w.heap[b]?=some (.cells c el fr))(hB:B≤b)(aK:zs.length<4611686018427387904):
 Calls ar3 208 #[.slice (some ⟨b,0,none⟩) zs.length cap] w fun e w'=>
  e=.returned (.tuple #[])∧Holds (as8 .i64) w' b 0 (zs.mergeSort fun x y=>decide (x≤y)).toArray∧(∃c',w'.heap[b]?=some (.cells c' el fr)∧c'.size=c.size)∧auW B w w':=by
 have Cq:=(Array.getElem?_eq_some_iff.1 hh).1;refine(Tryz.slices_Sort_int b 0 cap zs w hH Cq aK).mono ?_;rintro e w' ⟨rfl,n,os,rfl⟩;refine⟨rfl,holds_grow _ _ _ _ _ _ (by simpa using Cq) (holds_putRow (as8 .i64) (au4 w n) b 0 zs.toArray _ hH (by simp)),⟨putCells (as8 .i64) 0 (zs.mergeSort fun x y=>decide (x≤y)).toArray c,?_,CV⟩,?_⟩
 ·rw[heap_grow_old _ _ (by simpa using Cq)];exact LS (w:=au4 w n) hh
 ·exact(F5.trans (En hB)).trans (V3 (by simp;omega))
theorem V4(B b cap:Nat)(zs:List Int)(w:World){c:Array Value}{el:TypeId}{fr:Nat×Nat}(hH:Holds (as8 .i64) w b 0 zs.toArray)(hh:w.heap[b]?=some (.cells c el fr))(hB:B≤b)(aK:zs.length≤100000)(fv:zs.length≤cap)(hc:cap≤c.size):
 Calls ar3 209 #[.slice (some ⟨b,0,none⟩) zs.length cap] w fun e w'=>
  e=.returned (.slice (some ⟨b,0,none⟩) (atJ zs).length cap)∧(∃c',w'.heap[b]?=some (.cells c' el fr)∧cap≤c'.size∧∀(k:Nat) (x:Int),(atJ zs)[k]?=some x→c'[k]?=some (as8 .i64 x))∧auW B w w':=by
 refine(Tryz.slices_Compact_int b 0 cap zs w hH (by omega) fv).mono ?_;rintro e w' ⟨rfl,q,rfl⟩;have hle:=avV zs;refine⟨rfl,⟨_,LS (w:=au4 w q) hh,by rw[CV];exact hc,fun k x hk=>?_⟩,F5.trans (En hB)⟩;have qc:=(List.getElem?_eq_some_iff.1 hk).1;rw[Qg (by simp;omega) (by omega)];have Ah:(atJ zs++asn (zs.length-(atJ zs).length) 0)[k]?=some x:=by rw[List.getElem?_append_left qc];exact hk
 simp[getElem!_def,Ah]
end Go.Proofs.YtggffkaadeagbaaGreat
