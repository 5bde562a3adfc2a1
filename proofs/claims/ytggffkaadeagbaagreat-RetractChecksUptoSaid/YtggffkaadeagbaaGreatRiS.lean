/- A part of the proof, no condition: numbers sorted, each once. -/
import Derived.Shelf.Small.Bits
import Derived.Shelf.Strconv.Itoa0
import Derived.Shelf.Strings.Search1
import Derived.Shelf.Strings.Search2
import Derived.Shelf.Strings.Search3
import Derived.Shelf.LaysM
import Derived.Shelf.Strings.Shaped
import Derived.Shelf.Sort.Plain
import Derived.Ground.Names2Prog
import Derived.Shelf.Slices.CompactI
import Derived.Shelf.Slices.SearchI
import Derived.Shelf.Slices.Cells
import Derived.Shelf.Slices.In.SortNone
import Derived.Test.YtggffkaadeagbaaGreatProg
import Derived.Test.YtggffkaadeagbaaGreatRhA
import Derived.Test.YtggffkaadeagbaaGreatRiA
import Derived.Sort.Grow
open Go.Shelf renaming Ren->au9
open Go.Proofs.Lays renaming n189->av2
open Go.Proofs.Tryz renaming prog->aqD,underlying0->avq,isAgg0->awd,sizeOf0->av3,zeroValue0->avy,underlying3->ata,isAgg3->awe,sizeOf3->av4,zeroValue3->avz,underlying4->atB,isAgg4->awf,sizeOf4->av5,zeroValue4->auu,underlying47->avh,isAgg47->av6,sizeOf47->avU,zeroValue47->avr
open Go.Value renaming int->arG
open Go.Sort renaming ahead->atC
open Go.Proofs.Lays2 renaming n20->avV
open Go.Lib renaming compact->au2,compact->asd,compact_length_le->auv
open List renaming replicate->aq1
open Array renaming getElem?_modify->auJ
open Go.RowKit renaming Below->atw
set_option linter.all false
namespace Go.Proofs
open Go.Shelf
def Tryz.RN:au9:=⟨fun|189=>208|125=>255|257=>254|128=>279|129=>280|294=>270|295=>271|296=>272|297=>273|298=>274|299=>275|216=>276|300=>277|301=>278|328=>293|329=>294|330=>295|331=>296|332=>297|215=>186|343=>308|n=>n,fun|28=>47|3=>3|46=>42|0=>0|51=>273|53=>275|4=>4|183=>266|182=>265|131=>270|5=>5|9=>9|218=>280|222=>284|228=>292|229=>293|n=>n,fun|n=>n⟩
theorem Tryz.Tv:av2 aqD Tryz.RN:={
 mixed:=by kernel_rfl
 f125:=Tryz.func255.trans (congrArg some (by kernel_rfl))
 f128:=Tryz.func279.trans (congrArg some (by kernel_rfl))
 f129:=Tryz.func280.trans (congrArg some (by kernel_rfl))
 f189:=Tryz.func208.trans (congrArg some (by kernel_rfl))
 f215:=Tryz.func186.trans (congrArg some (by kernel_rfl))
 f216:=Tryz.func276.trans (congrArg some (by kernel_rfl))
 f257:=Tryz.func254.trans (congrArg some (by kernel_rfl))
 f294:=Tryz.func270.trans (congrArg some (by kernel_rfl))
 f295:=Tryz.func271.trans (congrArg some (by kernel_rfl))
 f296:=Tryz.func272.trans (congrArg some (by kernel_rfl))
 f297:=Tryz.func273.trans (congrArg some (by kernel_rfl))
 f298:=Tryz.func274.trans (congrArg some (by kernel_rfl))
 f299:=Tryz.func275.trans (congrArg some (by kernel_rfl))
 f300:=Tryz.func277.trans (congrArg some (by kernel_rfl))
 f301:=Tryz.func278.trans (congrArg some (by kernel_rfl))
 f328:=Tryz.func293.trans (congrArg some (by kernel_rfl))
 f329:=Tryz.func294.trans (congrArg some (by kernel_rfl))
 f330:=Tryz.func295.trans (congrArg some (by kernel_rfl))
 f331:=Tryz.func296.trans (congrArg some (by kernel_rfl))
 f332:=Tryz.func297.trans (congrArg some (by kernel_rfl))
 f343:=Tryz.func308.trans (congrArg some (by kernel_rfl))
 t0:=avq
 a0:=awd
 z0:=av3
 v0:=avy
 t3:=ata
 a3:=awe
 z3:=av4
 v3:=avz
 t4:=atB
 a4:=awf
 z4:=av5
 v4:=auu
 t5:=Tryz.underlying5
 a5:=Tryz.isAgg5
 z5:=Tryz.sizeOf5
 v5:=Tryz.zeroValue5
 t9:=Tryz.underlying9
 a9:=Tryz.isAgg9
 z9:=Tryz.sizeOf9
 v9:=Tryz.zeroValue9
 t28:=avh
 a28:=av6
 z28:=avU
 v28:=avr
 t46:=Tryz.underlying42
 a46:=Tryz.isAgg42
 z46:=Tryz.sizeOf42
 v46:=Tryz.zeroValue42
 t51:=Tryz.underlying273
 a51:=Tryz.isAgg273
 z51:=Tryz.sizeOf273
 v51:=Tryz.zeroValue273
 t53:=Tryz.underlying275
 a53:=Tryz.isAgg275
 z53:=Tryz.sizeOf275
 v53:=Tryz.zeroValue275
 t131:=Tryz.underlying270
 a131:=Tryz.isAgg270
 z131:=Tryz.sizeOf270
 v131:=Tryz.zeroValue270
 t182:=Tryz.underlying265
 a182:=Tryz.isAgg265
 z182:=Tryz.sizeOf265
 v182:=Tryz.zeroValue265
 t183:=Tryz.underlying266
 a183:=Tryz.isAgg266
 z183:=Tryz.sizeOf266
 v183:=Tryz.zeroValue266
 t218:=Tryz.underlying280
 a218:=Tryz.isAgg280
 z218:=Tryz.sizeOf280
 v218:=Tryz.zeroValue280
 t222:=Tryz.underlying284
 a222:=Tryz.isAgg284
 z222:=Tryz.sizeOf284
 v222:=Tryz.zeroValue284
 t228:=Tryz.underlying292
 a228:=Tryz.isAgg292
 z228:=Tryz.sizeOf292
 v228:=Tryz.zeroValue292
 t229:=Tryz.underlying293
 a229:=Tryz.isAgg293
 z229:=Tryz.sizeOf293
 v229:=Tryz.zeroValue293}
open Go.Sort Go.RowKit in
theorem Tryz.slices_Sort_int(kz off cap:Nat)(zs:List Int)(w:World)(hH:Holds (arG .i64) w kz off zs.toArray)(Gh:kz<w.heap.size)(aL:zs.length<4611686018427387904):
 Calls aqD 208 #[.slice (some ⟨kz,off,none⟩) zs.length cap] w fun e w'=>
  e=.returned (.tuple #[])∧∃n os,w'=grow (putRow (arG .i64) (atC w n) kz off (zs.mergeSort fun x y=>decide (x≤y)).toArray) os:=Any.slices_Sort_int Tryz.Tv kz off cap zs w hH Gh aL
def Tryz.MQ:au9:=⟨fun|20=>209|n=>n,fun|22=>47|3=>3|4=>4|0=>0|n=>n,fun|n=>n⟩
theorem Tryz.Md:avV aqD Tryz.MQ:={
 mixed:=by kernel_rfl
 f20:=Tryz.func209.trans (congrArg some (by kernel_rfl))
 t0:=avq
 a0:=awd
 z0:=av3
 v0:=avy
 t3:=ata
 a3:=awe
 z3:=av4
 v3:=avz
 t4:=atB
 a4:=awf
 z4:=av5
 v4:=auu
 t22:=avh
 a22:=av6
 z22:=avU
 v22:=avr
 i3:=by kernel_rfl}
open Go.RowKit Go.Lib Go.Sort in
theorem Tryz.slices_Compact_int(kz off cap:Nat)(zs:List Int)(w:World)(hH:Holds (arG .i64) w kz off zs.toArray)(aL:zs.length≤9223372036854775807)(fw:zs.length≤cap):
 Calls aqD 209 #[.slice (some ⟨kz,off,none⟩) zs.length cap] w fun e w'=>e=.returned (.slice (some ⟨kz,off,none⟩) (au2 zs).length cap)∧∃q,w'=putRow (arG .i64) (atC w q) kz off (au2 zs++aq1 (zs.length-(au2 zs).length) 0).toArray:=Any.slices_Compact_int Tryz.Md kz off cap zs w hH aL fw
open Go.RowKit Go.Lib Go.Sort in
theorem Tryz.slices_Compact_int_empty(a:Option Addr)(cap:Nat)(w:World):
 Calls aqD 209 #[.slice a 0 cap] w fun e w'=>e=.returned (.slice a 0 cap)∧w'=w:=Any.slices_Compact_int_empty Tryz.Md a cap w
open Go.RowKit Go.Sort in
theorem Tryz.slices_Sort_int_none(p:Option Addr)(cap:Nat)(w:World):
 Calls aqD 208 #[.slice p 0 cap] w fun e w'=>e=.returned (.tuple #[])∧w'=w:=Any.slices_Sort_int_none Tryz.Tv p cap w
end Go.Proofs
namespace Go.Proofs.YtggffkaadeagbaaGreat
open Go Go.RowKit Go.Shelf Go.Sort
attribute [local go_sem] Oper.semAt_some
def eJ(ls:List (List Int)):List Int:=asd (ls.flatten.mergeSort fun x y=>decide (x≤y))
theorem RO{α:Type}[Inhabited α](enc:α→Value)(w:World)(b o:Nat)(d:Array α)(k:Nat)(h:k≠b):(putRow enc w b o d).heap[k]?=w.heap[k]? :=by
 simp[putRow,mapBlock,auJ,Ne.symm h]
theorem Mf{α:Type}[Inhabited α]{enc:α→Value}{w:World}{b o:Nat}{d:Array α}{c:Array Value}{e:TypeId}{fr:Nat×Nat}(hh:w.heap[b]?=some (.cells c e fr)):(putRow enc w b o d).heap[b]?=some (.cells (putCells enc o d c) e fr):=by
 simp[putRow,mapBlock,auJ,hh,onCells]
theorem Ql{α:Type}[Inhabited α]{enc:α→Value}{d:Array α}{c:Array Value}{k:Nat}(h1:k<d.size)(h2:k<c.size):(putCells enc 0 d c)[k]?=some (enc d[k]!):=by
 simp[putCells,h1,h2]
theorem CA{α:Type}[Inhabited α]{enc:α→Value}{o:Nat}{d:Array α}{c:Array Value}:(putCells enc o d c).size=c.size:=by simp[putCells]
theorem Ec{α:Type}[Inhabited α]{enc:α→Value}{w:World}{B b o:Nat}{d:Array α}(h:B≤b):atw B w (putRow enc w b o d):=
 ⟨rfl,rfl,rfl,by simp,fun k hk=>RO _ _ _ _ _ _ (by omega)⟩
theorem V_{w:World}{B:Nat}{os:Array Obj}(h:B≤w.heap.size):atw B w (grow w os):=⟨rfl,rfl,rfl,by simp,fun k hk=>heap_grow_old _ _ (by omega)⟩
theorem Gb{w:World}{B q:Nat}:atw B w (atC w q):=⟨rfl,rfl,rfl,Nat.le_refl _,fun _ _=>rfl⟩
theorem RP:asd ([]:List Int)=[]:=List.eq_nil_of_length_eq_zero (by have:=auv ([]:List Int);simpa using this)
theorem aea(B b cap:Nat)(zs:List Int)(w:World){c:Array Value}{el:TypeId}{fr:Nat×Nat}(hH:Holds (arG .i64) w b 0 zs.toArray)(hh:w.heap[b]?=some (.cells c el fr))(hB:B≤b)(aL:zs.length<4611686018427387904):
 Calls aqD 208 #[.slice (some ⟨b,0,none⟩) zs.length cap] w fun e w'=>
  e=.returned (.tuple #[])∧Holds (arG .i64) w' b 0 (zs.mergeSort fun x y=>decide (x≤y)).toArray∧(∃c',w'.heap[b]?=some (.cells c' el fr)∧c'.size=c.size)∧atw B w w':=by
 have zE:=(Array.getElem?_eq_some_iff.1 hh).1;refine(Tryz.slices_Sort_int b 0 cap zs w hH zE aL).mono ?_;rintro e w' ⟨rfl,n,os,rfl⟩;refine⟨rfl,holds_grow _ _ _ _ _ _ (by simpa using zE) (holds_putRow (arG .i64) (atC w n) b 0 zs.toArray _ hH (by simp)),⟨putCells (arG .i64) 0 (zs.mergeSort fun x y=>decide (x≤y)).toArray c,?_,CA⟩,?_⟩
 ·rw[heap_grow_old _ _ (by simpa using zE)];exact Mf (w:=atC w n) hh
 ·exact(Gb.trans (Ec hB)).trans (V_ (by simp;omega))
theorem Wa(B b cap:Nat)(zs:List Int)(w:World){c:Array Value}{el:TypeId}{fr:Nat×Nat}(hH:Holds (arG .i64) w b 0 zs.toArray)(hh:w.heap[b]?=some (.cells c el fr))(hB:B≤b)(aL:zs.length≤100000)(fw:zs.length≤cap)(hc:cap≤c.size):
 Calls aqD 209 #[.slice (some ⟨b,0,none⟩) zs.length cap] w fun e w'=>
  e=.returned (.slice (some ⟨b,0,none⟩) (asd zs).length cap)∧(∃c',w'.heap[b]?=some (.cells c' el fr)∧cap≤c'.size∧∀(k:Nat) (x:Int),(asd zs)[k]?=some x→c'[k]?=some (arG .i64 x))∧atw B w w':=by
 refine(Tryz.slices_Compact_int b 0 cap zs w hH (by omega) fw).mono ?_;rintro e w' ⟨rfl,q,rfl⟩;have hle:=auv zs;refine⟨rfl,⟨_,Mf (w:=atC w q) hh,by rw[CA];exact hc,fun k x hk=>?_⟩,Gb.trans (Ec hB)⟩;have ot:=(List.getElem?_eq_some_iff.1 hk).1;rw[Ql (by simp;omega) (by omega)];have zH:(asd zs++aq1 (zs.length-(asd zs).length) 0)[k]?=some x:=by rw[List.getElem?_append_left ot];exact hk
 simp[getElem!_def,zH]
end Go.Proofs.YtggffkaadeagbaaGreat
