/- A part of the proof, no condition: numbers sorted, each once. -/
import Derived.Shelf.Small.Bits
import Derived.Shelf.Strconv.Itoa0
import Derived.Shelf.Strings.Search1
import Derived.Shelf.Strings.Search2
import Derived.Shelf.Strings.Search3
import Derived.Shelf.LaysM
import Derived.Shelf.Strings.Shaped
import Derived.Shelf.Sort.Plain
import Derived.Ground.Names2Prog
import Derived.Shelf.Slices.CompactI
import Derived.Shelf.Slices.SearchI
import Derived.Shelf.Slices.Cells
import Derived.Shelf.Slices.In.SortNone
import Derived.Test.YtggffkaadeagbaaGreatProg
import Derived.Test.YtggffkaadeagbaaGreatRhA
import Derived.Test.YtggffkaadeagbaaGreatRiA
import Derived.Sort.Grow
open Go.Shelf renaming Ren->axe
open Go.Proofs.Lays renaming n189->ax7
open Go.Proofs.Tryz renaming prog->asK,underlying0->axv,isAgg0->ayi,sizeOf0->ax8,zeroValue0->axD,underlying3->avi,isAgg3->ayj,sizeOf3->ax9,zeroValue3->axE,underlying4->avJ,isAgg4->ayk,sizeOf4->ax_,zeroValue4->awA,underlying47->axn,isAgg47->aya,sizeOf47->axZ,zeroValue47->axw
open Go.Value renaming int->atP
open Go.Sort renaming ahead->avK
open Go.Proofs.Lays2 renaming n20->ax0
open Go.Lib renaming compact->aw8,compact->auq,compact_length_le->awB
open List renaming replicate->ate
open Array renaming getElem?_modify->awP
open Go.RowKit renaming Below->avD
open Option renaming some->aa,none->ah
set_option linter.all false
namespace Go.Proofs
open Go.Shelf
def Tryz.S9:axe:=⟨λ|189=>208|125=>255|257=>254|128=>279|129=>280|294=>270|295=>271|296=>272|297=>273|298=>274|299=>275|216=>276|300=>277|301=>278|328=>293|329=>294|330=>295|331=>296|332=>297|215=>186|343=>308|n=>n,λ|28=>47|3=>3|46=>42|0=>0|51=>273|53=>275|4=>4|183=>266|182=>265|131=>270|5=>5|9=>9|218=>280|222=>284|228=>292|229=>293|n=>n,λ|n=>n⟩
theorem Tryz.UC:ax7 asK Tryz.S9:={
 mixed:=by kernel_rfl
 f125:=Tryz.func255.trans (congrArg aa (by kernel_rfl))
 f128:=Tryz.func279.trans (congrArg aa (by kernel_rfl))
 f129:=Tryz.func280.trans (congrArg aa (by kernel_rfl))
 f189:=Tryz.func208.trans (congrArg aa (by kernel_rfl))
 f215:=Tryz.func186.trans (congrArg aa (by kernel_rfl))
 f216:=Tryz.func276.trans (congrArg aa (by kernel_rfl))
 f257:=Tryz.func254.trans (congrArg aa (by kernel_rfl))
 f294:=Tryz.func270.trans (congrArg aa (by kernel_rfl))
 f295:=Tryz.func271.trans (congrArg aa (by kernel_rfl))
 f296:=Tryz.func272.trans (congrArg aa (by kernel_rfl))
 f297:=Tryz.func273.trans (congrArg aa (by kernel_rfl))
 f298:=Tryz.func274.trans (congrArg aa (by kernel_rfl))
 f299:=Tryz.func275.trans (congrArg aa (by kernel_rfl))
 f300:=Tryz.func277.trans (congrArg aa (by kernel_rfl))
 f301:=Tryz.func278.trans (congrArg aa (by kernel_rfl))
 f328:=Tryz.func293.trans (congrArg aa (by kernel_rfl))
 f329:=Tryz.func294.trans (congrArg aa (by kernel_rfl))
 f330:=Tryz.func295.trans (congrArg aa (by kernel_rfl))
 f331:=Tryz.func296.trans (congrArg aa (by kernel_rfl))
 f332:=Tryz.func297.trans (congrArg aa (by kernel_rfl))
 f343:=Tryz.func308.trans (congrArg aa (by kernel_rfl))
 t0:=axv
 a0:=ayi
 z0:=ax8
 v0:=axD
 t3:=avi
 a3:=ayj
 z3:=ax9
 v3:=axE
 t4:=avJ
 a4:=ayk
 z4:=ax_
 v4:=awA
 t5:=Tryz.underlying5
 a5:=Tryz.isAgg5
 z5:=Tryz.sizeOf5
 v5:=Tryz.zeroValue5
 t9:=Tryz.underlying9
 a9:=Tryz.isAgg9
 z9:=Tryz.sizeOf9
 v9:=Tryz.zeroValue9
 t28:=axn
 a28:=aya
 z28:=axZ
 v28:=axw
 t46:=Tryz.underlying42
 a46:=Tryz.isAgg42
 z46:=Tryz.sizeOf42
 v46:=Tryz.zeroValue42
 t51:=Tryz.underlying273
 a51:=Tryz.isAgg273
 z51:=Tryz.sizeOf273
 v51:=Tryz.zeroValue273
 t53:=Tryz.underlying275
 a53:=Tryz.isAgg275
 z53:=Tryz.sizeOf275
 v53:=Tryz.zeroValue275
 t131:=Tryz.underlying270
 a131:=Tryz.isAgg270
 z131:=Tryz.sizeOf270
 v131:=Tryz.zeroValue270
 t182:=Tryz.underlying265
 a182:=Tryz.isAgg265
 z182:=Tryz.sizeOf265
 v182:=Tryz.zeroValue265
 t183:=Tryz.underlying266
 a183:=Tryz.isAgg266
 z183:=Tryz.sizeOf266
 v183:=Tryz.zeroValue266
 t218:=Tryz.underlying280
 a218:=Tryz.isAgg280
 z218:=Tryz.sizeOf280
 v218:=Tryz.zeroValue280
 t222:=Tryz.underlying284
 a222:=Tryz.isAgg284
 z222:=Tryz.sizeOf284
 v222:=Tryz.zeroValue284
 t228:=Tryz.underlying292
 a228:=Tryz.isAgg292
 z228:=Tryz.sizeOf292
 v228:=Tryz.zeroValue292
 t229:=Tryz.underlying293
 a229:=Tryz.isAgg293
 z229:=Tryz.sizeOf293
 v229:=Tryz.zeroValue293}
open Go.Sort Go.RowKit in
theorem Tryz.slices_Sort_int(kP off cap:Nat)(zs:List Int)(w:World)(hH:Holds (atP .i64) w kP off zs.toArray)(Hp:kP<w.heap.size)(aU:zs.length<4611686018427387904):
 Calls asK 208 #[.slice (aa ⟨kP,off,ah⟩) zs.length cap] w λe w'=>
  e=.returned (.tuple #[])/\∃n os,w'=grow (putRow (atP .i64) (avK w n) kP off (zs.mergeSort λx y=>decide (x<=y)).toArray) os:=Any.slices_Sort_int Tryz.UC kP off cap zs w hH Hp aU
def Tryz.N7:axe:=⟨λ|20=>209|n=>n,λ|22=>47|3=>3|4=>4|0=>0|n=>n,λ|n=>n⟩
theorem Tryz.Nt:ax0 asK Tryz.N7:={
 mixed:=by kernel_rfl
 f20:=Tryz.func209.trans (congrArg aa (by kernel_rfl))
 t0:=axv
 a0:=ayi
 z0:=ax8
 v0:=axD
 t3:=avi
 a3:=ayj
 z3:=ax9
 v3:=axE
 t4:=avJ
 a4:=ayk
 z4:=ax_
 v4:=awA
 t22:=axn
 a22:=aya
 z22:=axZ
 v22:=axw
 i3:=by kernel_rfl}
open Go.RowKit Go.Lib Go.Sort in
theorem Tryz.slices_Compact_int(kP off cap:Nat)(zs:List Int)(w:World)(hH:Holds (atP .i64) w kP off zs.toArray)(aU:zs.length<=9223372036854775807)(fO:zs.length<=cap):
 Calls asK 209 #[.slice (aa ⟨kP,off,ah⟩) zs.length cap] w λe w'=>e=.returned (.slice (aa ⟨kP,off,ah⟩) (aw8 zs).length cap)/\∃q,w'=putRow (atP .i64) (avK w q) kP off (aw8 zs++ate (zs.length-(aw8 zs).length) 0).toArray:=Any.slices_Compact_int Tryz.Nt kP off cap zs w hH aU fO
open Go.RowKit Go.Lib Go.Sort in
theorem Tryz.slices_Compact_int_empty(a:Option Addr)(cap:Nat)(w:World):
 Calls asK 209 #[.slice a 0 cap] w λe w'=>e=.returned (.slice a 0 cap)/\w'=w:=Any.slices_Compact_int_empty Tryz.Nt a cap w
open Go.RowKit Go.Sort in
theorem Tryz.slices_Sort_int_none(p:Option Addr)(cap:Nat)(w:World):
 Calls asK 208 #[.slice p 0 cap] w λe w'=>e=.returned (.tuple #[])/\w'=w:=Any.slices_Sort_int_none Tryz.UC p cap w
end Go.Proofs
namespace Go.Proofs.YtggffkaadeagbaaGreat
open Go Go.RowKit Go.Shelf Go.Sort
attribute [local go_sem] Oper.semAt_some
def eW(ls:List (List Int)):List Int:=auq (ls.flatten.mergeSort λx y=>decide (x<=y))
theorem S_{α:Type}[Inhabited α](enc:α->Value)(w:World)(b o:Nat)(d:Array α)(k:Nat)(h:k≠b):(putRow enc w b o d).heap[k]?=w.heap[k]? :=by
 simp[putRow,mapBlock,awP,Ne.symm h]
theorem Nu{α:Type}[Inhabited α]{enc:α->Value}{w:World}{b o:Nat}{d:Array α}{c:Array Value}{e:TypeId}{fr:Nat×Nat}(hh:w.heap[b]?=aa (.cells c e fr)):(putRow enc w b o d).heap[b]?=aa (.cells (putCells enc o d c) e fr):=by
 simp[putRow,mapBlock,awP,hh,onCells]
theorem Ru{α:Type}[Inhabited α]{enc:α->Value}{d:Array α}{c:Array Value}{k:Nat}(h1:k<d.size)(h2:k<c.size):(putCells enc 0 d c)[k]?=aa (enc d[k]!):=by
 simp[putCells,h1,h2]
theorem DL{α:Type}[Inhabited α]{enc:α->Value}{o:Nat}{d:Array α}{c:Array Value}:(putCells enc o d c).size=c.size:=by simp[putCells]
theorem Fo{α:Type}[Inhabited α]{enc:α->Value}{w:World}{B b o:Nat}{d:Array α}(h:B<=b):avD B w (putRow enc w b o d):=
 ⟨rfl,rfl,rfl,by simp,λk hk=>S_ _ _ _ _ _ _ (by omega)⟩
theorem XJ{w:World}{B:Nat}{os:Array Obj}(h:B<=w.heap.size):avD B w (grow w os):=⟨rfl,rfl,rfl,by simp,λk hk=>heap_grow_old _ _ (by omega)⟩
theorem Hh{w:World}{B q:Nat}:avD B w (avK w q):=⟨rfl,rfl,rfl,Nat.le_refl _,λ_ _=>rfl⟩
theorem Ta:auq ([]:List Int)=[]:=List.eq_nil_of_length_eq_zero (by have:=awB ([]:List Int);simpa using this)
theorem afO(B b cap:Nat)(zs:List Int)(w:World){c:Array Value}{el:TypeId}{fr:Nat×Nat}(hH:Holds (atP .i64) w b 0 zs.toArray)(hh:w.heap[b]?=aa (.cells c el fr))(hB:B<=b)(aU:zs.length<4611686018427387904):
 Calls asK 208 #[.slice (aa ⟨b,0,ah⟩) zs.length cap] w λe w'=>
  e=.returned (.tuple #[])/\Holds (atP .i64) w' b 0 (zs.mergeSort λx y=>decide (x<=y)).toArray/\(∃c',w'.heap[b]?=aa (.cells c' el fr)/\c'.size=c.size)/\avD B w w':=by
 have wR:=(Array.getElem?_eq_some_iff.1 hh).1;refine(Tryz.slices_Sort_int b 0 cap zs w hH wR aU).mono ?_;rintro e w' ⟨rfl,n,os,rfl⟩;refine⟨rfl,holds_grow _ _ _ _ _ _ (by simpa using wR) (holds_putRow (atP .i64) (avK w n) b 0 zs.toArray _ hH (by simp)),⟨putCells (atP .i64) 0 (zs.mergeSort λx y=>decide (x<=y)).toArray c,?_,DL⟩,?_⟩
 ·rw[heap_grow_old _ _ (by simpa using wR)];exact Nu (w:=avK w n) hh
 ·exact(Hh.trans (Fo hB)).trans (XJ (by simp;omega))
theorem XK(B b cap:Nat)(zs:List Int)(w:World){c:Array Value}{el:TypeId}{fr:Nat×Nat}(hH:Holds (atP .i64) w b 0 zs.toArray)(hh:w.heap[b]?=aa (.cells c el fr))(hB:B<=b)(aU:zs.length<=100000)(fO:zs.length<=cap)(hc:cap<=c.size):
 Calls asK 209 #[.slice (aa ⟨b,0,ah⟩) zs.length cap] w λe w'=>
  e=.returned (.slice (aa ⟨b,0,ah⟩) (auq zs).length cap)/\(∃c',w'.heap[b]?=aa (.cells c' el fr)/\cap<=c'.size/\∀(k:Nat) (x:Int),(auq zs)[k]?=aa x->c'[k]?=aa (atP .i64 x))/\avD B w w':=by
 refine(Tryz.slices_Compact_int b 0 cap zs w hH (by omega) fO).mono ?_;rintro e w' ⟨rfl,q,rfl⟩;have hle:=awB zs;refine⟨rfl,⟨_,Nu (w:=avK w q) hh,by rw[DL];exact hc,λk x hk=>?_⟩,Hh.trans (Fo hB)⟩;have py:=(List.getElem?_eq_some_iff.1 hk).1;rw[Ru (by simp;omega) (by omega)];have AO:(auq zs++ate (zs.length-(auq zs).length) 0)[k]?=aa x:=by rw[List.getElem?_append_left py];exact hk
 simp[getElem!_def,AO]
end Go.Proofs.YtggffkaadeagbaaGreat
