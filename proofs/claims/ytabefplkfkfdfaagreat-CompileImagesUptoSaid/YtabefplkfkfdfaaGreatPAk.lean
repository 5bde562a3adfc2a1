/- Lemmas, a part of the proof; no conditions. -/
import Derived.Test.YtabefplkfkfdfaaGreatPAg
import Derived.Test.YtabefplkfkfdfaaGreatPAh
open Go.Ev.SE renaming den->UU
open Go.Proofs.Tryz renaming prog->Z2,underlying28->aKm,underlying214->aJ9
open List renaming append_eq_nil_iff->aJK,take_length->Wc,length_flatten->QM,replicate->Xp,map_set->aK3,mem_iff_getElem->P7,length_eraseIdx->aJX,mem_of_mem_eraseIdx->aJC,findIdx?_eq_none_iff->aJz,findIdx?_cons->aJ_
open Option renaming bind_some->Z8,map_eq_some_iff->Lq
open And renaming intro->Xb
open Go.IntKind renaming i64->QY
open Go.Value renaming int->P3
open Prod renaming fst->Yd
open Go.Op renaming equal->We,equalIn->NI
open Go.Instr renaming checkKey->ZC,findKey->YA,findAsking->Qu,sameBits->Xi
open Go renaming undef->ZL,TypeId->VK
open Std.Legacy.Range renaming forIn_eq_forIn_range'->aKN,size->aKO
open Option renaming some->aa,none->ah
open Bool renaming true->ab,false->af
set_option linter.all false
namespace Go.Proofs.YtabefplkfkfdfaaGreat
open Go Go.Ev
variable{Q:IV->Prop}{eZ x0 x1 x2 x3 x4 x6 x7 ey gW iW x8 x9 lT nX rD tT tU x5:IV}{k0 k1 k2:aj IV->Prop}
variable{i m:Nat}{r:Rl}
variable{a:aj In}
variable{h:Int}{ts:aj Tm}
variable{gs:aj Gl}
variable{a:At}{hs:aj At}
variable{O:aj IV}{P:Program}{c:aj In}{n k:Nat}
variable{p:Pg}{ps te:aj Int}{x:Pn}
variable{ax:aj Ac}
variable{C:Cr}{k':aj IV->Prop}{ks:aj (aj IV->Prop)}{BC Cv HE:IV}
variable{x:IV}
variable{k:Ac}{y:IV}
variable{t:VK}
def akE:au:=
 ir
def akF:au:=
 ir
def akG:au:=
 uV
def akH:au:=
 uV
def akI:au:=
 ir
def akJ:au:=
 ir
def zw:au:=
 (I1 7 0 .eql jt 1 (AW 1 .lss eh 4 .lss eh 4 (AW 2 .lss fN 6 .lss fN 6 (FT 3 4 (S8 0 (yK yJ .lss yJ 1 bJ (AX yJ yJ 1 (zg 0 0 4 apa 0 1 apb))))))) (vc 0 0 2 (vb .eql eh 0 .eql eh 0 (vb .eql fN 0 .eql fN 0 (tN 166 (uJ 0 3 0 4 (wJ 0)) bR (CN 0 3 1 (Vn (zg 0 0 4 apc 0 1 apd)) (vb .geq AP 5 .geq AP 5 (Vn (zg 0 0 4 ape 0 1 apf)))) bJ))) 0 0 3 (AW 1 .lss eh 4 .lss eh 4 (vb .geq fN 0 .geq fN 0 (FT 3 4 (S8 0 (alI (AX yJ yJ 6 (zg 0 0 4 apg 0 1 aph))))))) (vc 0 0 4 (AW 1 .lss eh 4 .lss eh 4 (AW 2 .lss fN 4 .lss fN 4 (FT 3 4 (MC 0 (zg 0 0 4 api 0 1 apj))))) 0 0 5 (AW 1 .lss eh 40 .lss eh 40 (rA .geq 0 2 1 (vb .leq fN 4 .leq fN 4 (FT 3 4 (MC 0 (zg 0 0 4 aky 0 1 akz)))) bJ)) (vc 0 0 8 (AW 1 .lss eh 40 .lss eh 40 (rA .geq 0 2 1 (vb .leq fN 4 .leq fN 4 (FT 3 4 (MC 0 (zg 0 0 4 akA 0 1 akB)))) bJ)) 0 0 6 (AW 1 .lss eh 4 .lss eh 4 (vb .eql fN 0 .eql fN 0 (FT 3 4 (MC 0 (zg 0 0 4 akC 0 1 akD))))) (vc 0 0 7 (vb .eql eh 0 .eql eh 0 (vb .eql fN 0 .eql fN 0 (FT 3 4 (MC 0 (zg 0 0 4 akE 0 1 akF))))) 0 0 9 (vb .eql eh 0 .eql eh 0 (vb .eql fN 0 .eql fN 0 (tN 166 (uJ 0 3 0 4 (wJ 0)) bR (vb .leq AP 4 .leq AP 4 (Vn (zg 0 0 4 akG 0 1 akH))) bJ))) (CN 0 0 10 (AW 1 .lss eh 40 .lss eh 40 (AW 2 .leq fN 1048576 .leq fN 1048576 (FT 3 4 (MC 0 (zg 0 0 4 akI 0 1 akJ))))) bJ))))))
def auC:bG Z2 (mP [aP 2 222067008 2 [8]]) 222=zw:=kr
end Go.Proofs.YtabefplkfkfdfaaGreat
