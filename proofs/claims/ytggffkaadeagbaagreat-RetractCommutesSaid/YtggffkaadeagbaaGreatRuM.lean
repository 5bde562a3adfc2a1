/- A part of the proof, no condition: the sorting of Retract. -/
import Derived.Test.YtggffkaadeagbaaGreatRuH
set_option linter.all false
namespace Go.Proofs.YtggffkaadeagbaaGreat
open Go Go.Ev
theorem n61 : (Tryz.prog.funcs[61]?).map (·.params.size) = some 2 := by kernel_rfl
theorem t61 (z : IV) : tupOk Tryz.prog 61 z = true := by kernel_rfl
theorem n22 : (Tryz.prog.funcs[22]?).map (·.params.size) = some 2 := by kernel_rfl
def fir22v0 : FIR :=
 (.loop (.ac (.i 0) (.ac (.var 3) .an))
 (.need (.ok (.bin .lss 3 (.var 7) (.len (.fld (.var 5) 2))))
 (.test (.ok (.bin .lss 3 (.var 7) (.len (.fld (.var 5) 2))))
 (.bind (.idx 1 (.fld (.var 5) 2) (.var 7))
 (.need (.ok (.var 9))
 (.bind (.ins 3 (.var 8) (.ok (.var 9)) .an)
 (.need (.ok (.bin .add 3 (.var 7) (.i 1)))
 (.next 1 (.ac (.ok (.bin .add 3 (.var 7) (.i 1))) (.ac (.var 10) .an)))))))
 (.need (.ok (.bin .add 3 (.var 2) (.i 1)))
 (.next 0 (.ac (.ok (.bin .add 3 (.var 2) (.i 1))) (.ac (.var 8) (.ac (.var 4) .an))))))))
def fir22v1 : FIR :=
 (.loop (.ac (.var 12) (.ac (.var 13) .an))
 (.need (.ok (.bin .gtr 3 (.var 14) (.var 10)))
 (.test (.ok (.bin .gtr 3 (.var 14) (.var 10)))
 (.need (.idx 4 (.var 15) (.var 14))
 (.need (.ok (.bin .sub 3 (.var 14) (.i 1)))
 (.need (.idx 4 (.var 15) (.ok (.bin .sub 3 (.var 14) (.i 1))))
 (.call 61 true (.ac (.ac (.ecl 4 (.var 15) (.var 14) 0) (.ac (.ecl 4 (.var 15) (.var 14) 1) (.ac (.ecl 4 (.var 15) (.var 14) 2) (.ac (.ecl 4 (.var 15) (.var 14) 3) .an)))) (.ac (.ac (.ecl 4 (.var 15) (.ok (.bin .sub 3 (.var 14) (.i 1))) 0) (.ac (.ecl 4 (.var 15) (.ok (.bin .sub 3 (.var 14) (.i 1))) 1) (.ac (.ecl 4 (.var 15) (.ok (.bin .sub 3 (.var 14) (.i 1))) 2) (.ac (.ecl 4 (.var 15) (.ok (.bin .sub 3 (.var 14) (.i 1))) 3) .an)))) .an))
 (.need (.ok (.var 16))
 (.need (.ok (.bin .lss 3 (.ok (.var 16)) (.i 0)))
 (.test (.ok (.bin .lss 3 (.ok (.var 16)) (.i 0)))
 (.need (.ok (.bin .sub 3 (.var 14) (.i 1)))
 (.need (.ok (.bin .sub 3 (.var 14) (.i 1)))
 (.need (.idx 4 (.var 15) (.ok (.bin .sub 3 (.var 14) (.i 1))))
 (.need (.idx 4 (.var 15) (.var 14))
 (.need (.idx 4 (.var 15) (.var 14))
 (.bind (.sets 4 (.var 15) (.var 14) (.ac (.ecl 4 (.var 15) (.ok (.bin .sub 3 (.var 14) (.i 1))) 0) (.ac (.ecl 4 (.var 15) (.ok (.bin .sub 3 (.var 14) (.i 1))) 1) (.ac (.ecl 4 (.var 15) (.ok (.bin .sub 3 (.var 14) (.i 1))) 2) (.ac (.ecl 4 (.var 15) (.ok (.bin .sub 3 (.var 14) (.i 1))) 3) .an)))))
 (.need (.idx 4 (.var 17) (.ok (.bin .sub 3 (.var 14) (.i 1))))
 (.bind (.sets 4 (.var 17) (.ok (.bin .sub 3 (.var 14) (.i 1))) (.ac (.ecl 4 (.var 15) (.var 14) 0) (.ac (.ecl 4 (.var 15) (.var 14) 1) (.ac (.ecl 4 (.var 15) (.var 14) 2) (.ac (.ecl 4 (.var 15) (.var 14) 3) .an)))))
 (.need (.ok (.bin .sub 3 (.var 14) (.i 1)))
 (.next 5 (.ac (.ok (.bin .sub 3 (.var 14) (.i 1))) (.ac (.var 18) .an))))))))))))
 (.need (.ok (.bin .add 3 (.var 12) (.i 1)))
 (.next 4 (.ac (.ok (.bin .add 3 (.var 12) (.i 1))) (.ac (.var 15) .an)))))))))))
 (.need (.ok (.bin .add 3 (.var 12) (.i 1)))
 (.next 4 (.ac (.ok (.bin .add 3 (.var 12) (.i 1))) (.ac (.var 15) .an)))))))
def fir22v2 : FIR :=
 (.loop (.ac (.ok (.bin .add 3 (.var 10) (.i 1))) (.ac (.var 11) .an))
 (.need (.ok (.bin .lss 3 (.var 12) (.var 9)))
 (.test (.ok (.bin .lss 3 (.var 12) (.var 9)))
 fir22v1
 (.need (.ok (.bin .add 3 (.var 9) (.i 20)))
 (.next 3 (.ac (.ok (.bin .add 3 (.var 9) (.i 20))) (.ac (.var 9) (.ac (.var 13) .an))))))))
def fir22v3 : FIR :=
 (.loop (.ac (.var 12) (.ac (.var 13) .an))
 (.need (.ok (.bin .gtr 3 (.var 14) (.var 10)))
 (.test (.ok (.bin .gtr 3 (.var 14) (.var 10)))
 (.need (.idx 4 (.var 15) (.var 14))
 (.need (.ok (.bin .sub 3 (.var 14) (.i 1)))
 (.need (.idx 4 (.var 15) (.ok (.bin .sub 3 (.var 14) (.i 1))))
 (.call 61 true (.ac (.ac (.ecl 4 (.var 15) (.var 14) 0) (.ac (.ecl 4 (.var 15) (.var 14) 1) (.ac (.ecl 4 (.var 15) (.var 14) 2) (.ac (.ecl 4 (.var 15) (.var 14) 3) .an)))) (.ac (.ac (.ecl 4 (.var 15) (.ok (.bin .sub 3 (.var 14) (.i 1))) 0) (.ac (.ecl 4 (.var 15) (.ok (.bin .sub 3 (.var 14) (.i 1))) 1) (.ac (.ecl 4 (.var 15) (.ok (.bin .sub 3 (.var 14) (.i 1))) 2) (.ac (.ecl 4 (.var 15) (.ok (.bin .sub 3 (.var 14) (.i 1))) 3) .an)))) .an))
 (.need (.ok (.var 16))
 (.need (.ok (.bin .lss 3 (.ok (.var 16)) (.i 0)))
 (.test (.ok (.bin .lss 3 (.ok (.var 16)) (.i 0)))
 (.need (.ok (.bin .sub 3 (.var 14) (.i 1)))
 (.need (.ok (.bin .sub 3 (.var 14) (.i 1)))
 (.need (.idx 4 (.var 15) (.ok (.bin .sub 3 (.var 14) (.i 1))))
 (.need (.idx 4 (.var 15) (.var 14))
 (.need (.idx 4 (.var 15) (.var 14))
 (.bind (.sets 4 (.var 15) (.var 14) (.ac (.ecl 4 (.var 15) (.ok (.bin .sub 3 (.var 14) (.i 1))) 0) (.ac (.ecl 4 (.var 15) (.ok (.bin .sub 3 (.var 14) (.i 1))) 1) (.ac (.ecl 4 (.var 15) (.ok (.bin .sub 3 (.var 14) (.i 1))) 2) (.ac (.ecl 4 (.var 15) (.ok (.bin .sub 3 (.var 14) (.i 1))) 3) .an)))))
 (.need (.idx 4 (.var 17) (.ok (.bin .sub 3 (.var 14) (.i 1))))
 (.bind (.sets 4 (.var 17) (.ok (.bin .sub 3 (.var 14) (.i 1))) (.ac (.ecl 4 (.var 15) (.var 14) 0) (.ac (.ecl 4 (.var 15) (.var 14) 1) (.ac (.ecl 4 (.var 15) (.var 14) 2) (.ac (.ecl 4 (.var 15) (.var 14) 3) .an)))))
 (.need (.ok (.bin .sub 3 (.var 14) (.i 1)))
 (.next 5 (.ac (.ok (.bin .sub 3 (.var 14) (.i 1))) (.ac (.var 18) .an))))))))))))
 (.need (.ok (.bin .add 3 (.var 12) (.i 1)))
 (.next 4 (.ac (.ok (.bin .add 3 (.var 12) (.i 1))) (.ac (.var 15) .an)))))))))))
 (.need (.ok (.bin .add 3 (.var 12) (.i 1)))
 (.next 4 (.ac (.ok (.bin .add 3 (.var 12) (.i 1))) (.ac (.var 15) .an)))))))
def fir22v4 : FIR :=
 (.loop .an
 (.need (.ok (.bin .leq 3 (.ok (.bin .mul 3 (.i 2) (.var 16))) (.len (.var 7))))
 (.test (.ok (.bin .leq 3 (.ok (.bin .mul 3 (.i 2) (.var 16))) (.len (.var 7))))
 (.need (.ok (.bin .add 3 (.i 0) (.var 16)))
 (.fail 119))
 (.need (.ok (.bin .add 3 (.i 0) (.var 16)))
 (.need (.ok (.bin .lss 3 (.ok (.bin .add 3 (.i 0) (.var 16))) (.len (.var 7))))
 (.test (.ok (.bin .lss 3 (.ok (.bin .add 3 (.i 0) (.var 16))) (.len (.var 7))))
 (.fail 119)
 (.need (.ok (.bin .mul 3 (.var 16) (.i 2)))
 (.next 5 (.ac (.ok (.bin .mul 3 (.i 2) (.var 16))) (.ac (.i 0) (.ac (.ok (.bin .mul 3 (.var 16) (.i 2))) .an)))))))))))
def fir22v5 : FIR :=
 (.loop (.ac (.var 9) (.ac (.var 10) (.ac (.i 20) .an)))
 (.need (.ok (.bin .lss 3 (.var 16) (.len (.var 7))))
 (.test (.ok (.bin .lss 3 (.var 16) (.len (.var 7))))
 (.need (.ok (.bin .mul 3 (.i 2) (.var 16)))
 fir22v4)
 (.next 2 (.ac (.var 13) .an)))))
def fir22v6 : FIR :=
 (.loop (.ac (.ok (.bin .add 3 (.var 10) (.i 1))) (.ac (.var 11) .an))
 (.need (.ok (.bin .lss 3 (.var 12) (.len (.var 7))))
 (.test (.ok (.bin .lss 3 (.var 12) (.len (.var 7))))
 fir22v3
 fir22v5)))
def fir22v7 : FIR :=
 (.loop (.ac (.i 20) (.ac (.i 0) (.ac (.var 7) .an)))
 (.need (.ok (.bin .leq 3 (.var 9) (.len (.var 7))))
 (.test (.ok (.bin .leq 3 (.var 9) (.len (.var 7))))
 (.need (.ok (.bin .add 3 (.var 10) (.i 1)))
 fir22v2)
 (.need (.ok (.bin .add 3 (.var 10) (.i 1)))
 fir22v6))))
def fir22v8 : FIR :=
 (.loop (.ac (.i 0) .an)
 (.need (.ok (.bin .lss 3 (.var 10) (.len (.var 9))))
 (.test (.ok (.bin .lss 3 (.var 10) (.len (.var 9))))
 (.need (.idx 4 (.var 9) (.var 10))
 (.call 58 true (.ac (.ecl 4 (.var 9) (.var 10) 3) (.ac (.ok (.var 1)) .an))
 (.need (.ok (.var 11))
 (.test (.ok (.var 11))
 (.next 3 (.ac (.var 10) .an))
 (.need (.ok (.bin .add 3 (.var 10) (.i 1)))
 (.next 4 (.ac (.ok (.bin .add 3 (.var 10) (.i 1))) .an)))))))
 (.next 3 (.ac (.i (-1)) .an)))))
def fir22v9 : FIR :=
 (.loop (.ac (.ok (.bin .add 3 (.var 10) (.i 1))) (.ac (.var 10) (.ac (.var 9) .an)))
 (.need (.len (.var 13))
 (.need (.ok (.bin .lss 3 (.var 11) (.len (.var 13))))
 (.test (.ok (.bin .lss 3 (.var 11) (.len (.var 13))))
 (.need (.idx 4 (.var 13) (.var 11))
 (.call 58 true (.ac (.ecl 4 (.var 13) (.var 11) 3) (.ac (.ok (.var 1)) .an))
 (.need (.ok (.var 14))
 (.need (.ok (.un .not (.ok (.var 14))))
 (.test (.ok (.un .not (.ok (.var 14))))
 (.need (.idx 4 (.var 13) (.var 12))
 (.bind (.sets 4 (.var 13) (.var 12) (.ac (.ecl 4 (.var 13) (.var 11) 0) (.ac (.ecl 4 (.var 13) (.var 11) 1) (.ac (.ecl 4 (.var 13) (.var 11) 2) (.ac (.ecl 4 (.var 13) (.var 11) 3) .an)))))
 (.need (.ok (.bin .add 3 (.var 12) (.i 1)))
 (.need (.ok (.bin .add 3 (.var 11) (.i 1)))
 (.next 3 (.ac (.ok (.bin .add 3 (.var 11) (.i 1))) (.ac (.ok (.bin .add 3 (.var 12) (.i 1))) (.ac (.var 15) .an))))))))
 (.need (.ok (.bin .add 3 (.var 11) (.i 1)))
 (.next 3 (.ac (.ok (.bin .add 3 (.var 11) (.i 1))) (.ac (.var 12) (.ac (.var 13) .an))))))))))
 (.need (.sub 4 (.var 13) (.var 12) (.len (.var 13)))
 (.bind (.clr 4 (.var 13) (.var 12) (.ac (.i 0) (.ac (.s []) (.ac (.tr 4 .an) (.ac (.tr 1 .an) .an)))))
 (.bind (.sub 4 (.var 14) (.i 0) (.var 12))
 (.next 2 (.ac (.var 15) (.ac (.var 14) (.ac (.var 14) .an)))))))))))
def fir22v10 : FIR :=
 (.blk
 (.need (.len (.var 9))
 fir22v8) 1
 (.need (.ok (.bin .eql 3 (.var 10) (.i (-1))))
 (.test (.ok (.bin .eql 3 (.var 10) (.i (-1))))
 (.next 2 (.ac (.var 9) (.ac (.var 9) (.ac (.var 9) .an))))
 (.need (.ok (.bin .add 3 (.var 10) (.i 1)))
 fir22v9))))
def fir22v11 : FIR :=
 (.loop (.ac (.i 0) .an)
 (.need (.ok (.bin .lss 3 (.var 13) (.len (.var 8))))
 (.test (.ok (.bin .lss 3 (.var 13) (.len (.var 8))))
 (.need (.idx 4 (.var 8) (.var 13))
 (.call 58 true (.ac (.ecl 4 (.var 8) (.var 13) 3) (.ac (.ok (.var 1)) .an))
 (.need (.ok (.var 14))
 (.test (.ok (.var 14))
 (.next 3 (.ac (.var 13) .an))
 (.need (.ok (.bin .add 3 (.var 13) (.i 1)))
 (.next 4 (.ac (.ok (.bin .add 3 (.var 13) (.i 1))) .an)))))))
 (.next 3 (.ac (.i (-1)) .an)))))
def fir22v12 : FIR :=
 (.loop (.ac (.ok (.bin .add 3 (.var 13) (.i 1))) (.ac (.var 13) (.ac (.var 8) .an)))
 (.need (.len (.var 16))
 (.need (.ok (.bin .lss 3 (.var 14) (.len (.var 16))))
 (.test (.ok (.bin .lss 3 (.var 14) (.len (.var 16))))
 (.need (.idx 4 (.var 16) (.var 14))
 (.call 58 true (.ac (.ecl 4 (.var 16) (.var 14) 3) (.ac (.ok (.var 1)) .an))
 (.need (.ok (.var 17))
 (.need (.ok (.un .not (.ok (.var 17))))
 (.test (.ok (.un .not (.ok (.var 17))))
 (.need (.idx 4 (.var 16) (.var 15))
 (.bind (.sets 4 (.var 16) (.var 15) (.ac (.ecl 4 (.var 16) (.var 14) 0) (.ac (.ecl 4 (.var 16) (.var 14) 1) (.ac (.ecl 4 (.var 16) (.var 14) 2) (.ac (.ecl 4 (.var 16) (.var 14) 3) .an)))))
 (.need (.ok (.bin .add 3 (.var 15) (.i 1)))
 (.need (.ok (.bin .add 3 (.var 14) (.i 1)))
 (.next 3 (.ac (.ok (.bin .add 3 (.var 14) (.i 1))) (.ac (.ok (.bin .add 3 (.var 15) (.i 1))) (.ac (.var 18) .an))))))))
 (.need (.ok (.bin .add 3 (.var 14) (.i 1)))
 (.next 3 (.ac (.ok (.bin .add 3 (.var 14) (.i 1))) (.ac (.var 15) (.ac (.var 16) .an))))))))))
 (.need (.sub 4 (.var 16) (.var 15) (.len (.var 16)))
 (.bind (.clr 4 (.var 16) (.var 15) (.ac (.i 0) (.ac (.s []) (.ac (.tr 4 .an) (.ac (.tr 1 .an) .an)))))
 (.bind (.sub 4 (.var 17) (.i 0) (.var 15))
 (.next 2 (.ac (.var 18) (.ac (.var 17) (.ac (.var 17) .an)))))))))))
def fir22v13 : FIR :=
 (.blk
 (.need (.len (.var 8))
 fir22v11) 1
 (.need (.ok (.bin .eql 3 (.var 13) (.i (-1))))
 (.test (.ok (.bin .eql 3 (.var 13) (.i (-1))))
 (.next 2 (.ac (.var 8) (.ac (.var 8) (.ac (.var 8) .an))))
 (.need (.ok (.bin .add 3 (.var 13) (.i 1)))
 fir22v12))))
def fir22v14 : FIR :=
 (.blk
 fir22v13 3
 (.ret (.tp (.ac (.ac (.var 10) (.ac (.var 13) (.ac (.var 4) (.ac (.fld (.var 0) 3) (.ac (.fld (.var 0) 4) .an))))) (.ac (.i 0) .an)))))
def fir22v15 : FIR :=
 (.blk
 fir22v10 3
 fir22v14)
def fir22v16 : FIR :=
 (.blk
 (.need (.len (.var 7))
 fir22v7) 1
 fir22v15)
def fir22v17 : FIR :=
 (.loop (.ac (.i 0) (.ac (.var 5) (.ac (.tr 4 .an) .an)))
 (.need (.ok (.bin .lss 3 (.var 6) (.len (.fld (.var 0) 1))))
 (.test (.ok (.bin .lss 3 (.var 6) (.len (.fld (.var 0) 1))))
 (.bind (.idx 4 (.fld (.var 0) 1) (.var 6))
 (.need (.agn 4 (.var 9))
 (.need (.agn 0 (.get 3 (.var 3) (.fld (.var 9) 0) .an))
 (.bind (.has 3 (.var 3) (.fld (.var 9) 0))
 (.test (.var 10)
 (.bind (.cat 4 72 (.var 7) (.tr 4 (.ac (.ac (.fld (.var 9) 0) (.ac (.fld (.var 9) 1) (.ac (.fld (.var 9) 2) (.ac (.fld (.var 9) 3) .an)))) .an)))
 (.need (.ok (.bin .add 3 (.var 6) (.i 1)))
 (.next 1 (.ac (.ok (.bin .add 3 (.var 6) (.i 1))) (.ac (.var 11) (.ac (.var 8) .an))))))
 (.bind (.cat 4 72 (.var 8) (.tr 4 (.ac (.ac (.fld (.var 9) 0) (.ac (.fld (.var 9) 1) (.ac (.fld (.var 9) 2) (.ac (.fld (.var 9) 3) .an)))) .an)))
 (.need (.ok (.bin .add 3 (.var 6) (.i 1)))
 (.next 1 (.ac (.ok (.bin .add 3 (.var 6) (.i 1))) (.ac (.var 7) (.ac (.var 11) .an)))))))))))
 fir22v16)))
def fir22v18 : FIR :=
 (.blk
 (.two (.fld (.var 0) 0)
 (.next 1 (.ac (.tr 4 .an) .an))
 (.bind (.cat 4 72 (.tr 4 .an) (.fld (.var 0) 0))
 (.next 1 (.ac (.var 5) .an)))) 1
 (.need (.len (.fld (.var 0) 1))
 fir22v17))
def fir22v19 : FIR :=
 (.loop (.ac (.i 0) (.ac (.tp .an) (.ac (.tr 6 .an) .an)))
 (.need (.ok (.bin .lss 3 (.var 2) (.len (.fld (.var 0) 2))))
 (.test (.ok (.bin .lss 3 (.var 2) (.len (.fld (.var 0) 2))))
 (.bind (.idx 6 (.fld (.var 0) 2) (.var 2))
 (.need (.agn 6 (.var 5))
 (.call 58 false (.ac (.fld (.var 5) 5) (.ac (.ok (.var 1)) .an))
 (.need (.ok (.var 6))
 (.test (.ok (.var 6))
 (.need (.len (.fld (.var 5) 2))
 fir22v0)
 (.bind (.cat 6 112 (.var 4) (.tr 6 (.ac (.ac (.fld (.var 5) 0) (.ac (.fld (.var 5) 1) (.ac (.fld (.var 5) 2) (.ac (.fld (.var 5) 3) (.ac (.fld (.var 5) 4) (.ac (.fld (.var 5) 5) .an)))))) .an)))
 (.need (.ok (.bin .add 3 (.var 2) (.i 1)))
 (.next 0 (.ac (.ok (.bin .add 3 (.var 2) (.i 1))) (.ac (.var 3) (.ac (.var 7) .an)))))))))))
 fir22v18)))
def fir22x : FIR :=
 (.need (.agn 5 (.var 0))
 (.need (.ok (.var 1))
 (.need (.ok (.bin .lss 3 (.ok (.var 1)) (.i 1)))
 (.test (.ok (.bin .lss 3 (.ok (.var 1)) (.i 1)))
 (.ret (.tp (.ac (.ac (.tr 4 .an) (.ac (.tr 4 .an) (.ac (.tr 6 .an) (.ac (.i 0) (.ac (.i 0) .an))))) (.ac (.i 13) .an))))
 (.need (.ok (.bin .gtr 3 (.ok (.var 1)) (.fld (.var 0) 4)))
 (.test (.ok (.bin .gtr 3 (.ok (.var 1)) (.fld (.var 0) 4)))
 (.ret (.tp (.ac (.ac (.tr 4 .an) (.ac (.tr 4 .an) (.ac (.tr 6 .an) (.ac (.i 0) (.ac (.i 0) .an))))) (.ac (.i 13) .an))))
 (.need (.len (.fld (.var 0) 2))
 fir22v19)))))))
def cfg22x : Cfg := ⟨pures, joins, stops, [⟨0, 22, 1000069, [], [(5, 0)], [], []⟩, ⟨2, 22070009, 2, [(2, (7, 0)), (2, (8, 0))], [(5, 0)], [], []⟩, ⟨3, 22070009028, 1, [(3, (8, 0))], [(5, 0)], [], []⟩, ⟨3, 22070009019, 1, [(3, (8, 0))], [(5, 0)], [], []⟩, ⟨0, 22, 1000076, [], [(6, 3), (6, 0)], [], [(0, (74, 2)), (0, (76, 2))]⟩, ⟨1, 22077, 5, [(1, (5, 0)), (1, (6, 0))], [(6, 0)], [], []⟩, ⟨1, 22077, 1000010, [(1, (10, 0))], [], [], []⟩, ⟨2, 22077011, 2, [(2, (8, 0))], [], [], []⟩, ⟨0, 22, 1000073, [], [(5, 3), (5, 0)], [], [(0, (71, 2)), (0, (73, 2))]⟩, ⟨1, 22074, 5, [(1, (5, 0)), (1, (6, 0))], [(5, 0)], [], []⟩, ⟨1, 22074, 1000010, [(1, (10, 0))], [], [], []⟩, ⟨2, 22074011, 2, [(2, (8, 0))], [], [], []⟩, ⟨2, 22070009, 7, [(2, (7, 0)), (2, (6, 0)), (2, (8, 0))], [], [], []⟩, ⟨3, 22070009028, 4, [(3, (9, 0))], [(5, 0)], [], []⟩, ⟨3, 22070009019, 4, [(3, (9, 0))], [(5, 0)], [], []⟩, ⟨0, 22, 14, [(0, (11, 0)), (0, (10, 0)), (0, (51, 0))], [(6, 3), (6, 0), (5, 3), (5, 0)], [(0, 47)], []⟩, ⟨0, 22, 1000047, [(0, (47, 0))], [(5, 3), (5, 0)], [], []⟩, ⟨0, 22, 6, [(0, (7, 0)), (0, (28, 0))], [(4, 3), (4, 0), (3, 0)], [], []⟩, ⟨1, 22040, 1, [(1, (8, 0))], [(3, 0)], [], []⟩], []⟩
theorem ex22x : execFn Tryz.prog cfg22x 400 false 22 = fir22x := by kernel_rfl
theorem t22 (a b : IV) : tupOk Tryz.prog 22 (.tup [a, b]) = true := by kernel_rfl
variable {Q : IV → Prop} {k0 k1 k2 k3 k4 k5 : List IV → Prop}
theorem c61n (a b : Fa) : CC 61 true [encF a, encF b] (iI (cmpI a.id b.id)) := by
  refine CC.of exn61 n61 (t61 _) (by simp [pure_encF]) (by simp) ?_
  simp [firn61, SE.den, encF, cellOk, isRaw1]
  refine ⟨_, c123 _ _, ?_⟩
  simp [SE.den, isRaw1]
theorem ig_F {l : List Fa} {i : Nat} {f : Fa} (h : l[i]? = some f) : denIdx 4 (iFs l) (iI (i : Nat)) = some (.agg [iI f.id, iS f.a.s, iT f.a.ts, iL f.j]) := denIdx_nat (by simp [h, encF]) rfl
theorem set_F {l : List Fa} {i : Nat} (f : Fa) (h : i < l.length) : denSet 4 (iFs l) (iI (i : Nat)) (.agg [iI f.id, iS f.a.s, iT f.a.ts, iL f.j]) = some (iFs (l.set i f)) := by
  simp [denSet, intI?, h, cellsOf, List.map_set, encF]
theorem swap_set {α : Type} {A B : List α} {x y : α} {j : Nat} (h : A.length = j) : ((A ++ y :: x :: B).set (j + 1) y).set j x = A ++ x :: y :: B := by
  subst h
  simp [List.set_append]
theorem s22v3 {v0 v1 v2 v3 v4 v5 v6 v7 v8 v9 v11 : IV} {p rest : List Fa} {x : Fa} (hs : Srt ltF p) (hlen : p.length + rest.length ≤ 100) (hk : k4 [iI (p.length + 1 : Nat), iFs (insL ltF x p ++ rest)]) :
    fir22v3.sat Tryz.prog CC Q [k0, k1, k2, k3, k4] [v0, v1, v2, v3, v4, v5, v6, v7, v8, v9, iI 0, v11, iI p.length, iFs (p ++ x :: rest)] := by
  have hwp : IntKind.i64.wrap ((p.length : Int) + 1) = ((p.length + 1 : Nat) : Int) := wrapi (n := p.length + 1) (by omega) (by omega)
  refine sat_loopM2 (fun j : Nat => [iI j, iFs (p.take j ++ x :: (p.drop j ++ rest))]) (fun j => j ≤ p.length ∧ ∀ b ∈ p.drop j, ltF x b = true) (fun j => j) p.length ?_ ?_ fun j ⟨hj, hB⟩ => ?_
  · simp [SE.den]
  · simp
  have hexit : (∀ i, j = i + 1 → ∀ a, p[i]? = some a → ltF x a = false) → k4 [iI (p.length + 1 : Nat), iFs (p.take j ++ x :: (p.drop j ++ rest))] := fun hA => by
    have := ins_exit ordF hs hj hB hA
    rw [show p.take j ++ x :: (p.drop j ++ rest) = (p.take j ++ x :: p.drop j) ++ rest by simp, this]
    exact hk
  cases j with
  | zero =>
    have h0 := hexit (fun i hi => by omega)
    simp only [List.take_zero, List.drop_zero, List.nil_append] at h0
    simp [SE.den, hwp]
    first | exact h0 | simpa using h0
  | succ j =>
    have hjl : j < p.length := by omega
    have hrow : p.take (j + 1) ++ x :: (p.drop (j + 1) ++ rest) = p.take j ++ p[j] :: x :: (p.drop (j + 1) ++ rest) := by
      rw [List.take_succ_eq_append_getElem hjl, List.append_assoc]; rfl
    have hAl : (p.take j).length = j := by simp; omega
    have hswap := swap_set (A := p.take j) (B := p.drop (j + 1) ++ rest) (x := x) (y := p[j]) hAl
    have hg1 : (p.take j ++ p[j] :: x :: (p.drop (j + 1) ++ rest))[j + 1]? = some x := by
      rw [List.getElem?_append_right (by omega), hAl]; simp
    have hg2 : (p.take j ++ p[j] :: x :: (p.drop (j + 1) ++ rest))[j]? = some p[j] := by
      rw [List.getElem?_append_right (by omega), hAl]; simp
    have hnew : p.take j ++ x :: p[j] :: (p.drop (j + 1) ++ rest) = p.take j ++ x :: (p.drop j ++ rest) := by
      rw [List.drop_eq_getElem_cons hjl]; rfl
    rw [hrow] at hexit ⊢
    generalize p.take j ++ p[j] :: x :: (p.drop (j + 1) ++ rest) = R at hexit hg1 hg2 hswap ⊢
    have hRl : j + 1 < R.length := (List.getElem?_eq_some_iff.1 hg1).1
    have hw1 : IntKind.i64.wrap (j : Int) = j := wrap_in (by omega) (by omega)
    have hset1 : denSet 4 (iFs R) (iI ((j : Int) + 1)) (.agg [iI p[j].id, iS p[j].a.s, iT p[j].a.ts, iL p[j].j]) = some (iFs (R.set (j + 1) p[j])) := set_F (l := R) (i := j + 1) p[j] hRl
    have hg3 : (R.set (j + 1) p[j])[j]? = some p[j] := by rw [List.getElem?_set_ne (by omega)]; exact hg2
    have hset2 := set_F (l := R.set (j + 1) p[j]) (i := j) x (by simp; omega)
    rw [hswap, hnew] at hset2
    generalize R.set (j + 1) p[j] = R1 at hset1 hg3 hset2
    generalize hR2 : p.take j ++ x :: (p.drop j ++ rest) = R2 at hset2
    have hc61 := c61n x p[j]
    simp only [encF] at hc61
    have hc1 : denIdx 4 (iFs R) (iI ((j : Int) + 1)) = _ := ig_F hg1
    have hc2 := ig_F hg2
    have hc3 := ig_F hg3
    have hpos : (0 : Int) < (j : Int) + 1 := by omega
    simp [SE.den, hw1, hc1, hc2, cellOk, cellsOf, hpos]
    refine ⟨_, hc61, ?_⟩
    simp [SE.den, hw1, hc1, hc2, hc3, cellOk, cellsOf, hset1, hset2, hwp]
    by_cases hlt : x.id < p[j].id
    · left
      refine ⟨by unfold cmpI; rw [if_pos hlt]; omega, .mk j ?_ ⟨by omega, fun b hb => ?_⟩ (Nat.lt_succ_self _)⟩
      · rw [hR2]
      · rw [List.drop_eq_getElem_cons hjl] at hb
        rcases List.mem_cons.1 hb with rfl | hb
        · simpa [ltF] using hlt
        · exact hB b hb
    · right
      refine ⟨by unfold cmpI; rw [if_neg hlt]; split <;> omega, ?_⟩
      have h0 := hexit (fun i hi a ha => by
        have : i = j := by omega
        subst this
        rw [List.getElem?_eq_getElem hjl] at ha
        cases ha
        simpa [ltF] using hlt)
      first | exact h0 | simpa using h0
theorem s22v5 {v0 v1 v2 v3 v4 v5 v6 v8 v11 v12 : IV} {l cur : List Fa} (hl : l.length ≤ 18) (hk : k2 [iFs cur]) :
    fir22v5.sat Tryz.prog CC Q [k0, k1, k2, k3, k4] [v0, v1, v2, v3, v4, v5, v6, iFs l, v8, iI 20, iI 0, v11, v12, iFs cur] := by
  refine sat_loopM2 (fun _ : Unit => [iI 20, iI 0, iI 20]) (fun _ => True) (fun _ => 0) () ?_ trivial fun _ _ => ?_
  · simp [SE.den]
  have : ¬ ((20 : Int) < l.length) := by omega
  simp [SE.den, this]
  exact hk
theorem s22v6 {v0 v1 v2 v3 v4 v5 v6 v8 : IV} {l : List Fa} (hl : l.length ≤ 18) (hk : k2 [iFs (mrg ltF [] l)]) :
    fir22v6.sat Tryz.prog CC Q [k0, k1, k2, k3] [v0, v1, v2, v3, v4, v5, v6, iFs l, v8, iI 20, iI 0, iFs l] := by
  have hw0 : IntKind.i64.wrap 1 = 1 := rfl
  refine sat_loopM2 (fun p : Nat × List Fa => [iI p.1, iFs p.2]) (fun p => 1 ≤ p.1 ∧ p.2 = mrg ltF [] (l.take p.1) ++ l.drop p.1) (fun p => l.length + 1 - p.1) (1, l) ?_ ?_ fun ⟨i, cur⟩ ⟨hi, hc⟩ => ?_
  · simp [SE.den, hw0]
  · refine ⟨Nat.le_refl _, ?_⟩
    cases l with
    | nil => rfl
    | cons a l => simp [mrg, insL]
  simp only at hi hc
  by_cases hlt : i < l.length
  · rw [List.drop_eq_getElem_cons hlt] at hc
    simp [SE.den, hlt]
    subst hc
    have hpl : (mrg ltF [] (l.take i)).length = i := by rw [mrg_len]; simp; omega
    have h := s22v3 (Q := Q) (k0 := k0) (k1 := k1) (k2 := k2) (k3 := k3) (k4 := NxtM (fun p : Nat × List Fa => [iI p.1, iFs p.2]) (fun p => 1 ≤ p.1 ∧ p.2 = mrg ltF [] (l.take p.1) ++ l.drop p.1) (fun p => l.length + 1 - p.1) (i, mrg ltF [] (l.take i) ++ l[i] :: l.drop (i + 1)))
      (v0 := v0) (v1 := v1) (v2 := v2) (v3 := v3) (v4 := v4) (v5 := v5) (v6 := v6) (v7 := iFs l) (v8 := v8) (v9 := iI 20) (v11 := iFs l) (p := mrg ltF [] (l.take i)) (rest := l.drop (i + 1)) (x := l[i]) (srt_mrg ordF _ List.Pairwise.nil) (by simp; omega) ?_
    · rw [hpl] at h
      simpa using h
    · rw [hpl]
      refine .mk (i + 1, insL ltF l[i] (mrg ltF [] (l.take i)) ++ l.drop (i + 1)) rfl ⟨by omega, ?_⟩ (by simp; omega)
      rw [List.take_succ_eq_append_getElem hlt, mrg_snoc]
  · simp [SE.den, hlt]
    rw [List.take_of_length_le (by omega), List.drop_of_length_le (by omega), List.append_nil] at hc
    rw [hc]
    exact s22v5 hl hk
theorem s22v7 {v0 v1 v2 v3 v4 v5 v6 v8 : IV} {l : List Fa} (hl : l.length ≤ 18) (hk : k2 [iFs (mrg ltF [] l)]) :
    fir22v7.sat Tryz.prog CC Q [k0, k1, k2] [v0, v1, v2, v3, v4, v5, v6, iFs l, v8] := by
  refine sat_loopM2 (fun _ : Unit => [iI 20, iI 0, iFs l]) (fun _ => True) (fun _ => 0) () ?_ trivial fun _ _ => ?_
  · simp [SE.den]
  have : ¬ ((20 : Int) ≤ l.length) := by omega
  simp [SE.den, this]
  exact s22v6 hl hk
end Go.Proofs.YtggffkaadeagbaaGreat
