/- A part of the proof, no condition: what the code of Retract and of the bounds computes; contracts. -/
import Derived.Test.YtggffkaadeagbaaGreatEvP
import Derived.Test.YtggffkaadeagbaaGreatProg
import Derived.KernelRfl
import Derived.Test.YtggffkaadeagbaaGreatEvO
set_option linter.all false
namespace Go.Proofs.YtggffkaadeagbaaGreat
open Go Go.Ev
def pures : List Nat := [58, 75, 67, 109, 94, 53, 52, 68, 69, 70, 26, 28, 25, 19, 121, 78, 183, 123, 127, 126, 186, 189, 190, 128, 249, 66, 133, 191, 71, 64, 164, 250, 130, 129, 131, 158, 206, 102, 44, 79, 30, 31, 10, 23, 61, 22, 24, 27, 29, 15, 9]
def joins : List Nat := [48, 60, 63, 65, 118, 124, 132, 174, 197, 216, 252, 263, 334]
def stops : List Nat := [185, 188, 254]
def fir183 : FIR :=
 (.need (.ok (.var 0))
 (.need (.ok (.var 1))
 (.need (.len (.ok (.var 0)))
 (.loop (.ac (.i 0) .an)
 (.need (.ok (.bin .lss 3 (.var 2) (.len (.ok (.var 0)))))
 (.test (.ok (.bin .lss 3 (.var 2) (.len (.ok (.var 0)))))
 (.bind (.idx 1 (.ok (.var 0)) (.var 2))
 (.need (.ok (.var 3))
 (.need (.ok (.bin .eql 3 (.ok (.var 1)) (.ok (.var 3))))
 (.test (.ok (.bin .eql 3 (.ok (.var 1)) (.ok (.var 3))))
 (.ret (.var 2))
 (.need (.ok (.bin .add 3 (.var 2) (.i 1)))
 (.next 0 (.ac (.ok (.bin .add 3 (.var 2) (.i 1))) .an)))))))
 (.ret (.i (-1)))))))))
def cfg183 : Cfg := ⟨pures, joins, stops, [⟨0, 183, 2, [(0, (8, 0))], [], [], []⟩], []⟩
theorem ex183 : execFn Tryz.prog cfg183 400 false 183 = fir183 := by kernel_rfl
def fir121 : FIR :=
 (.need (.ok (.var 0))
 (.need (.ok (.var 1))
 (.call 183 false (.ac (.ok (.var 0)) (.ac (.ok (.var 1)) .an))
 (.need (.ok (.var 2))
 (.need (.ok (.bin .geq 3 (.ok (.var 2)) (.i 0)))
 (.ret (.ok (.bin .geq 3 (.ok (.var 2)) (.i 0)))))))))
def cfg121 : Cfg := ⟨pures, joins, stops, [], []⟩
theorem ex121 : execFn Tryz.prog cfg121 400 false 121 = fir121 := by kernel_rfl
def fir58 : FIR :=
 (.need (.ok (.var 0))
 (.need (.ok (.var 1))
 (.call 121 false (.ac (.ok (.var 0)) (.ac (.ok (.var 1)) .an))
 (.need (.ok (.var 2))
 (.ret (.ok (.var 2)))))))
def cfg58 : Cfg := ⟨pures, joins, stops, [], []⟩
theorem ex58 : execFn Tryz.prog cfg58 400 false 58 = fir58 := by kernel_rfl
def fir53 : FIR :=
 (.need (.ok (.var 0))
 (.need (.ok (.var 1))
 (.need (.len (.ok (.var 0)))
 (.need (.len (.ok (.var 1)))
 (.need (.ok (.bin .neq 3 (.len (.ok (.var 0))) (.len (.ok (.var 1)))))
 (.test (.ok (.bin .neq 3 (.len (.ok (.var 0))) (.len (.ok (.var 1)))))
 (.ret (.b false))
 (.loop (.ac (.i 0) .an)
 (.need (.len (.ok (.var 0)))
 (.need (.ok (.bin .lss 3 (.var 2) (.len (.ok (.var 0)))))
 (.test (.ok (.bin .lss 3 (.var 2) (.len (.ok (.var 0)))))
 (.bind (.idx 1 (.ok (.var 0)) (.var 2))
 (.need (.ok (.var 3))
 (.bind (.idx 1 (.ok (.var 1)) (.var 2))
 (.need (.ok (.var 4))
 (.need (.ok (.bin .neq 3 (.ok (.var 3)) (.ok (.var 4))))
 (.test (.ok (.bin .neq 3 (.ok (.var 3)) (.ok (.var 4))))
 (.ret (.b false))
 (.need (.ok (.bin .add 3 (.var 2) (.i 1)))
 (.next 0 (.ac (.ok (.bin .add 3 (.var 2) (.i 1))) .an)))))))))
 (.ret (.b true))))))))))))
def cfg53 : Cfg := ⟨pures, joins, stops, [⟨0, 53, 4, [(0, (5, 0))], [], [], []⟩], []⟩
theorem ex53 : execFn Tryz.prog cfg53 400 false 53 = fir53 := by kernel_rfl
def fir164 : FIR :=
 (.need (.ok (.var 0))
 (.need (.ok (.var 1))
 (.need (.len (.ok (.var 0)))
 (.need (.len (.ok (.var 1)))
 (.need (.ok (.bin .neq 3 (.len (.ok (.var 0))) (.len (.ok (.var 1)))))
 (.test (.ok (.bin .neq 3 (.len (.ok (.var 0))) (.len (.ok (.var 1)))))
 (.ret (.b false))
 (.loop (.ac (.i 0) .an)
 (.need (.len (.ok (.var 0)))
 (.need (.ok (.bin .lss 3 (.var 2) (.len (.ok (.var 0)))))
 (.test (.ok (.bin .lss 3 (.var 2) (.len (.ok (.var 0)))))
 (.need (.len (.ok (.var 1)))
 (.need (.ok (.bin .lss 3 (.var 2) (.len (.ok (.var 1)))))
 (.test (.ok (.bin .lss 3 (.var 2) (.len (.ok (.var 1)))))
 (.bind (.idx 1 (.ok (.var 0)) (.var 2))
 (.need (.ok (.var 3))
 (.bind (.idx 1 (.ok (.var 1)) (.var 2))
 (.need (.ok (.var 4))
 (.need (.ok (.bin .neq 3 (.ok (.var 3)) (.ok (.var 4))))
 (.test (.ok (.bin .neq 3 (.ok (.var 3)) (.ok (.var 4))))
 (.ret (.b false))
 (.need (.ok (.bin .add 3 (.var 2) (.i 1)))
 (.next 0 (.ac (.ok (.bin .add 3 (.var 2) (.i 1))) .an)))))))))
 (.ret (.b true)))))
 (.ret (.b true))))))))))))
def cfg164 : Cfg := ⟨pures, joins, stops, [⟨0, 164, 4, [(0, (5, 0))], [], [], []⟩], []⟩
theorem ex164 : execFn Tryz.prog cfg164 400 false 164 = fir164 := by kernel_rfl
def fir186 : FIR :=
 (.need (.ok (.var 0))
 (.need (.ok (.bin .neq 3 (.ok (.var 0)) (.ok (.var 0))))
 (.ret (.ok (.bin .neq 3 (.ok (.var 0)) (.ok (.var 0)))))))
def cfg186 : Cfg := ⟨pures, joins, stops, [], []⟩
theorem ex186 : execFn Tryz.prog cfg186 400 false 186 = fir186 := by kernel_rfl
def fir123 : FIR :=
 (.need (.ok (.var 0))
 (.need (.ok (.var 1))
 (.call 186 false (.ac (.ok (.var 0)) .an)
 (.need (.ok (.var 2))
 (.call 186 false (.ac (.ok (.var 1)) .an)
 (.need (.ok (.var 3))
 (.test (.ok (.var 2))
 (.test (.ok (.var 3))
 (.ret (.i 0))
 (.ret (.i (-1))))
 (.test (.ok (.var 3))
 (.ret (.i 1))
 (.need (.ok (.bin .lss 3 (.ok (.var 0)) (.ok (.var 1))))
 (.test (.ok (.bin .lss 3 (.ok (.var 0)) (.ok (.var 1))))
 (.ret (.i (-1)))
 (.need (.ok (.bin .gtr 3 (.ok (.var 0)) (.ok (.var 1))))
 (.test (.ok (.bin .gtr 3 (.ok (.var 0)) (.ok (.var 1))))
 (.ret (.i 1))
 (.ret (.i 0))))))))))))))
def cfg123 : Cfg := ⟨pures, joins, stops, [], []⟩
theorem ex123 : execFn Tryz.prog cfg123 400 false 123 = fir123 := by kernel_rfl
def fir250 : FIR :=
 (.need (.agn 4 (.var 0))
 (.need (.ok (.bin .eql 3 (.fld (.var 0) 0) (.i 1)))
 (.test (.ok (.bin .eql 3 (.fld (.var 0) 0) (.i 1)))
 (.ret (.i 0))
 (.need (.ok (.bin .eql 3 (.fld (.var 0) 0) (.i 0)))
 (.test (.ok (.bin .eql 3 (.fld (.var 0) 0) (.i 0)))
 (.ret (.i 1))
 (.need (.ok (.bin .eql 3 (.fld (.var 0) 0) (.i 2)))
 (.test (.ok (.bin .eql 3 (.fld (.var 0) 0) (.i 2)))
 (.ret (.i 2))
 (.ret (.i 3)))))))))
def cfg250 : Cfg := ⟨pures, joins, stops, [], []⟩
theorem ex250 : execFn Tryz.prog cfg250 400 false 250 = fir250 := by kernel_rfl
def fir130 : FIR :=
 (.need (.ok (.var 0))
 (.need (.ok (.var 1))
 (.need (.ok (.bin .lss 3 (.ok (.var 0)) (.ok (.var 1))))
 (.test (.ok (.bin .lss 3 (.ok (.var 0)) (.ok (.var 1))))
 (.ret (.i (-1)))
 (.need (.ok (.bin .gtr 3 (.ok (.var 0)) (.ok (.var 1))))
 (.test (.ok (.bin .gtr 3 (.ok (.var 0)) (.ok (.var 1))))
 (.ret (.i 1))
 (.ret (.i 0))))))))
def cfg130 : Cfg := ⟨pures, joins, stops, [], []⟩
theorem ex130 : execFn Tryz.prog cfg130 400 false 130 = fir130 := by kernel_rfl
def fir129 : FIR :=
 (.need (.ok (.var 0))
 (.need (.ok (.var 1))
 (.need (.ok (.bin .lss 9 (.ok (.var 0)) (.ok (.var 1))))
 (.test (.ok (.bin .lss 9 (.ok (.var 0)) (.ok (.var 1))))
 (.ret (.i (-1)))
 (.need (.ok (.bin .gtr 9 (.ok (.var 0)) (.ok (.var 1))))
 (.test (.ok (.bin .gtr 9 (.ok (.var 0)) (.ok (.var 1))))
 (.ret (.i 1))
 (.ret (.i 0))))))))
def cfg129 : Cfg := ⟨pures, joins, stops, [], []⟩
theorem ex129 : execFn Tryz.prog cfg129 400 false 129 = fir129 := by kernel_rfl
def fir131 : FIR :=
 (.need (.ok (.var 0))
 (.need (.ok (.var 1))
 (.loop (.ac (.i 0) .an)
 (.need (.len (.ok (.var 0)))
 (.need (.ok (.bin .lss 3 (.var 2) (.len (.ok (.var 0)))))
 (.test (.ok (.bin .lss 3 (.var 2) (.len (.ok (.var 0)))))
 (.need (.len (.ok (.var 1)))
 (.need (.ok (.bin .lss 3 (.var 2) (.len (.ok (.var 1)))))
 (.test (.ok (.bin .lss 3 (.var 2) (.len (.ok (.var 1)))))
 (.bind (.idx 4 (.ok (.var 0)) (.var 2))
 (.need (.agn 4 (.var 3))
 (.bind (.idx 4 (.ok (.var 1)) (.var 2))
 (.need (.agn 4 (.var 4))
 (.call 191 false (.ac (.ac (.fld (.var 3) 0) (.ac (.fld (.var 3) 1) (.ac (.fld (.var 3) 2) (.ac (.fld (.var 3) 3) .an)))) (.ac (.ac (.fld (.var 4) 0) (.ac (.fld (.var 4) 1) (.ac (.fld (.var 4) 2) (.ac (.fld (.var 4) 3) .an)))) .an))
 (.need (.ok (.var 5))
 (.need (.ok (.bin .neq 3 (.ok (.var 5)) (.i 0)))
 (.test (.ok (.bin .neq 3 (.ok (.var 5)) (.i 0)))
 (.ret (.ok (.var 5)))
 (.need (.ok (.bin .add 3 (.var 2) (.i 1)))
 (.next 0 (.ac (.ok (.bin .add 3 (.var 2) (.i 1))) .an)))))))))))
 (.need (.len (.ok (.var 0)))
 (.need (.len (.ok (.var 1)))
 (.call 130 false (.ac (.len (.ok (.var 0))) (.ac (.len (.ok (.var 1))) .an))
 (.need (.ok (.var 3))
 (.ret (.ok (.var 3))))))))))
 (.need (.len (.ok (.var 0)))
 (.need (.len (.ok (.var 1)))
 (.call 130 false (.ac (.len (.ok (.var 0))) (.ac (.len (.ok (.var 1))) .an))
 (.need (.ok (.var 3))
 (.ret (.ok (.var 3)))))))))))))
def cfg131 : Cfg := ⟨pures, joins, stops, [⟨0, 131, 2, [(0, (5, 0))], [], [], []⟩], []⟩
theorem ex131 : execFn Tryz.prog cfg131 400 false 131 = fir131 := by kernel_rfl
def fir191 : FIR :=
 (.need (.agn 4 (.var 0))
 (.need (.agn 4 (.var 1))
 (.call 250 false (.ac (.ac (.fld (.var 0) 0) (.ac (.fld (.var 0) 1) (.ac (.fld (.var 0) 2) (.ac (.fld (.var 0) 3) .an)))) .an)
 (.need (.ok (.var 2))
 (.call 250 false (.ac (.ac (.fld (.var 1) 0) (.ac (.fld (.var 1) 1) (.ac (.fld (.var 1) 2) (.ac (.fld (.var 1) 3) .an)))) .an)
 (.need (.ok (.var 3))
 (.call 130 false (.ac (.ok (.var 2)) (.ac (.ok (.var 3)) .an))
 (.need (.ok (.var 4))
 (.need (.ok (.bin .neq 3 (.ok (.var 4)) (.i 0)))
 (.test (.ok (.bin .neq 3 (.ok (.var 4)) (.i 0)))
 (.ret (.ok (.var 4)))
 (.call 250 false (.ac (.ac (.fld (.var 0) 0) (.ac (.fld (.var 0) 1) (.ac (.fld (.var 0) 2) (.ac (.fld (.var 0) 3) .an)))) .an)
 (.need (.ok (.var 5))
 (.need (.ok (.bin .eql 3 (.ok (.var 5)) (.i 0)))
 (.test (.ok (.bin .eql 3 (.ok (.var 5)) (.i 0)))
 (.call 130 false (.ac (.fld (.var 0) 1) (.ac (.fld (.var 1) 1) .an))
 (.need (.ok (.var 6))
 (.ret (.ok (.var 6)))))
 (.need (.ok (.bin .eql 3 (.ok (.var 5)) (.i 1)))
 (.test (.ok (.bin .eql 3 (.ok (.var 5)) (.i 1)))
 (.call 130 false (.ac (.fld (.var 0) 1) (.ac (.fld (.var 1) 1) .an))
 (.need (.ok (.var 6))
 (.ret (.ok (.var 6)))))
 (.need (.ok (.bin .eql 3 (.ok (.var 5)) (.i 2)))
 (.test (.ok (.bin .eql 3 (.ok (.var 5)) (.i 2)))
 (.need (.len (.fld (.var 0) 3))
 (.need (.len (.fld (.var 1) 3))
 (.call 130 false (.ac (.len (.fld (.var 0) 3)) (.ac (.len (.fld (.var 1) 3)) .an))
 (.need (.ok (.var 6))
 (.need (.ok (.bin .eql 3 (.ok (.var 6)) (.i 0)))
 (.test (.ok (.bin .eql 3 (.ok (.var 6)) (.i 0)))
 (.call 129 false (.ac (.fld (.var 0) 2) (.ac (.fld (.var 1) 2) .an))
 (.need (.ok (.var 7))
 (.need (.ok (.bin .eql 3 (.ok (.var 7)) (.i 0)))
 (.test (.ok (.bin .eql 3 (.ok (.var 7)) (.i 0)))
 (.call 131 false (.ac (.fld (.var 0) 3) (.ac (.fld (.var 1) 3) .an))
 (.need (.ok (.var 8))
 (.ret (.ok (.var 8)))))
 (.ret (.ok (.var 7)))))))
 (.need (.ok (.bin .eql 3 (.ok (.var 6)) (.i 0)))
 (.test (.ok (.bin .eql 3 (.ok (.var 6)) (.i 0)))
 (.call 131 false (.ac (.fld (.var 0) 3) (.ac (.fld (.var 1) 3) .an))
 (.need (.ok (.var 7))
 (.ret (.ok (.var 7)))))
 (.ret (.ok (.var 6)))))))))))
 (.call 130 false (.ac (.fld (.var 0) 0) (.ac (.fld (.var 1) 0) .an))
 (.need (.ok (.var 6))
 (.need (.ok (.bin .eql 3 (.ok (.var 6)) (.i 0)))
 (.test (.ok (.bin .eql 3 (.ok (.var 6)) (.i 0)))
 (.call 130 false (.ac (.fld (.var 0) 1) (.ac (.fld (.var 1) 1) .an))
 (.need (.ok (.var 7))
 (.need (.ok (.bin .eql 3 (.ok (.var 7)) (.i 0)))
 (.test (.ok (.bin .eql 3 (.ok (.var 7)) (.i 0)))
 (.call 129 false (.ac (.fld (.var 0) 2) (.ac (.fld (.var 1) 2) .an))
 (.need (.ok (.var 8))
 (.ret (.ok (.var 8)))))
 (.ret (.ok (.var 7)))))))
 (.need (.ok (.bin .eql 3 (.ok (.var 6)) (.i 0)))
 (.test (.ok (.bin .eql 3 (.ok (.var 6)) (.i 0)))
 (.call 129 false (.ac (.fld (.var 0) 2) (.ac (.fld (.var 1) 2) .an))
 (.need (.ok (.var 7))
 (.ret (.ok (.var 7)))))
 (.ret (.ok (.var 6)))))))))))))))))))))))))))
def cfg191 : Cfg := ⟨pures, joins, stops, [], []⟩
theorem ex191 : execFn Tryz.prog cfg191 400 false 191 = fir191 := by kernel_rfl
def fir71 : FIR :=
 (.need (.agn 2 (.var 0))
 (.need (.agn 2 (.var 1))
 (.call 129 false (.ac (.fld (.var 0) 0) (.ac (.fld (.var 1) 0) .an))
 (.need (.ok (.var 2))
 (.need (.ok (.bin .eql 3 (.ok (.var 2)) (.i 0)))
 (.test (.ok (.bin .eql 3 (.ok (.var 2)) (.i 0)))
 (.need (.len (.fld (.var 0) 1))
 (.need (.len (.fld (.var 1) 1))
 (.call 130 false (.ac (.len (.fld (.var 0) 1)) (.ac (.len (.fld (.var 1) 1)) .an))
 (.need (.ok (.var 3))
 (.need (.ok (.bin .eql 3 (.ok (.var 3)) (.i 0)))
 (.test (.ok (.bin .eql 3 (.ok (.var 3)) (.i 0)))
 (.call 131 false (.ac (.fld (.var 0) 1) (.ac (.fld (.var 1) 1) .an))
 (.need (.ok (.var 4))
 (.ret (.ok (.var 4)))))
 (.ret (.ok (.var 3)))))))))
 (.need (.ok (.bin .eql 3 (.ok (.var 2)) (.i 0)))
 (.test (.ok (.bin .eql 3 (.ok (.var 2)) (.i 0)))
 (.call 131 false (.ac (.fld (.var 0) 1) (.ac (.fld (.var 1) 1) .an))
 (.need (.ok (.var 3))
 (.ret (.ok (.var 3)))))
 (.ret (.ok (.var 2)))))))))))
def cfg71 : Cfg := ⟨pures, joins, stops, [], []⟩
theorem ex71 : execFn Tryz.prog cfg71 400 false 71 = fir71 := by kernel_rfl
def fir64 : FIR :=
 (.need (.agn 2 (.var 0))
 (.need (.agn 2 (.var 1))
 (.call 71 false (.ac (.ac (.fld (.var 0) 0) (.ac (.fld (.var 0) 1) .an)) (.ac (.ac (.fld (.var 1) 0) (.ac (.fld (.var 1) 1) .an)) .an))
 (.need (.ok (.var 2))
 (.need (.ok (.bin .eql 3 (.ok (.var 2)) (.i 0)))
 (.ret (.ok (.bin .eql 3 (.ok (.var 2)) (.i 0)))))))))
def cfg64 : Cfg := ⟨pures, joins, stops, [], []⟩
theorem ex64 : execFn Tryz.prog cfg64 400 false 64 = fir64 := by kernel_rfl
def fir109 : FIR :=
 (.need (.agn 4 (.var 0))
 (.need (.agn 4 (.var 1))
 (.need (.ok (.bin .eql 3 (.fld (.var 0) 0) (.fld (.var 1) 0)))
 (.test (.ok (.bin .eql 3 (.fld (.var 0) 0) (.fld (.var 1) 0)))
 (.call 64 false (.ac (.ac (.fld (.var 0) 1) (.ac (.fld (.var 0) 2) .an)) (.ac (.ac (.fld (.var 1) 1) (.ac (.fld (.var 1) 2) .an)) .an))
 (.need (.ok (.var 2))
 (.test (.ok (.var 2))
 (.call 164 false (.ac (.fld (.var 0) 3) (.ac (.fld (.var 1) 3) .an))
 (.need (.ok (.var 3))
 (.ret (.ok (.var 3)))))
 (.ret (.b false)))))
 (.ret (.b false))))))
def cfg109 : Cfg := ⟨pures, joins, stops, [], []⟩
theorem ex109 : execFn Tryz.prog cfg109 400 false 109 = fir109 := by kernel_rfl
def fir52 : FIR :=
 (.need (.ok (.var 0))
 (.need (.ok (.var 1))
 (.need (.len (.ok (.var 0)))
 (.need (.len (.ok (.var 1)))
 (.need (.ok (.bin .neq 3 (.len (.ok (.var 0))) (.len (.ok (.var 1)))))
 (.test (.ok (.bin .neq 3 (.len (.ok (.var 0))) (.len (.ok (.var 1)))))
 (.ret (.b false))
 (.loop (.ac (.i 0) .an)
 (.need (.len (.ok (.var 0)))
 (.need (.ok (.bin .lss 3 (.var 2) (.len (.ok (.var 0)))))
 (.test (.ok (.bin .lss 3 (.var 2) (.len (.ok (.var 0)))))
 (.bind (.idx 4 (.ok (.var 0)) (.var 2))
 (.need (.agn 4 (.var 3))
 (.bind (.idx 4 (.ok (.var 1)) (.var 2))
 (.need (.agn 4 (.var 4))
 (.call 109 false (.ac (.ac (.fld (.var 3) 0) (.ac (.fld (.var 3) 1) (.ac (.fld (.var 3) 2) (.ac (.fld (.var 3) 3) .an)))) (.ac (.ac (.fld (.var 4) 0) (.ac (.fld (.var 4) 1) (.ac (.fld (.var 4) 2) (.ac (.fld (.var 4) 3) .an)))) .an))
 (.need (.ok (.var 5))
 (.need (.ok (.un .not (.ok (.var 5))))
 (.test (.ok (.un .not (.ok (.var 5))))
 (.ret (.b false))
 (.need (.ok (.bin .add 3 (.var 2) (.i 1)))
 (.next 0 (.ac (.ok (.bin .add 3 (.var 2) (.i 1))) .an)))))))))))
 (.ret (.b true))))))))))))
def cfg52 : Cfg := ⟨pures, joins, stops, [⟨0, 52, 4, [(0, (5, 0))], [], [], []⟩], []⟩
theorem ex52 : execFn Tryz.prog cfg52 400 false 52 = fir52 := by kernel_rfl
def fir19 : FIR :=
 (.need (.agn 5 (.var 0))
 (.need (.agn 5 (.var 1))
 (.call 52 false (.ac (.fld (.var 0) 0) (.ac (.fld (.var 1) 0) .an))
 (.need (.ok (.var 2))
 (.need (.ok (.un .not (.ok (.var 2))))
 (.test (.ok (.un .not (.ok (.var 2))))
 (.ret (.b false))
 (.call 52 false (.ac (.fld (.var 0) 1) (.ac (.fld (.var 1) 1) .an))
 (.need (.ok (.var 3))
 (.need (.ok (.un .not (.ok (.var 3))))
 (.test (.ok (.un .not (.ok (.var 3))))
 (.ret (.b false))
 (.need (.ok (.bin .neq 3 (.fld (.var 0) 3) (.fld (.var 1) 3)))
 (.test (.ok (.bin .neq 3 (.fld (.var 0) 3) (.fld (.var 1) 3)))
 (.ret (.b false))
 (.need (.ok (.bin .neq 3 (.fld (.var 0) 4) (.fld (.var 1) 4)))
 (.test (.ok (.bin .neq 3 (.fld (.var 0) 4) (.fld (.var 1) 4)))
 (.ret (.b false))
 (.need (.len (.fld (.var 0) 2))
 (.need (.len (.fld (.var 1) 2))
 (.need (.ok (.bin .neq 3 (.len (.fld (.var 0) 2)) (.len (.fld (.var 1) 2))))
 (.test (.ok (.bin .neq 3 (.len (.fld (.var 0) 2)) (.len (.fld (.var 1) 2))))
 (.ret (.b false))
 (.loop (.ac (.i 0) .an)
 (.need (.len (.fld (.var 0) 2))
 (.need (.ok (.bin .lss 3 (.var 4) (.len (.fld (.var 0) 2))))
 (.test (.ok (.bin .lss 3 (.var 4) (.len (.fld (.var 0) 2))))
 (.bind (.idx 6 (.fld (.var 0) 2) (.var 4))
 (.need (.agn 6 (.var 5))
 (.bind (.idx 6 (.fld (.var 1) 2) (.var 4))
 (.need (.agn 6 (.var 6))
 (.need (.ok (.bin .neq 3 (.fld (.var 5) 0) (.fld (.var 6) 0)))
 (.test (.ok (.bin .neq 3 (.fld (.var 5) 0) (.fld (.var 6) 0)))
 (.ret (.b false))
 (.need (.ok (.bin .neq 4 (.fld (.var 5) 4) (.fld (.var 6) 4)))
 (.test (.ok (.bin .neq 4 (.fld (.var 5) 4) (.fld (.var 6) 4)))
 (.ret (.b false))
 (.call 53 false (.ac (.fld (.var 5) 1) (.ac (.fld (.var 6) 1) .an))
 (.need (.ok (.var 7))
 (.need (.ok (.un .not (.ok (.var 7))))
 (.test (.ok (.un .not (.ok (.var 7))))
 (.ret (.b false))
 (.call 53 false (.ac (.fld (.var 5) 2) (.ac (.fld (.var 6) 2) .an))
 (.need (.ok (.var 8))
 (.need (.ok (.un .not (.ok (.var 8))))
 (.test (.ok (.un .not (.ok (.var 8))))
 (.ret (.b false))
 (.call 53 false (.ac (.fld (.var 5) 3) (.ac (.fld (.var 6) 3) .an))
 (.need (.ok (.var 9))
 (.need (.ok (.un .not (.ok (.var 9))))
 (.test (.ok (.un .not (.ok (.var 9))))
 (.ret (.b false))
 (.call 53 false (.ac (.fld (.var 5) 5) (.ac (.fld (.var 6) 5) .an))
 (.need (.ok (.var 10))
 (.need (.ok (.un .not (.ok (.var 10))))
 (.test (.ok (.un .not (.ok (.var 10))))
 (.ret (.b false))
 (.need (.ok (.bin .add 3 (.var 4) (.i 1)))
 (.next 0 (.ac (.ok (.bin .add 3 (.var 4) (.i 1))) .an)))))))))))))))))))))))))))
 (.ret (.b true))))))))))))))))))))))))
def cfg19 : Cfg := ⟨pures, joins, stops, [⟨0, 19, 4, [(0, (5, 0))], [], [], []⟩], []⟩
theorem ex19 : execFn Tryz.prog cfg19 400 false 19 = fir19 := by kernel_rfl
def firn61 : FIR :=
 (.need (.agn 4 (.var 0))
 (.need (.agn 4 (.var 1))
 (.call 123 false (.ac (.fld (.var 0) 0) (.ac (.fld (.var 1) 0) .an))
 (.need (.ok (.var 2))
 (.ret (.rw (.ok (.var 2))))))))
def cfgn61 : Cfg := ⟨pures, joins, stops, [], []⟩
theorem exn61 : execFn Tryz.prog cfgn61 400 true 61 = firn61 := by kernel_rfl
def firn58 : FIR :=
 (.need (.ok (.var 0))
 (.need (.ok (.var 1))
 (.call 121 false (.ac (.ok (.var 0)) (.ac (.ok (.var 1)) .an))
 (.need (.ok (.var 2))
 (.ret (.rw (.ok (.var 2))))))))
def cfgn58 : Cfg := ⟨pures, joins, stops, [], []⟩
theorem exn58 : execFn Tryz.prog cfgn58 400 true 58 = firn58 := by kernel_rfl
def fir206 : FIR :=
 (.need (.agn 4 (.var 0))
 (.need (.ok (.bin .eql 3 (.fld (.var 0) 0) (.i 2)))
 (.test (.ok (.bin .eql 3 (.fld (.var 0) 0) (.i 2)))
 (.ret (.fld (.var 0) 3))
 (.ret (.tr 4 .an)))))
def cfg206 : Cfg := ⟨pures, joins, stops, [], []⟩
theorem ex206 : execFn Tryz.prog cfg206 400 false 206 = fir206 := by kernel_rfl
def fir158 : FIR :=
 (.need (.agn 4 (.var 0))
 (.call 206 false (.ac (.ac (.fld (.var 0) 0) (.ac (.fld (.var 0) 1) (.ac (.fld (.var 0) 2) (.ac (.fld (.var 0) 3) .an)))) .an)
 (.need (.ok (.var 1))
 (.loop (.ac (.i 0) (.ac (.i 1) .an))
 (.need (.len (.ok (.var 1)))
 (.need (.ok (.bin .lss 3 (.var 2) (.len (.ok (.var 1)))))
 (.test (.ok (.bin .lss 3 (.var 2) (.len (.ok (.var 1)))))
 (.bind (.idx 4 (.ok (.var 1)) (.var 2))
 (.need (.agn 4 (.var 4))
 (.call 158 false (.ac (.ac (.fld (.var 4) 0) (.ac (.fld (.var 4) 1) (.ac (.fld (.var 4) 2) (.ac (.fld (.var 4) 3) .an)))) .an)
 (.need (.ok (.var 5))
 (.need (.ok (.bin .add 3 (.var 3) (.ok (.var 5))))
 (.need (.ok (.bin .add 3 (.var 2) (.i 1)))
 (.next 0 (.ac (.ok (.bin .add 3 (.var 2) (.i 1))) (.ac (.ok (.bin .add 3 (.var 3) (.ok (.var 5)))) .an)))))))))
 (.ret (.var 3)))))))))
def cfg158 : Cfg := ⟨pures, joins, stops, [⟨0, 158, 4, [(0, (3, 0)), (0, (5, 0))], [], [], []⟩], []⟩
theorem ex158 : execFn Tryz.prog cfg158 400 false 158 = fir158 := by kernel_rfl
def fir102 : FIR :=
 (.need (.ok (.var 0))
 (.need (.len (.ok (.var 0)))
 (.need (.ok (.bin .gtr 3 (.len (.ok (.var 0))) (.i 8)))
 (.test (.ok (.bin .gtr 3 (.len (.ok (.var 0))) (.i 8)))
 (.ret (.b false))
 (.loop (.ac (.i 0) (.ac (.i 0) .an))
 (.need (.len (.ok (.var 0)))
 (.need (.ok (.bin .lss 3 (.var 1) (.len (.ok (.var 0)))))
 (.test (.ok (.bin .lss 3 (.var 1) (.len (.ok (.var 0)))))
 (.bind (.idx 4 (.ok (.var 0)) (.var 1))
 (.need (.agn 4 (.var 3))
 (.call 158 false (.ac (.ac (.fld (.var 3) 0) (.ac (.fld (.var 3) 1) (.ac (.fld (.var 3) 2) (.ac (.fld (.var 3) 3) .an)))) .an)
 (.need (.ok (.var 4))
 (.need (.ok (.bin .add 3 (.var 2) (.ok (.var 4))))
 (.need (.ok (.bin .gtr 3 (.ok (.bin .add 3 (.var 2) (.ok (.var 4)))) (.i 60)))
 (.test (.ok (.bin .gtr 3 (.ok (.bin .add 3 (.var 2) (.ok (.var 4)))) (.i 60)))
 (.ret (.b false))
 (.need (.ok (.bin .add 3 (.var 1) (.i 1)))
 (.next 0 (.ac (.ok (.bin .add 3 (.var 1) (.i 1))) (.ac (.ok (.bin .add 3 (.var 2) (.ok (.var 4)))) .an)))))))))))
 (.ret (.b true))))))))))
def cfg102 : Cfg := ⟨pures, joins, stops, [⟨0, 102, 5, [(0, (3, 0)), (0, (4, 0))], [], [], []⟩], []⟩
theorem ex102 : execFn Tryz.prog cfg102 400 false 102 = fir102 := by kernel_rfl
def fir44 : FIR :=
 (.need (.ok (.var 0))
 (.loop (.ac (.i 0) .an)
 (.need (.len (.ok (.var 0)))
 (.need (.ok (.bin .lss 3 (.var 1) (.len (.ok (.var 0)))))
 (.test (.ok (.bin .lss 3 (.var 1) (.len (.ok (.var 0)))))
 (.bind (.idx 2 (.ok (.var 0)) (.var 1))
 (.need (.agn 2 (.var 2))
 (.call 102 false (.ac (.fld (.var 2) 1) .an)
 (.need (.ok (.var 3))
 (.need (.ok (.un .not (.ok (.var 3))))
 (.test (.ok (.un .not (.ok (.var 3))))
 (.ret (.b false))
 (.need (.ok (.bin .add 3 (.var 1) (.i 1)))
 (.next 0 (.ac (.ok (.bin .add 3 (.var 1) (.i 1))) .an)))))))))
 (.ret (.b true)))))))
def cfg44 : Cfg := ⟨pures, joins, stops, [⟨0, 44, 2, [(0, (3, 0))], [], [], []⟩], []⟩
theorem ex44 : execFn Tryz.prog cfg44 400 false 44 = fir44 := by kernel_rfl
def firn44 : FIR :=
 (.need (.ok (.var 0))
 (.loop (.ac (.i 0) .an)
 (.need (.len (.ok (.var 0)))
 (.need (.ok (.bin .lss 3 (.var 1) (.len (.ok (.var 0)))))
 (.test (.ok (.bin .lss 3 (.var 1) (.len (.ok (.var 0)))))
 (.bind (.idx 2 (.ok (.var 0)) (.var 1))
 (.need (.agn 2 (.var 2))
 (.call 102 false (.ac (.fld (.var 2) 1) .an)
 (.need (.ok (.var 3))
 (.need (.ok (.un .not (.ok (.var 3))))
 (.test (.ok (.un .not (.ok (.var 3))))
 (.ret (.rw (.b false)))
 (.need (.ok (.bin .add 3 (.var 1) (.i 1)))
 (.next 0 (.ac (.ok (.bin .add 3 (.var 1) (.i 1))) .an)))))))))
 (.ret (.rw (.b true))))))))
def cfgn44 : Cfg := ⟨pures, joins, stops, [⟨0, 44, 2, [(0, (3, 0))], [], [], []⟩], []⟩
theorem exn44 : execFn Tryz.prog cfgn44 400 true 44 = firn44 := by kernel_rfl
def fir31 : FIR :=
 (.need (.ok (.var 0))
 (.need (.len (.ok (.var 0)))
 (.need (.ok (.bin .gtr 3 (.len (.ok (.var 0))) (.i 9)))
 (.test (.ok (.bin .gtr 3 (.len (.ok (.var 0))) (.i 9)))
 (.ret (.b false))
 (.loop (.ac (.i 0) .an)
 (.need (.len (.ok (.var 0)))
 (.need (.ok (.bin .lss 3 (.var 1) (.len (.ok (.var 0)))))
 (.test (.ok (.bin .lss 3 (.var 1) (.len (.ok (.var 0)))))
 (.bind (.idx 4 (.ok (.var 0)) (.var 1))
 (.need (.agn 4 (.var 2))
 (.need (.len (.fld (.var 2) 3))
 (.need (.ok (.bin .gtr 3 (.len (.fld (.var 2) 3)) (.i 20)))
 (.test (.ok (.bin .gtr 3 (.len (.fld (.var 2) 3)) (.i 20)))
 (.ret (.b false))
 (.bind (.idx 4 (.ok (.var 0)) (.var 1))
 (.need (.agn 4 (.var 3))
 (.call 44 true (.ac (.tr 2 (.ac (.ac (.fld (.var 3) 1) (.ac (.fld (.var 3) 2) .an)) .an)) .an)
 (.need (.ok (.var 4))
 (.need (.ok (.un .not (.ok (.var 4))))
 (.test (.ok (.un .not (.ok (.var 4))))
 (.ret (.b false))
 (.need (.ok (.bin .add 3 (.var 1) (.i 1)))
 (.next 0 (.ac (.ok (.bin .add 3 (.var 1) (.i 1))) .an))))))))))))))
 (.ret (.b true))))))))))
def cfg31 : Cfg := ⟨pures, joins, stops, [⟨0, 31, 4, [(0, (3, 0))], [], [], []⟩], []⟩
theorem ex31 : execFn Tryz.prog cfg31 400 false 31 = fir31 := by kernel_rfl
def fir10 : FIR :=
 (.need (.agn 2 (.var 0))
 (.need (.agn 5 (.var 1))
 (.call 30 false (.ac (.ac (.fld (.var 0) 0) (.ac (.fld (.var 0) 1) .an)) .an)
 (.need (.ok (.var 2))
 (.need (.ok (.un .not (.ok (.var 2))))
 (.test (.ok (.un .not (.ok (.var 2))))
 (.ret (.b false))
 (.call 31 false (.ac (.fld (.var 1) 0) .an)
 (.need (.ok (.var 3))
 (.need (.ok (.un .not (.ok (.var 3))))
 (.test (.ok (.un .not (.ok (.var 3))))
 (.ret (.b false))
 (.call 31 false (.ac (.fld (.var 1) 1) .an)
 (.need (.ok (.var 4))
 (.need (.ok (.un .not (.ok (.var 4))))
 (.test (.ok (.un .not (.ok (.var 4))))
 (.ret (.b false))
 (.need (.len (.fld (.var 1) 2))
 (.need (.ok (.bin .gtr 3 (.len (.fld (.var 1) 2)) (.i 12)))
 (.test (.ok (.bin .gtr 3 (.len (.fld (.var 1) 2)) (.i 12)))
 (.ret (.b false))
 (.loop (.ac (.i 0) .an)
 (.need (.len (.fld (.var 1) 2))
 (.need (.ok (.bin .lss 3 (.var 5) (.len (.fld (.var 1) 2))))
 (.test (.ok (.bin .lss 3 (.var 5) (.len (.fld (.var 1) 2))))
 (.bind (.idx 6 (.fld (.var 1) 2) (.var 5))
 (.need (.agn 6 (.var 6))
 (.need (.len (.fld (.var 6) 1))
 (.need (.ok (.bin .gtr 3 (.len (.fld (.var 6) 1)) (.i 8)))
 (.test (.ok (.bin .gtr 3 (.len (.fld (.var 6) 1)) (.i 8)))
 (.ret (.b false))
 (.need (.len (.fld (.var 6) 2))
 (.need (.ok (.bin .gtr 3 (.len (.fld (.var 6) 2)) (.i 8)))
 (.test (.ok (.bin .gtr 3 (.len (.fld (.var 6) 2)) (.i 8)))
 (.ret (.b false))
 (.need (.len (.fld (.var 6) 3))
 (.need (.ok (.bin .gtr 3 (.len (.fld (.var 6) 3)) (.i 20)))
 (.test (.ok (.bin .gtr 3 (.len (.fld (.var 6) 3)) (.i 20)))
 (.ret (.b false))
 (.need (.len (.fld (.var 6) 5))
 (.need (.ok (.bin .gtr 3 (.len (.fld (.var 6) 5)) (.i 20)))
 (.test (.ok (.bin .gtr 3 (.len (.fld (.var 6) 5)) (.i 20)))
 (.ret (.b false))
 (.need (.ok (.bin .add 3 (.var 5) (.i 1)))
 (.next 0 (.ac (.ok (.bin .add 3 (.var 5) (.i 1))) .an)))))))))))))))))
 (.ret (.b true)))))))))))))))))))))))
def cfg10 : Cfg := ⟨pures, joins, stops, [⟨0, 10, 4, [(0, (5, 0))], [], [], []⟩], []⟩
theorem ex10 : execFn Tryz.prog cfg10 400 false 10 = fir10 := by kernel_rfl
end Go.Proofs.YtggffkaadeagbaaGreat
namespace Go.Proofs.YtggffkaadeagbaaGreat
open Go Go.Ev
inductive Tm where
  | mk (k n : Int) (s : List UInt8) (ts : List Tm)
mutual
def encT : Tm → IV
  | .mk k n s ts => .agg [iI k, iI n, iS s, .tree 4 (encTs ts)]
def encTs : List Tm → List IV
  | [] => []
  | t :: ts => encT t :: encTs ts
end
theorem encTs_map : ∀ l : List Tm, encTs l = l.map encT
  | [] => rfl
  | t :: l => by simp [encTs, encTs_map l]
structure At where
  s : List UInt8
  ts : List Tm
structure Fa where
  id : Int
  a : At
  j : List Int
structure Ap where
  rule : Int
  heads : List Int
  gone : List Int
  made : List Int
  failed : Bool
  just : List Int
structure Me where
  facts : List Fa
  past : List Fa
  log : List Ap
  next : Int
  given : Int
abbrev iT (l : List Tm) : IV := .tree 4 (l.map encT)
def encA (a : At) : IV := .agg [iS a.s, iT a.ts]
def encF (f : Fa) : IV := .agg [iI f.id, iS f.a.s, iT f.a.ts, iL f.j]
def encP (x : Ap) : IV := .agg [iI x.rule, iL x.heads, iL x.gone, iL x.made, iB x.failed, iL x.just]
abbrev iFs (l : List Fa) : IV := .tree 4 (l.map encF)
abbrev iAs (l : List At) : IV := .tree 2 (l.map encA)
abbrev iPs (l : List Ap) : IV := .tree 6 (l.map encP)
def encM (m : Me) : IV := .agg [iFs m.facts, iFs m.past, iPs m.log, iI m.next, iI m.given]
theorem encT_mk (k n : Int) (s : List UInt8) (ts : List Tm) : encT (.mk k n s ts) = .agg [iI k, iI n, iS s, iT ts] := by simp [encT, encTs_map]
@[simp] theorem pure_raw (v : Value) : Pure (.raw v) := .raw v
@[simp] theorem pure_iL (l : List Int) : Pure (iL l) := by
  refine .tree 1 _ fun e he c hc => ?_
  obtain ⟨x, _, rfl⟩ := List.mem_map.1 he
  simp [cellsOf] at hc
  subst hc; exact .raw _
theorem pure_encT : ∀ t : Tm, Pure (encT t)
  | .mk k n s ts => by
    rw [encT_mk]
    refine .agg _ fun c hc => ?_
    simp at hc
    rcases hc with rfl | rfl | rfl | rfl
    · exact .raw _
    · exact .raw _
    · exact .raw _
    · refine .tree 4 _ fun e he c hc => ?_
      obtain ⟨x, hx, rfl⟩ := List.mem_map.1 he
      have := pure_encT x
      obtain ⟨k', n', s', ts'⟩ := x
      rw [encT_mk] at this hc
      cases this with
      | agg _ h => exact h c hc
  decreasing_by simp_wf; have := List.sizeOf_lt_of_mem hx; omega
theorem pure_tree {α : Type} (s : Nat) (enc : α → IV) (h : ∀ a, ∃ cs, enc a = .agg cs ∧ ∀ c ∈ cs, Pure c) (l : List α) : Pure (.tree s (l.map enc)) := by
  refine .tree s _ fun e he c hc => ?_
  obtain ⟨x, _, rfl⟩ := List.mem_map.1 he
  obtain ⟨cs, h1, h2⟩ := h x
  rw [h1] at hc
  exact h2 c hc
@[simp] theorem pure_iT (l : List Tm) : Pure (iT l) := pure_tree 4 encT (fun t => by
  have := pure_encT t
  obtain ⟨k', n', s', ts'⟩ := t
  rw [encT_mk] at this ⊢
  cases this with
  | agg _ h => exact ⟨_, rfl, h⟩) l
theorem pure_encA (a : At) : Pure (encA a) := .agg _ (by simp)
theorem pure_encF (a : Fa) : Pure (encF a) := .agg _ (by simp)
theorem pure_encP (a : Ap) : Pure (encP a) := .agg _ (by simp)
@[simp] theorem pure_iFs (l : List Fa) : Pure (iFs l) := pure_tree 4 encF (fun a => ⟨_, rfl, by simp⟩) l
@[simp] theorem pure_iAs (l : List At) : Pure (iAs l) := pure_tree 2 encA (fun a => ⟨_, rfl, by simp⟩) l
@[simp] theorem pure_iPs (l : List Ap) : Pure (iPs l) := pure_tree 6 encP (fun a => ⟨_, rfl, by simp⟩) l
theorem pure_encM (m : Me) : Pure (encM m) := .agg _ (by simp)
def CC : Cr := fun f new xs z => (f < Tryz.prog.funcs.size → PCall Tryz.prog false new f xs z ∧ Pure z ∧ tupOk Tryz.prog f z = true) ∧
  ∀ g, f = Tryz.prog.funcs.size + g → ∃ s es xs' es', xs = .tree s es :: xs' ∧ z = .tree s es' ∧ RCall Tryz.prog s g es xs' es'
theorem ccOk : CrOk Tryz.prog CC := fun _ _ _ _ h => h
theorem mixed : Tryz.prog.follows .mixedOrders = true := by kernel_rfl
theorem CC.of {n : Nat} {new : Bool} {f : FuncId} {fir : FIR} {args : List IV} {z : IV} {cfg : Cfg} (he : execFn Tryz.prog cfg n new f = fir) (hl : (Tryz.prog.funcs[f]?).map (·.params.size) = some args.length) (ht : tupOk Tryz.prog f z = true) (hp : ∀ x ∈ args, Pure x) (hz : Pure z)
    (hs : fir.sat Tryz.prog CC (· = z) [] args) : CC f new args z := by
  have hlt : f < Tryz.prog.funcs.size := by
    cases h : Tryz.prog.funcs[f]? with
    | none => rw [h] at hl; cases hl
    | some _ => exact (Array.getElem?_eq_some_iff.1 h).1
  exact ⟨fun _ => ⟨PCall.ofFIR mixed ccOk he hl hp hs, hz, ht⟩, fun g hg => absurd (hg ▸ hlt) (Nat.not_lt.2 (Nat.le_add_right _ _))⟩
theorem CC.ofRow {n s : Nat} {f : FuncId} {fir : FIR} {es es' xs : List IV} {cfg : Cfg} {new : Bool} (he : execRow Tryz.prog cfg n s f = fir) (hl : (Tryz.prog.funcs[f]?).map (·.params.size) = some (xs.length + 1))
    (hs : fir.sat Tryz.prog CC (· = .tree s es') [] (.tree s es :: xs)) : CC (Tryz.prog.funcs.size + f) new (.tree s es :: xs) (.tree s es') :=
  ⟨fun h => absurd h (Nat.not_lt.2 (Nat.le_add_right _ _)), fun g hg => ⟨s, es, xs, es', rfl, rfl, by rw [← Nat.add_left_cancel hg]; exact RCall.ofFIR mixed ccOk he hl hs⟩⟩
theorem und4 : Tryz.prog.underlying 4 = some .bool := by kernel_rfl
@[simp] theorem b_eql4 (a b : Bool) : denBin Tryz.prog .eql 4 (iB a) (iB b) = some (iB (a == b)) := b_eql _ _ und4 a b
@[simp] theorem b_neq4 (a b : Bool) : denBin Tryz.prog .neq 4 (iB a) (iB b) = some (iB (!(a == b))) := b_neq _ _ und4 a b
abbrev Sm {α : Type} (l : List α) : Prop := l.length ≤ 9223372036854775807
theorem wrapi {i : Nat} {n : Nat} (h : i < n) (hn : n ≤ 9223372036854775807) : IntKind.i64.wrap ((i : Int) + 1) = ((i + 1 : Nat) : Int) := by
  rw [wrap_in (by omega) (by omega)]; rfl
@[simp] theorem idx_iL {l : List Int} {i : Nat} {x : Int} (h : l[i]? = some x) : denIdx 1 (iL l) (iI (i : Nat)) = some (iI x) := denIdx_nat (by simp [h]) rfl
end Go.Proofs.YtggffkaadeagbaaGreat
