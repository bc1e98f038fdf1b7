/- The example of the chapter. No condition. -/
import Derived.Test.YtfenlpoaphbfgaaP8
set_option linter.unusedVariables false
namespace Go.X
def solveG (g : G) : List Bool × List Int × List Int := if gcheck g ≠ 0 then ([], [], []) else solved g.S.toNat g.C.toNat g.K.toNat g.next g.good
def exG : G := ⟨3, 2, 2, [0, 1, 0, 0, 1, 2, 0, 1, 2, 2, 2, 2], [true, true, false]⟩
theorem ex1 : gcheck exG = 0 := by decide +kernel
theorem ex2 : (without exG 1).2 = 0 := by decide +kernel
theorem ex3 : gcheck (without exG 1).1 = 0 := by decide +kernel
theorem ex4 : (product exG exG).2 = 0 := by decide +kernel
theorem ex5 : gcheck (product exG exG).1 = 0 := by decide +kernel
theorem ex6 : (solveG exG).1 = [true, true, false] := by decide +kernel
theorem ex7 : (solveG exG).2.1 = [0, 1, -1] := by decide +kernel
theorem ex8 : (solveG exG).2.2 = [-1, -1, 0] := by decide +kernel
theorem ex9 : (solveG (without exG 1).1).2.2 = [2, 1, 0] := by decide +kernel
theorem ex10 : (solveG (product exG exG).1).1.count true = 4 := by decide +kernel
theorem count_snoc {l : List Bool} {i : Nat} (hi : i < l.length) : (l.take (i + 1)).count true = (l.take i).count true + if l.getD i default = true then 1 else 0 := by
  rw [List.take_add_one, List.getElem?_eq_getElem hi, Option.toList_some, List.count_append, List.getD_eq_getElem?_getD, List.getElem?_eq_getElem hi, Option.getD_some]
  congr 1
  cases l[i] <;> simp
end Go.X
