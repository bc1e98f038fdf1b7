/- The reference's game without a control. No condition. -/
import Derived.Test.YtfenlpoaphbfgaaP2
set_option linter.unusedVariables false
namespace Go.X
theorem leads_succ {next : List Int} {C K s v w : Nat} (hw : w < K) (hl : (s * C + v) * K + K ≤ next.length) :
    (leads next C K s v).take (w + 1) = (leads next C K s v).take w ++ [next.getD ((s * C + v) * K + w) 0] := by
  have hlen : (leads next C K s v).length = K := by unfold leads; rw [List.length_take, List.length_drop]; omega
  rw [List.take_add_one]
  congr 1
  have h1 : (leads next C K s v)[w]? = next[(s * C + v) * K + w]? := by unfold leads; rw [List.getElem?_take, if_pos hw, List.getElem?_drop]
  rw [h1, List.getElem?_eq_getElem (by omega), Option.toList_some, List.getD_eq_getElem?_getD, List.getElem?_eq_getElem (by omega), Option.getD_some]
theorem leads_full {next : List Int} {C K s v : Nat} : (leads next C K s v).take K = leads next C K s v := List.take_of_length_le (leads_len ..)
end Go.X
