/- Repeated lists. No condition. -/
import Derived.Test.YtfenlpoaphbfgaaX16
set_option linter.unusedVariables false
namespace Go.X
theorem repeat_first {α : Type} (x z : α) (n : Nat) : splice (List.replicate n z) [x] 0 = List.replicate (min 1 n) x ++ List.replicate (n - min 1 n) z := by
  unfold splice
  cases n with
  | zero => simp
  | succ n => simp [List.replicate_succ, show min 1 (n + 1) = 1 by omega]
theorem repeat_step {α : Type} (x z : α) {m n : Nat} (h : m ≤ n) :
    splice (List.replicate m x ++ List.replicate (n - m) z) (((List.replicate m x ++ List.replicate (n - m) z).drop 0).take (m - 0)) m =
      List.replicate (m + min m (n - m)) x ++ List.replicate (n - (m + min m (n - m))) z := by
  unfold splice
  have e1 : (List.replicate m x ++ List.replicate (n - m) z).take m = List.replicate m x := by
    rw [List.take_append, List.length_replicate, Nat.sub_self, List.take_zero, List.append_nil, List.take_of_length_le (by simp)]
  have e2 : (List.replicate m x ++ List.replicate (n - m) z).length = n := by simp; omega
  rw [List.drop_zero, Nat.sub_zero, e1, e2, List.length_replicate, List.take_replicate, Nat.min_eq_left (Nat.min_le_left _ _), List.drop_append, List.length_replicate,
    List.drop_of_length_le (l := List.replicate m x) (by simp), List.nil_append, List.drop_replicate, List.replicate_append_replicate]
  congr 2
  omega
end Go.X
