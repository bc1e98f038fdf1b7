/- Safe sets, in plain lists. No condition. -/
import Derived.Test.YtfenlpoaphbfgaaP6
import Derived.Test.YtfenlpoaphbfgaaP5
set_option linter.unusedVariables false
namespace Go.X
def bad (ins : List Bool) (n : Int) : Bool := decide (n < 0) || !(ins.getD n.toNat false)
def keepsP (next : List Int) (C K : Nat) (ins : List Bool) (s u : Nat) : Bool := !((leads next C K s u).any (bad ins))
def insL (ins : List Bool) : List Nat := (List.range ins.length).filter fun s => ins.getD s false
theorem filter_at {p : Nat → Bool} {n s : Nat} (hs : s < n) (hp : p s = true) :
    ((List.range s).filter p).length < ((List.range n).filter p).length ∧ ((List.range n).filter p)[((List.range s).filter p).length]? = some s := by
  have h1 : List.range n = List.range s ++ s :: (List.range' (s + 1) (n - s - 1)) := by
    rw [List.range_eq_range', List.range_eq_range', ← List.range'_succ]
    have := List.range'_append_1 (s := 0) (m := s) (n := n - s - 1 + 1)
    rw [Nat.zero_add] at this
    rw [this]
    congr 1
    omega
  rw [h1, List.filter_append, List.filter_cons, if_pos hp]
  constructor
  · simp
  · rw [List.getElem?_append_right (Nat.le_refl _)]
    simp
theorem filter_succ {p : Nat → Bool} {s : Nat} : ((List.range (s + 1)).filter p).length = ((List.range s).filter p).length + if p s = true then 1 else 0 := by
  rw [List.range_succ, List.filter_append, List.length_append]
  by_cases h : p s = true <;> simp [h]
end Go.X
