/- Plain facts on lists. No condition. -/
set_option linter.unusedVariables false
namespace Go.X
theorem take_step {α : Type} [Inhabited α] {xs ys : List α} {i : Nat} (h : xs.take i = ys.take i) (hx : i < xs.length) (hy : i < ys.length) (he : xs.getD i default = ys.getD i default) : xs.take (i + 1) = ys.take (i + 1) := by
  rw [List.take_succ_eq_append_getElem hx, List.take_succ_eq_append_getElem hy, h]
  simp [hx, hy] at he
  rw [he]
theorem take_all {α : Type} {xs ys : List α} {i : Nat} (h : xs.take i = ys.take i) (hx : ¬ (i : Int) < xs.length) (hl : xs.length = ys.length) : xs = ys := by
  rw [List.take_of_length_le (by omega), List.take_of_length_le (by omega)] at h
  exact h
theorem getD_mem {α : Type} [Inhabited α] {xs : List α} {i : Nat} (h : i < xs.length) : xs.getD i default ∈ xs := by
  simp [h]
/-- The first place that a test takes; -1 if there is none. -/
def findFirst {α : Type} (p : α → Bool) (xs : List α) : Int := match xs.findIdx? p with
  | some i => i
  | none => -1
theorem any_step {α : Type} [Inhabited α] {p : α → Bool} {xs : List α} {i : Nat} (h : (xs.take i).any p = false) (hx : i < xs.length) (hp : p (xs.getD i default) = false) : (xs.take (i + 1)).any p = false := by
  rw [List.take_succ_eq_append_getElem hx, List.any_append, h]
  simp [hx] at hp
  simp [hp]
theorem findFirst_here {α : Type} [Inhabited α] {p : α → Bool} {xs : List α} {i : Nat} (h : (xs.take i).any p = false) (hx : i < xs.length) (hp : p (xs.getD i default) = true) : findFirst p xs = i := by
  unfold findFirst
  have : xs.findIdx? p = some i := by
    rw [List.findIdx?_eq_some_iff_getElem]
    simp [hx] at hp
    refine ⟨hx, hp, fun j hj => ?_⟩
    have := List.any_eq_false.1 h xs[j] (by rw [List.mem_take_iff_getElem]; exact ⟨j, by omega, rfl⟩)
    simpa using this
  rw [this]
theorem findFirst_none {α : Type} {p : α → Bool} {xs : List α} {i : Nat} (h : (xs.take i).any p = false) (hx : ¬ (i : Int) < xs.length) : findFirst p xs = -1 := by
  rw [List.take_of_length_le (by omega)] at h
  unfold findFirst
  have : xs.findIdx? p = none := by
    rw [List.findIdx?_eq_none_iff]
    intro x hx
    have := List.any_eq_false.1 h x hx
    simpa using this
  rw [this]
theorem findFirst_any {α : Type} {p : α → Bool} {xs : List α} : decide ((0 : Int) ≤ findFirst p xs) = xs.any p := by
  unfold findFirst
  cases h : xs.findIdx? p with
  | none =>
    rw [List.findIdx?_eq_none_iff] at h
    have : xs.any p = false := List.any_eq_false.2 (fun x hx => by simp [h x hx])
    simp [this]
  | some i =>
    rw [List.findIdx?_eq_some_iff_getElem] at h
    obtain ⟨hi, hp, _⟩ := h
    have : xs.any p = true := List.any_eq_true.2 ⟨xs[i], List.getElem_mem hi, hp⟩
    simp only [this, decide_eq_true_eq]
    omega
end Go.X
