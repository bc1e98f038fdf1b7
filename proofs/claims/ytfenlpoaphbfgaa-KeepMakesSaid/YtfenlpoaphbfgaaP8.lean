/- The safe set of a game, round after round. No condition. -/
import Derived.Test.YtfenlpoaphbfgaaP7
set_option linter.unusedVariables false
namespace Go.X
def ctlOf (next : List Int) (C K : Nat) (ins : List Bool) (s : Nat) : Int :=
  match (List.range C).find? (fun u => keepsP next C K ins s u) with
  | some u => u
  | none => -1
def ctlAt (next : List Int) (C K : Nat) (ins : List Bool) (ctl : List Int) (L : List Nat) : List Int := L.foldl (fun c s => c.set s (ctlOf next C K ins s)) ctl
def outsAt (next : List Int) (C K : Nat) (ins : List Bool) (L : List Nat) : List Nat := L.filter fun s => decide (ctlOf next C K ins s < 0)
def setAll {α : Type} (l : List α) (L : List Nat) (x : α) : List α := L.foldl (fun l s => l.set s x) l
def rounds (next : List Int) (C K : Nat) : Nat → Int → List Bool → List Int → List Int → List Bool × List Int × List Int
  | 0, _, ins, ctl, rnk => (ins, ctl, rnk)
  | f + 1, rank, ins, ctl, rnk =>
    if outsAt next C K ins (insL ins) = [] then (ins, ctlAt next C K ins ctl (insL ins), rnk)
    else rounds next C K f (rank + 1) (setAll ins (outsAt next C K ins (insL ins)) false) (ctlAt next C K ins ctl (insL ins)) (setAll rnk (outsAt next C K ins (insL ins)) rank)
def solved (S C K : Nat) (next : List Int) (good : List Bool) : List Bool × List Int × List Int :=
  let x := rounds next C K (S + 1) 1 good (List.replicate S (-1)) (List.replicate S 0)
  (x.1, x.2.1, setAll x.2.2 (insL x.1) (-1))
theorem ctlOf_at {next : List Int} {C K : Nat} {ins : List Bool} {s u : Nat} (hu : u < C) (h : keepsP next C K ins s u = true) (h0 : ∀ u' < u, keepsP next C K ins s u' = false) : ctlOf next C K ins s = u := by
  unfold ctlOf
  have : (List.range C).find? (fun u => keepsP next C K ins s u) = some u := by
    rw [List.find?_range_eq_some]
    exact ⟨h, List.mem_range.2 hu, fun j hj => by simp [h0 j hj]⟩
  rw [this]
theorem ctlOf_none {next : List Int} {C K : Nat} {ins : List Bool} {s : Nat} (h0 : ∀ u' < C, keepsP next C K ins s u' = false) : ctlOf next C K ins s = -1 := by
  unfold ctlOf
  have : (List.range C).find? (fun u => keepsP next C K ins s u) = none := by
    rw [List.find?_range_eq_none]
    exact fun i hi => by simp [h0 i hi]
  rw [this]
theorem take_snoc {α : Type} {L : List α} {i : Nat} {s : α} (h : L[i]? = some s) : L.take (i + 1) = L.take i ++ [s] := by
  rw [List.take_add_one, h]; rfl
theorem ctlAt_snoc {next : List Int} {C K : Nat} {ins : List Bool} {ctl : List Int} {L : List Nat} {s : Nat} : ctlAt next C K ins ctl (L ++ [s]) = (ctlAt next C K ins ctl L).set s (ctlOf next C K ins s) := by
  simp [ctlAt, List.foldl_append]
theorem ctlAt_len {next : List Int} {C K : Nat} {ins : List Bool} {L : List Nat} : ∀ {ctl : List Int}, (ctlAt next C K ins ctl L).length = ctl.length := by
  unfold ctlAt
  induction L with
  | nil => intro ctl; rfl
  | cons s L ih => intro ctl; rw [List.foldl_cons, ih, List.length_set]
theorem setAll_snoc {α : Type} {l : List α} {L : List Nat} {s : Nat} {x : α} : setAll l (L ++ [s]) x = (setAll l L x).set s x := by simp [setAll, List.foldl_append]
theorem setAll_len {α : Type} {L : List Nat} {x : α} : ∀ {l : List α}, (setAll l L x).length = l.length := by
  unfold setAll
  induction L with
  | nil => intro l; rfl
  | cons s L ih => intro l; rw [List.foldl_cons, ih, List.length_set]
theorem insL_mem {ins : List Bool} {i s : Nat} (h : (insL ins)[i]? = some s) : s < ins.length ∧ ins.getD s false = true := by
  have := List.mem_of_getElem? h
  unfold insL at this
  rw [List.mem_filter, List.mem_range] at this
  exact this
theorem outs_mem {next : List Int} {C K : Nat} {ins : List Bool} {L : List Nat} {i s : Nat} (h : (outsAt next C K ins L)[i]? = some s) : s ∈ L := by
  have := List.mem_of_getElem? h
  unfold outsAt at this
  exact (List.mem_filter.1 this).1
theorem count_set_le (l : List Bool) (s : Nat) : (l.set s false).count true ≤ l.count true := by
  by_cases h : s < l.length
  · rw [List.count_set h]; simp
  · rw [List.set_eq_of_length_le (by omega)]; exact Nat.le_refl _
theorem count_setAll_le (L : List Nat) : ∀ l : List Bool, (setAll l L false).count true ≤ l.count true := by
  induction L with
  | nil => intro l; exact Nat.le_refl _
  | cons s L ih => intro l; exact Nat.le_trans (ih (l.set s false)) (count_set_le l s)
theorem count_setAll_lt {L : List Nat} {l : List Bool} (h : L ≠ []) (hm : ∀ s ∈ L, s < l.length ∧ l.getD s false = true) : (setAll l L false).count true < l.count true := by
  cases L with
  | nil => exact absurd rfl h
  | cons s L =>
    obtain ⟨h1, h2⟩ := hm s List.mem_cons_self
    refine Nat.lt_of_le_of_lt (count_setAll_le L (l.set s false)) ?_
    rw [List.count_set h1]
    have h3 : l[s] = true := by rw [List.getD_eq_getElem?_getD, List.getElem?_eq_getElem h1] at h2; exact h2
    have h4 : 0 < l.count true := List.count_pos_iff.2 (h3 ▸ List.getElem_mem h1)
    simp [h3]
    omega
end Go.X
namespace Go.X
theorem outs_no {next : List Int} {C K : Nat} {ins : List Bool} {L : List Nat} {s : Nat} (h : ¬ ctlOf next C K ins s < 0) : outsAt next C K ins (L ++ [s]) = outsAt next C K ins L := by
  simp [outsAt, List.filter_append, h]
theorem outs_yes {next : List Int} {C K : Nat} {ins : List Bool} {L : List Nat} {s : Nat} (h : ctlOf next C K ins s < 0) : outsAt next C K ins (L ++ [s]) = outsAt next C K ins L ++ [s] := by
  simp [outsAt, List.filter_append, h]
theorem outs_le {next : List Int} {C K : Nat} {ins : List Bool} {i : Nat} : (outsAt next C K ins ((insL ins).take i)).length ≤ ins.length := by
  unfold outsAt
  refine Nat.le_trans (List.length_filter_le ..) ?_
  rw [List.length_take]
  refine Nat.le_trans (Nat.min_le_right ..) ?_
  unfold insL
  refine Nat.le_trans (List.length_filter_le ..) ?_
  simp
end Go.X
