/- A game without a control; a product of games. No condition. -/
import Derived.Test.YtfenlpoaphbfgaaP1
set_option linter.unusedVariables false
namespace Go.X
def zeroG : G := ⟨0, 0, 0, [], []⟩
def cellW (next : List Int) (C K u s v : Nat) : List Int := if v = u then [] else leads next C K s v
def rowW (next : List Int) (C K u s : Nat) : List Int := (List.range C).flatMap (cellW next C K u s)
def rowsW (next : List Int) (C K u s : Nat) : List Int := (List.range s).flatMap (rowW next C K u)
def without (g : G) (u : Int) : G × Int :=
  if gcheck g ≠ 0 then (zeroG, gcheck g)
  else if u < 0 ∨ g.C ≤ u then (zeroG, 1)
  else if g.C = 1 then (zeroG, 2)
  else (⟨g.S, g.C - 1, g.K, rowsW g.next g.C.toNat g.K.toNat u.toNat g.S.toNat, g.good⟩, 0)
theorem without_bad {g : G} {u : Int} (h : gcheck g ≠ 0) : without g u = (zeroG, gcheck g) := by rw [without, if_pos h]
theorem leads_len (next : List Int) (C K s u : Nat) : (leads next C K s u).length ≤ K := by unfold leads; rw [List.length_take]; omega
theorem flat_le {α : Type} (f : Nat → List α) (k : Nat) (h : ∀ i, (f i).length ≤ k) : ∀ n, ((List.range n).flatMap f).length ≤ n * k
  | 0 => by simp
  | n + 1 => by
    have := flat_le f k h n
    have h2 := h n
    rw [List.range_succ, List.flatMap_append, List.length_append]
    simp only [List.flatMap_cons, List.flatMap_nil, List.append_nil]
    rw [Nat.add_mul]
    omega
theorem flat_succ {α : Type} (f : Nat → List α) (n : Nat) : (List.range (n + 1)).flatMap f = (List.range n).flatMap f ++ f n := by
  rw [List.range_succ, List.flatMap_append]; simp
theorem cellW_len (next : List Int) (C K u s v : Nat) : (cellW next C K u s v).length ≤ K := by
  unfold cellW; split
  · simp
  · exact leads_len ..
theorem rowW_len (next : List Int) (C K u s : Nat) : (rowW next C K u s).length ≤ C * K := flat_le _ K (fun v => cellW_len next C K u s v) C
theorem rowsW_len (next : List Int) (C K u s : Nat) : (rowsW next C K u s).length ≤ s * (C * K) := flat_le _ (C * K) (fun s => rowW_len next C K u s) s
theorem partW_len {S C K : Nat} {next : List Int} {good : List Bool} (ok : Ok S C K next good) (u : Nat) {s v : Nat} (hs : s < S) (hv : v < C) :
    (rowsW next C K u s ++ (List.range v).flatMap (cellW next C K u s)).length ≤ 204800 := by
  have h1 := rowsW_len next C K u s
  have h2 := flat_le (cellW next C K u s) K (fun v => cellW_len next C K u s v) v
  have h3 := ok.sc
  have h4 : s * (C * K) ≤ S * (C * K) := Nat.mul_le_mul_right _ (by omega)
  have h5 : v * K ≤ C * K := Nat.mul_le_mul_right _ (by omega)
  have h6 : S * (C * K) = S * C * K := (Nat.mul_assoc ..).symm
  have h7 : 1 * (C * K) ≤ S * (C * K) := Nat.mul_le_mul_right _ ok.s1
  rw [List.length_append]
  omega
end Go.X
