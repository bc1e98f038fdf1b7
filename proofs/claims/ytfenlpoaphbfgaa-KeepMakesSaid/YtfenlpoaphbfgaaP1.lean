/- Games, in plain numbers and lists. No condition. -/
import Derived.Test.YtfenlpoaphbfgaaP0
set_option linter.unusedVariables false
namespace Go.X
structure G where
  S : Int
  C : Int
  K : Int
  next : List Int
  good : List Bool
def gcheck (g : G) : Int :=
  if g.S < 1 ∨ 400 < g.S ∨ g.C < 1 ∨ 16 < g.C ∨ g.K < 1 ∨ 16 < g.K then 2
  else if (g.next.length : Int) ≠ g.S * g.C * g.K ∨ (g.good.length : Int) ≠ g.S then 1
  else if g.next.any (fun n => decide (n < -1) || decide (g.S ≤ n)) = true then 6 else 0
theorem mul_bd {a b m n : Int} (h1 : 1 ≤ a) (h2 : a ≤ m) (h3 : 1 ≤ b) (h4 : b ≤ n) : 1 ≤ a * b ∧ a * b ≤ m * n := by
  have e1 : 1 * 1 ≤ a * b := Int.mul_le_mul h1 h3 (by omega) (by omega)
  have e2 : a * b ≤ m * n := Int.mul_le_mul h2 h4 (by omega) (by omega)
  omega
theorem g_bd {S C K : Int} (h : ¬ (((((S < 1 ∨ 400 < S) ∨ C < 1) ∨ 16 < C) ∨ K < 1) ∨ 16 < K)) : 1 ≤ S * C ∧ S * C ≤ 6400 ∧ 1 ≤ S * C * K ∧ S * C * K ≤ 102400 := by
  have h1 := mul_bd (a := S) (b := C) (m := 400) (n := 16) (by omega) (by omega) (by omega) (by omega)
  have h2 := mul_bd (a := S * C) (b := K) (m := 6400) (n := 16) (by omega) (by omega) (by omega) (by omega)
  omega
/-- What is known of a valid game. -/
structure Ok (S C K : Nat) (next : List Int) (good : List Bool) : Prop where
  s1 : 1 ≤ S
  s2 : S ≤ 400
  c1 : 1 ≤ C
  c2 : C ≤ 16
  k1 : 1 ≤ K
  k2 : K ≤ 16
  len : next.length = S * C * K
  glen : good.length = S
  inr : ∀ n ∈ next, -1 ≤ n ∧ n < S
theorem gcheck_ok {g : G} (h : gcheck g = 0) : ∃ S C K : Nat, g.S = S ∧ g.C = C ∧ g.K = K ∧ Ok S C K g.next g.good := by
  unfold gcheck at h
  split at h
  · omega
  · rename_i h1
    split at h
    · omega
    · rename_i h2
      split at h
      · omega
      · rename_i h3
        obtain ⟨S, hS⟩ := Int.eq_ofNat_of_zero_le (a := g.S) (by omega)
        obtain ⟨C, hC⟩ := Int.eq_ofNat_of_zero_le (a := g.C) (by omega)
        obtain ⟨K, hK⟩ := Int.eq_ofNat_of_zero_le (a := g.K) (by omega)
        rw [hS, hC, hK] at h1 h2
        have hl : (g.next.length : Int) = ((S * C * K : Nat) : Int) := by
          have : (g.next.length : Int) = S * C * K := by omega
          rw [this]; simp
        refine ⟨S, C, K, hS, hC, hK, by omega, by omega, by omega, by omega, by omega, by omega, by omega, by omega, fun n hn => ?_⟩
        have h4 : g.next.any (fun n => decide (n < -1) || decide (g.S ≤ n)) = false := by simpa using h3
        have h5 := List.any_eq_false.1 h4 n hn
        simp only [hS, Bool.or_eq_true, decide_eq_true_eq] at h5
        omega
theorem Ok.sc {S C K : Nat} {next : List Int} {good : List Bool} (h : Ok S C K next good) : 1 ≤ S * C ∧ S * C ≤ 6400 ∧ 1 ≤ S * C * K ∧ S * C * K ≤ 102400 := by
  have h1 : S * C ≤ 400 * 16 := Nat.mul_le_mul h.s2 h.c2
  have h2 : S * C * K ≤ 6400 * 16 := Nat.mul_le_mul (by omega) h.k2
  have h3 : 0 < S * C := Nat.mul_pos h.s1 h.c1
  have h4 : 0 < S * C * K := Nat.mul_pos h3 h.k1
  omega
theorem lead_le {S C K s u : Nat} (hs : s < S) (hu : u < C) : s * C ≤ S * C ∧ s * C + u < S * C ∧ (s * C + u) * K + K ≤ S * C * K := by
  have h1 : (s + 1) * C ≤ S * C := Nat.mul_le_mul_right _ hs
  rw [Nat.add_mul] at h1
  have h2 : (s * C + u + 1) * K ≤ S * C * K := Nat.mul_le_mul_right _ (by omega)
  rw [Nat.add_mul] at h2
  omega
theorem lead_int (s u C K : Nat) : ((s : Int) * C + u) * K = (((s * C + u) * K : Nat) : Int) := by simp
/-- The states that shocks lead to. -/
def leads (next : List Int) (C K s u : Nat) : List Int := (next.drop ((s * C + u) * K)).take K
end Go.X
