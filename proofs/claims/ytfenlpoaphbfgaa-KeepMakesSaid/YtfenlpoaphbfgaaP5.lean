/- The reference's product of games. No condition. -/
import Derived.Test.YtfenlpoaphbfgaaP4
set_option linter.unusedVariables false
namespace Go.X
theorem pair_div {s Sb t : Nat} (ht : t < Sb) : (s * Sb + t) / Sb = s ∧ (s * Sb + t) % Sb = t := by
  have hp : 0 < Sb := by omega
  constructor
  · rw [Nat.mul_comm, Nat.mul_add_div hp, Nat.div_eq_of_lt ht]; rfl
  · rw [Nat.mul_comm, Nat.mul_add_mod, Nat.mod_eq_of_lt ht]
theorem pair_lt {s Sa Sb t : Nat} (hs : s < Sa) (ht : t < Sb) : s * Sb + t < Sa * Sb := by
  have h1 : (s + 1) * Sb ≤ Sa * Sb := Nat.mul_le_mul_right _ hs
  rw [Nat.add_mul] at h1
  omega
theorem pgood_at {ag bg : List Bool} {Sb s t : Nat} (ht : t < Sb) : pgood ag bg Sb (s * Sb + t) = (ag.getD s false && bg.getD t false) := by
  unfold pgood
  rw [(pair_div ht).1, (pair_div ht).2]
theorem pcell_at {an bn : List Int} {Ca Ka Sb Cb Kb s t u v w x : Nat} (ht : t < Sb) (hv : v < Cb) (hx : x < Kb) :
    pcell an bn Ca Ka Sb Cb Kb (s * Sb + t) (u * Cb + v) (w * Kb + x) =
      if an.getD ((s * Ca + u) * Ka + w) 0 < 0 ∨ bn.getD ((t * Cb + v) * Kb + x) 0 < 0 then -1 else an.getD ((s * Ca + u) * Ka + w) 0 * Sb + bn.getD ((t * Cb + v) * Kb + x) 0 := by
  unfold pcell pxa pxb
  rw [(pair_div ht).1, (pair_div ht).2, (pair_div hv).1, (pair_div hv).2, (pair_div hx).1, (pair_div hx).2]
theorem mul_bd2 {m : Int} {Sa Sb : Nat} (h1 : -1 ≤ m) (h2 : m < Sa) (ha : Sa ≤ 400) (hb : Sb ≤ 400) : -400 ≤ m * Sb ∧ m * Sb ≤ 160000 := by
  rcases Int.lt_or_le m 0 with h | h
  · have : m = -1 := by omega
    subst this; omega
  · have h3 := Int.mul_nonneg h (by omega : (0 : Int) ≤ Sb)
    have h4 : m * Sb ≤ 400 * 400 := Int.mul_le_mul (by omega) (by omega) (by omega) (by omega)
    omega
end Go.X
