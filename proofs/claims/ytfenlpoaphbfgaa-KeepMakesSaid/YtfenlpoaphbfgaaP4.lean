/- A product of games, in plain lists. No condition. -/
import Derived.Test.YtfenlpoaphbfgaaP3
set_option linter.unusedVariables false
namespace Go.X
def pxa (an : List Int) (Ca Ka Sb Cb Kb s u w : Nat) : Int := an.getD ((s / Sb * Ca + u / Cb) * Ka + w / Kb) 0
def pxb (bn : List Int) (Sb Cb Kb s u w : Nat) : Int := bn.getD ((s % Sb * Cb + u % Cb) * Kb + w % Kb) 0
def pcell (an bn : List Int) (Ca Ka Sb Cb Kb s u w : Nat) : Int :=
  if pxa an Ca Ka Sb Cb Kb s u w < 0 ∨ pxb bn Sb Cb Kb s u w < 0 then -1 else pxa an Ca Ka Sb Cb Kb s u w * Sb + pxb bn Sb Cb Kb s u w
def pnext (an bn : List Int) (Ca Ka Sb Cb Kb C K n : Nat) : Int := pcell an bn Ca Ka Sb Cb Kb (n / K / C) (n / K % C) (n % K)
def pgood (ag bg : List Bool) (Sb s : Nat) : Bool := ag.getD (s / Sb) false && bg.getD (s % Sb) false
def product (a b : G) : G × Int :=
  if gcheck a ≠ 0 then (zeroG, gcheck a)
  else if gcheck b ≠ 0 then (zeroG, gcheck b)
  else if 400 < a.S * b.S ∨ 16 < a.C * b.C ∨ 16 < a.K * b.K then (zeroG, 2)
  else (⟨a.S * b.S, a.C * b.C, a.K * b.K,
      (List.range ((a.S * b.S).toNat * (a.C * b.C).toNat * (a.K * b.K).toNat)).map (pnext a.next b.next a.C.toNat a.K.toNat b.S.toNat b.C.toNat b.K.toNat (a.C * b.C).toNat (a.K * b.K).toNat),
      (List.range (a.S * b.S).toNat).map (pgood a.good b.good b.S.toNat)⟩, 0)
theorem leads_getD {next : List Int} {C K s u w : Nat} (hw : w < K) : (leads next C K s u).getD w default = next.getD ((s * C + u) * K + w) 0 := by
  unfold leads
  rw [List.getD_eq_getElem?_getD, List.getElem?_take, if_pos hw, List.getElem?_drop, List.getD_eq_getElem?_getD]
  rfl
theorem leads_length {next : List Int} {C K s v : Nat} (hl : (s * C + v) * K + K ≤ next.length) : (leads next C K s v).length = K := by
  unfold leads; rw [List.length_take, List.length_drop]; omega
theorem Ok.get {S C K : Nat} {next : List Int} {good : List Bool} (h : Ok S C K next good) (i : Nat) : -1 ≤ next.getD i 0 ∧ next.getD i 0 < S := by
  have h1 := h.s1
  rw [List.getD_eq_getElem?_getD]
  cases hi : next[i]? with
  | none => simp; omega
  | some x => exact h.inr x (List.mem_of_getElem? hi)
theorem div_lt' {s Sa Sb : Nat} (h : s < Sa * Sb) : s / Sb < Sa ∧ s % Sb < Sb := by
  have hp : 0 < Sb := by rcases Nat.eq_zero_or_pos Sb with rfl | h1 <;> simp_all
  exact ⟨Nat.div_lt_of_lt_mul (by rw [Nat.mul_comm]; exact h), Nat.mod_lt _ hp⟩
theorem pnext_at {an bn : List Int} {Ca Ka Sb Cb Kb C K s u w : Nat} (hu : u < C) (hw : w < K) :
    pnext an bn Ca Ka Sb Cb Kb C K ((s * C + u) * K + w) = pcell an bn Ca Ka Sb Cb Kb s u w := by
  have hk : 0 < K := by omega
  have hc : 0 < C := by omega
  have h1 : ((s * C + u) * K + w) / K = s * C + u := by
    rw [Nat.mul_comm, Nat.mul_add_div hk, Nat.div_eq_of_lt hw]; rfl
  have h2 : ((s * C + u) * K + w) % K = w := by
    rw [Nat.mul_comm, Nat.mul_add_mod, Nat.mod_eq_of_lt hw]
  have h3 : (s * C + u) / C = s := by
    rw [Nat.mul_comm, Nat.mul_add_div hc, Nat.div_eq_of_lt hu]; rfl
  have h4 : (s * C + u) % C = u := by
    rw [Nat.mul_comm, Nat.mul_add_mod, Nat.mod_eq_of_lt hu]
  unfold pnext
  rw [h1, h2, h3, h4]
theorem range_map_succ {α : Type} (f : Nat → α) (n : Nat) : (List.range (n + 1)).map f = (List.range n).map f ++ [f n] := by
  rw [List.range_succ, List.map_append]; rfl
/-- The first n of N have their values; the others are zero. -/
def fillTo {α : Type} (z : α) (f : Nat → α) (N n : Nat) : List α := (List.range N).map fun k => if k < n then f k else z
theorem fillTo_len {α : Type} {z : α} {f : Nat → α} {N n : Nat} : (fillTo z f N n).length = N := by simp [fillTo]
theorem fillTo_zero {α : Type} {z : α} {f : Nat → α} {N : Nat} : fillTo z f N 0 = List.replicate N z := by
  unfold fillTo
  simp only [Nat.not_lt_zero, if_false]
  rw [List.map_const', List.length_range]
theorem fillTo_full {α : Type} {z : α} {f : Nat → α} {N n : Nat} (h : N ≤ n) : fillTo z f N n = (List.range N).map f := by
  unfold fillTo
  refine List.map_congr_left fun k hk => ?_
  rw [if_pos (by have := List.mem_range.1 hk; omega)]
theorem fillTo_set {α : Type} {z : α} {f : Nat → α} {N n : Nat} : (fillTo z f N n).set n (f n) = fillTo z f N (n + 1) := by
  unfold fillTo
  refine List.ext_getElem? fun k => ?_
  rw [List.getElem?_set]
  by_cases hk : k < N
  · by_cases hkn : n = k
    · subst hkn
      simp [hk]
    · rw [if_neg hkn]
      simp [hk]
      by_cases h1 : k < n
      · rw [if_pos h1, if_pos (by omega)]
      · rw [if_neg h1, if_neg (by omega)]
  · by_cases hkn : n = k
    · subst hkn; simp [hk]
    · rw [if_neg hkn]; simp [hk]
end Go.X
