/- A part of the proof: a small program logic, plain laws and contracts of functions, each proved by a walk through its operations. No condition but those that stand in each theorem. -/
import Derived.Calls
import Derived.IntWalk
import Derived.KernelRfl
import Derived.Laws.Sem
import Derived.Laws.World
import Derived.Orders
/- Plain facts on lists. No condition. -/
set_option linter.unusedVariables false
namespace Go.X
theorem orMap {a b c d : Prop} (h : a ∨ b) (f : a → c) (g : b → d) : c ∨ d := h.elim (fun x => Or.inl (f x)) (fun x => Or.inr (g x))
theorem take_step {α : Type} [Inhabited α] {xs ys : List α} {i : Nat} (h : xs.take i = ys.take i) (hx : i < xs.length) (hy : i < ys.length) (he : xs.getD i default = ys.getD i default) : xs.take (i + 1) = ys.take (i + 1) := by
  rw [List.take_succ_eq_append_getElem hx, List.take_succ_eq_append_getElem hy, h]
  simp [hx, hy] at he
  rw [he]
theorem take_all {α : Type} {xs ys : List α} {i : Nat} (h : xs.take i = ys.take i) (hx : ¬ (i : Int) < xs.length) (hl : xs.length = ys.length) : xs = ys := by
  rw [List.take_of_length_le (by omega), List.take_of_length_le (by omega)] at h
  exact h
theorem getD_mem {α : Type} [Inhabited α] {xs : List α} {i : Nat} (h : i < xs.length) : xs.getD i default ∈ xs := by
  simp [h]
/-- The first place that a test takes; -1 if there is none. -/
def findFirst {α : Type} (p : α → Bool) (xs : List α) : Int := match xs.findIdx? p with
  | some i => i
  | none => -1
theorem any_step {α : Type} [Inhabited α] {p : α → Bool} {xs : List α} {i : Nat} (h : (xs.take i).any p = false) (hx : i < xs.length) (hp : p (xs.getD i default) = false) : (xs.take (i + 1)).any p = false := by
  rw [List.take_succ_eq_append_getElem hx, List.any_append, h]
  simp [hx] at hp
  simp [hp]
theorem findFirst_here {α : Type} [Inhabited α] {p : α → Bool} {xs : List α} {i : Nat} (h : (xs.take i).any p = false) (hx : i < xs.length) (hp : p (xs.getD i default) = true) : findFirst p xs = i := by
  unfold findFirst
  have : xs.findIdx? p = some i := by
    rw [List.findIdx?_eq_some_iff_getElem]
    simp [hx] at hp
    refine ⟨hx, hp, fun j hj => ?_⟩
    have := List.any_eq_false.1 h xs[j] (by rw [List.mem_take_iff_getElem]; exact ⟨j, by omega, rfl⟩)
    simpa using this
  rw [this]
theorem findFirst_none {α : Type} {p : α → Bool} {xs : List α} {i : Nat} (h : (xs.take i).any p = false) (hx : ¬ (i : Int) < xs.length) : findFirst p xs = -1 := by
  rw [List.take_of_length_le (by omega)] at h
  unfold findFirst
  have : xs.findIdx? p = none := by
    rw [List.findIdx?_eq_none_iff]
    intro x hx
    have := List.any_eq_false.1 h x hx
    simpa using this
  rw [this]
theorem findFirst_any {α : Type} {p : α → Bool} {xs : List α} : decide ((0 : Int) ≤ findFirst p xs) = xs.any p := by
  unfold findFirst
  cases h : xs.findIdx? p with
  | none =>
    rw [List.findIdx?_eq_none_iff] at h
    have : xs.any p = false := List.any_eq_false.2 (fun x hx => by simp [h x hx])
    simp [this]
  | some i =>
    rw [List.findIdx?_eq_some_iff_getElem] at h
    obtain ⟨hi, hp, _⟩ := h
    have : xs.any p = true := List.any_eq_true.2 ⟨xs[i], List.getElem_mem hi, hp⟩
    simp only [this, decide_eq_true_eq]
    omega
end Go.X

/- Halls, in plain numbers and lists. No condition. -/
set_option linter.unusedVariables false
namespace Go.X
structure HRoom where
  store : Int
  limit : Int
structure HWall where
  a : Int
  b : Int
  pass : Int
structure HBranch where
  up : Int
  opn : Int
  leak : Int
structure HCooler where
  room : Int
  br : Int
  gain : Int
  carry : Int
  supply : Int
instance : Inhabited HRoom := ⟨⟨0, 0⟩⟩
instance : Inhabited HWall := ⟨⟨0, 0, 0⟩⟩
instance : Inhabited HBranch := ⟨⟨0, 0, 0⟩⟩
instance : Inhabited HCooler := ⟨⟨0, 0, 0, 0, 0⟩⟩
structure Hall where
  rooms : List HRoom
  walls : List HWall
  branches : List HBranch
  coolers : List HCooler
structure HCase where
  load : List Int
  out : Int
  pump : Int
def sumTo (f : Nat → Int) : Nat → Int
  | 0 => 0
  | n + 1 => sumTo f n + f n
def inP (n m : Int) : Bool := decide (0 ≤ n) && decide (n ≤ m)
def ixP (n : Int) (len : Nat) : Bool := decide (0 ≤ n) && decide (n < (len : Int))
def okRoom (x : HRoom) : Bool := (decide (1 ≤ x.store) && decide (x.store ≤ 1000000)) && inP x.limit 1000000
def okWall (n : Nat) (x : HWall) : Bool := ((ixP x.a n && (decide (x.b = -1) || ixP x.b n)) && decide (x.a ≠ x.b)) && inP x.pass 100000
def okBranch (i : Nat) (x : HBranch) : Bool := ((if i = 0 then decide (x.up = -1) else ixP x.up i) && inP x.opn 100) && inP x.leak 100000
def okCooler (n m : Nat) (x : HCooler) : Bool := (((ixP x.room n && ixP x.br m) && inP x.gain 100000) && inP x.carry 1000) && inP x.supply 1000000
/-- All of the first n. -/
def allTo (p : Nat → Bool) (n : Nat) : Bool := (List.range n).all p
theorem allTo_succ {p : Nat → Bool} {n : Nat} : allTo p (n + 1) = (allTo p n && p n) := by
  unfold allTo; rw [List.range_succ, List.all_append]; simp
theorem allTo_false {p : Nat → Bool} {n s : Nat} (hs : s < n) (h : p s = false) : allTo p n = false := by
  unfold allTo
  rw [List.all_eq_false]
  exact ⟨s, List.mem_range.2 hs, by simp [h]⟩
theorem allTo_at {p : Nat → Bool} {n s : Nat} (h : allTo p n = true) (hs : s < n) : p s = true := by
  unfold allTo at h
  rw [List.all_eq_true] at h
  exact h s (List.mem_range.2 hs)
def roomsOk (h : Hall) (n : Nat) : Bool := allTo (fun i => okRoom (h.rooms.getD i default)) n
def wallsOk (h : Hall) (n : Nat) : Bool := allTo (fun i => okWall h.rooms.length (h.walls.getD i default)) n
def branchesOk (h : Hall) (n : Nat) : Bool := allTo (fun i => okBranch i (h.branches.getD i default)) n
def coolersOk (h : Hall) (n : Nat) : Bool := allTo (fun i => okCooler h.rooms.length h.branches.length (h.coolers.getD i default)) n
def allowedP (h : Hall) : Bool := ((roomsOk h h.rooms.length && wallsOk h h.walls.length) && branchesOk h h.branches.length) && coolersOk h h.coolers.length
def wslope (h : Hall) (i : Nat) (k : Nat) : Int := if (h.walls.getD k default).a = i ∨ (h.walls.getD k default).b = i then (h.walls.getD k default).pass else 0
def cslope (h : Hall) (i : Nat) (k : Nat) : Int := if (h.coolers.getD k default).room = i then (h.coolers.getD k default).gain else 0
def slope (h : Hall) (i : Nat) : Int := sumTo (wslope h i) h.walls.length + sumTo (cslope h i) h.coolers.length
def hcheck (h : Hall) : Int :=
  if (((((h.rooms.length : Int) < 1 ∨ 8 < (h.rooms.length : Int)) ∨ 16 < (h.walls.length : Int)) ∨ 16 < (h.branches.length : Int)) ∨ 16 < (h.coolers.length : Int)) then 2
  else if allowedP h = false then 6
  else if allTo (fun i => decide (slope h i ≤ (h.rooms.getD i default).store)) h.rooms.length = true then 0 else 70
/-- What is known of a valid hall. -/
structure HOk (h : Hall) : Prop where
  r1 : 1 ≤ h.rooms.length
  r2 : h.rooms.length ≤ 8
  w2 : h.walls.length ≤ 16
  b2 : h.branches.length ≤ 16
  c2 : h.coolers.length ≤ 16
  room : ∀ i, i < h.rooms.length → 1 ≤ (h.rooms.getD i default).store ∧ (h.rooms.getD i default).store ≤ 1000000 ∧ 0 ≤ (h.rooms.getD i default).limit ∧ (h.rooms.getD i default).limit ≤ 1000000
  wall : ∀ i, i < h.walls.length → (0 ≤ (h.walls.getD i default).a ∧ (h.walls.getD i default).a < h.rooms.length) ∧ ((h.walls.getD i default).b = -1 ∨ (0 ≤ (h.walls.getD i default).b ∧ (h.walls.getD i default).b < h.rooms.length)) ∧
    (h.walls.getD i default).a ≠ (h.walls.getD i default).b ∧ 0 ≤ (h.walls.getD i default).pass ∧ (h.walls.getD i default).pass ≤ 100000
  branch : ∀ i, i < h.branches.length → (if i = 0 then (h.branches.getD i default).up = -1 else 0 ≤ (h.branches.getD i default).up ∧ (h.branches.getD i default).up < i) ∧ (0 ≤ (h.branches.getD i default).opn ∧ (h.branches.getD i default).opn ≤ 100) ∧
    0 ≤ (h.branches.getD i default).leak ∧ (h.branches.getD i default).leak ≤ 100000
  cooler : ∀ i, i < h.coolers.length → (0 ≤ (h.coolers.getD i default).room ∧ (h.coolers.getD i default).room < h.rooms.length) ∧ (0 ≤ (h.coolers.getD i default).br ∧ (h.coolers.getD i default).br < h.branches.length) ∧
    (0 ≤ (h.coolers.getD i default).gain ∧ (h.coolers.getD i default).gain ≤ 100000) ∧ (0 ≤ (h.coolers.getD i default).carry ∧ (h.coolers.getD i default).carry ≤ 1000) ∧ 0 ≤ (h.coolers.getD i default).supply ∧ (h.coolers.getD i default).supply ≤ 1000000
  slope : ∀ i, i < h.rooms.length → X.slope h i ≤ (h.rooms.getD i default).store
theorem hcheck_ok {h : Hall} (hc : hcheck h = 0) : HOk h := by
  unfold hcheck at hc
  split at hc
  · omega
  · rename_i h1
    split at hc
    · omega
    · rename_i h2
      split at hc
      · rename_i h3
        simp only [Bool.not_eq_false, allowedP, Bool.and_eq_true] at h2
        obtain ⟨⟨⟨a1, a2⟩, a3⟩, a4⟩ := h2
        refine ⟨by omega, by omega, by omega, by omega, by omega, fun i hi => ?_, fun i hi => ?_, fun i hi => ?_, fun i hi => ?_, fun i hi => ?_⟩
        · have := allTo_at a1 hi
          simp only [okRoom, inP, Bool.and_eq_true, decide_eq_true_eq] at this
          omega
        · have := allTo_at a2 hi
          simp only [okWall, inP, ixP, Bool.and_eq_true, Bool.or_eq_true, decide_eq_true_eq] at this
          omega
        · have := allTo_at a3 hi
          simp only [okBranch, inP, ixP, Bool.and_eq_true, decide_eq_true_eq] at this
          by_cases h0 : i = 0
          · subst h0; simp only [if_true, decide_eq_true_eq] at this ⊢; omega
          · rw [if_neg h0] at this ⊢
            simp only [Bool.and_eq_true, decide_eq_true_eq] at this
            omega
        · have := allTo_at a4 hi
          simp only [okCooler, inP, ixP, Bool.and_eq_true, decide_eq_true_eq] at this
          omega
        · have := allTo_at h3 hi
          simpa using this
      · omega
/-- The sum of what is open below a branch. -/
def sumOpen (h : Hall) (u : Int) (n : Nat) : Int := sumTo (fun k => if (h.branches.getD k default).up = u then (h.branches.getD k default).opn else 0) n
def feedOf (h : Hall) (pump : Int) (out : List Int) (n : Nat) : Int :=
  if n = 0 then pump
  else if 0 < sumOpen h (h.branches.getD n default).up h.branches.length then
    out.getD (h.branches.getD n default).up.toNat 0 * (h.branches.getD n default).opn / sumOpen h (h.branches.getD n default).up h.branches.length
  else 0
def flowsTo (h : Hall) (pump : Int) : Nat → List Int
  | 0 => []
  | n + 1 => flowsTo h pump n ++ [max (feedOf h pump (flowsTo h pump n) n - (h.branches.getD n default).leak) 0]
def flowsL (h : Hall) (pump : Int) : List Int := flowsTo h pump h.branches.length
def onBr (h : Hall) (b : Int) (n : Nat) : Int := sumTo (fun k => if (h.coolers.getD k default).br = b then 1 else 0) n
def takenAt (h : Hall) (t f : List Int) (k : Nat) : Int :=
  min (max ((h.coolers.getD k default).gain * (t.getD (h.coolers.getD k default).room.toNat 0 - (h.coolers.getD k default).supply)) 0)
    ((h.coolers.getD k default).carry * f.getD (h.coolers.getD k default).br.toNat 0 / onBr h (h.coolers.getD k default).br h.coolers.length)
def takenL (h : Hall) (t : List Int) (pump : Int) : List Int := (List.range h.coolers.length).map (takenAt h t (flowsL h pump))
def wheat (h : Hall) (t : List Int) (out : Int) (i : Nat) (k : Nat) : Int :=
  if (h.walls.getD k default).a = i then (h.walls.getD k default).pass * ((if 0 ≤ (h.walls.getD k default).b then t.getD (h.walls.getD k default).b.toNat 0 else out) - t.getD i 0)
  else if (h.walls.getD k default).b = i then (h.walls.getD k default).pass * (t.getD (h.walls.getD k default).a.toNat 0 - t.getD i 0)
  else 0
def cheat (h : Hall) (taken : List Int) (i : Nat) (k : Nat) : Int := if (h.coolers.getD k default).room = i then - taken.getD k 0 else 0
def heatOf (h : Hall) (t : List Int) (c : HCase) (i : Nat) : Int :=
  (h.rooms.getD i default).store * t.getD i 0 + c.load.getD i 0 + sumTo (wheat h t c.out i) h.walls.length + sumTo (cheat h (takenL h t c.pump) i) h.coolers.length
def nextAt (h : Hall) (t : List Int) (c : HCase) (i : Nat) : Int := min (heatOf h t c i / (h.rooms.getD i default).store) 1000000
def nextL (h : Hall) (t : List Int) (c : HCase) : List Int := (List.range h.rooms.length).map (nextAt h t c)
def warmP (h : Hall) (t : List Int) : Int := if (t.length : Int) ≠ h.rooms.length then 1 else if t.any (fun n => !inP n 1000000) = true then 6 else 0
def casedP (h : Hall) (c : HCase) : Int := if (c.load.length : Int) ≠ h.rooms.length then 1 else if (c.load.any (fun n => !inP n 10000000) = true ∨ ¬ inP c.out 1000000 = true) ∨ ¬ inP c.pump 100000 = true then 6 else 0
def bothP (l : List Int) : Int := if 1 ∈ l then 1 else if 6 ∈ l then 6 else 0
def nextG (h : Hall) (t : List Int) (c : HCase) : List Int × Int :=
  if hcheck h ≠ 0 then ([], hcheck h) else if bothP [warmP h t, casedP h c] ≠ 0 then ([], bothP [warmP h t, casedP h c]) else (nextL h t c, 0)
structure TOk (h : Hall) (t : List Int) : Prop where
  len : t.length = h.rooms.length
  rng : ∀ i, i < t.length → 0 ≤ t.getD i 0 ∧ t.getD i 0 ≤ 1000000
structure COk (h : Hall) (c : HCase) : Prop where
  len : c.load.length = h.rooms.length
  rng : ∀ i, i < c.load.length → 0 ≤ c.load.getD i 0 ∧ c.load.getD i 0 ≤ 10000000
  out : 0 ≤ c.out ∧ c.out ≤ 1000000
  pump : 0 ≤ c.pump ∧ c.pump ≤ 100000
theorem any_no {l : List Int} {m : Int} (h : ¬ l.any (fun n => !inP n m) = true) (i : Nat) (hi : i < l.length) : 0 ≤ l.getD i 0 ∧ l.getD i 0 ≤ m := by
  have h1 : l.any (fun n => !inP n m) = false := by simpa using h
  have := List.any_eq_false.1 h1 (l.getD i 0) (getD_mem hi)
  simp only [inP, Bool.not_eq_true', Bool.and_eq_false_iff, decide_eq_false_iff_not] at this
  omega
theorem warm_ok {h : Hall} {t : List Int} (hw : warmP h t = 0) : TOk h t := by
  unfold warmP at hw
  split at hw
  · omega
  · split at hw
    · omega
    · rename_i h1 h2
      exact ⟨by omega, any_no h2⟩
theorem cased_ok {h : Hall} {c : HCase} (hw : casedP h c = 0) : COk h c := by
  unfold casedP at hw
  split at hw
  · omega
  · split at hw
    · omega
    · rename_i h1 h2
      simp only [not_or, Classical.not_not] at h2
      obtain ⟨⟨a, b⟩, d⟩ := h2
      simp only [inP, Bool.and_eq_true, decide_eq_true_eq] at b d
      exact ⟨by omega, any_no a, b, d⟩
theorem warm_vals (h : Hall) (t : List Int) : warmP h t = 0 ∨ warmP h t = 1 ∨ warmP h t = 6 := by
  unfold warmP; split
  · simp
  · split <;> simp
theorem cased_vals (h : Hall) (c : HCase) : casedP h c = 0 ∨ casedP h c = 1 ∨ casedP h c = 6 := by
  unfold casedP; split
  · simp
  · split <;> simp
theorem both_ok {h : Hall} {t : List Int} {c : HCase} (hb : bothP [warmP h t, casedP h c] = 0) : TOk h t ∧ COk h c := by
  have h1 := warm_vals h t
  have h2 := cased_vals h c
  unfold bothP at hb
  split at hb
  · omega
  · split at hb
    · omega
    · rename_i h3 h4
      simp only [List.mem_cons, List.not_mem_nil, or_false, not_or] at h3 h4
      exact ⟨warm_ok (by omega), cased_ok (by omega)⟩
end Go.X

/- Banks: what the functions compute, and that all stays small. No condition. -/
set_option linter.unusedVariables false
namespace Go.X.Bk
structure BBat where
  energy : Int
  full : Int
  power : Int
  charge : Int
deriving DecidableEq, Inhabited
structure BGen where
  power : Int
  ramp : Int
  delay : Int
  pause : Int
  tries : Int
deriving DecidableEq, Inhabited
structure BSpan where
  seconds : Int
  power : Int
deriving DecidableEq, Inhabited
structure BCell where
  bat : BBat
  now : Int
deriving DecidableEq, Inhabited
structure BBank where
  bats : List BBat
  gens : List BGen
deriving DecidableEq, Inhabited
structure BRes where
  dark : Int
  energy : List Int
  burnt : List Int
  served : Int
deriving DecidableEq, Inhabited
structure BSt where
  cells : List BCell
  burnt : List Int
  served : Int
deriving DecidableEq, Inhabited
def outP (m n : Int) : Bool := decide (n < 0) || decide (m < n)
def inA (m : Int) (l : List Int) : Bool := !(l.any (outP m))
theorem outP_false {m n : Int} : outP m n = false ↔ 0 ≤ n ∧ n ≤ m := by
  unfold outP
  rw [Bool.or_eq_false_iff, decide_eq_false_iff_not, decide_eq_false_iff_not]; omega
theorem inA_one {m n : Int} : inA m [n] = true ↔ 0 ≤ n ∧ n ≤ m := by
  unfold inA
  rw [Bool.not_eq_true', List.any_cons, List.any_nil, Bool.or_false, outP_false]
theorem inA_two {m a b : Int} : inA m [a, b] = true ↔ (0 ≤ a ∧ a ≤ m) ∧ (0 ≤ b ∧ b ≤ m) := by
  unfold inA
  rw [Bool.not_eq_true', List.any_cons, List.any_cons, List.any_nil, Bool.or_false, Bool.or_eq_false_iff, outP_false, outP_false]
def batOk (x : BBat) : Bool := (inA 100000000000 [x.energy, x.full] && decide (x.energy ≤ x.full)) && inA 1000000 [x.power, x.charge]
def genOk (g : BGen) : Bool := ((inA 1000000 [g.power, g.ramp] && inA 3600 [g.delay, g.pause]) && decide (1 ≤ g.tries)) && decide (g.tries ≤ 5)
structure BatOk (x : BBat) : Prop where
  e0 : 0 ≤ x.energy
  ef : x.energy ≤ x.full
  f1 : x.full ≤ 100000000000
  p0 : 0 ≤ x.power
  p1 : x.power ≤ 1000000
  c0 : 0 ≤ x.charge
  c1 : x.charge ≤ 1000000
structure GenOk (g : BGen) : Prop where
  p0 : 0 ≤ g.power
  p1 : g.power ≤ 1000000
  r0 : 0 ≤ g.ramp
  r1 : g.ramp ≤ 1000000
  d0 : 0 ≤ g.delay
  d1 : g.delay ≤ 3600
  q0 : 0 ≤ g.pause
  q1 : g.pause ≤ 3600
  t0 : 1 ≤ g.tries
  t1 : g.tries ≤ 5
theorem batOk_iff {x : BBat} : batOk x = true ↔ BatOk x := by
  unfold batOk
  rw [Bool.and_eq_true, Bool.and_eq_true, inA_two, inA_two, decide_eq_true_eq]
  exact ⟨fun h => ⟨by omega, by omega, by omega, by omega, by omega, by omega, by omega⟩, fun ⟨a, b, c, d, e, f, g⟩ => by omega⟩
theorem genOk_iff {x : BGen} : genOk x = true ↔ GenOk x := by
  unfold genOk
  rw [Bool.and_eq_true, Bool.and_eq_true, Bool.and_eq_true, inA_two, inA_two, decide_eq_true_eq, decide_eq_true_eq]
  exact ⟨fun h => ⟨by omega, by omega, by omega, by omega, by omega, by omega, by omega, by omega, by omega, by omega⟩, fun ⟨a, b, c, d, e, f, g, h, i, j⟩ => by omega⟩
def bcheck (b : BBank) : Int :=
  if 8 < b.bats.length ∨ 6 < b.gens.length then 2
  else if b.bats.any (fun x => !batOk x) = true ∨ b.gens.any (fun x => !genOk x) = true then 6 else 0
structure BOk (b : BBank) : Prop where
  nb : b.bats.length ≤ 8
  ng : b.gens.length ≤ 6
  bat : ∀ x ∈ b.bats, BatOk x
  gen : ∀ x ∈ b.gens, GenOk x
theorem bcheck_iff {b : BBank} : bcheck b = 0 ↔ BOk b := by
  unfold bcheck
  constructor
  · intro h
    split at h
    · cases h
    · split at h
      · cases h
      · rename_i h1 h2
        rw [not_or, List.any_eq_true, List.any_eq_true] at h2
        refine ⟨by omega, by omega, fun x hx => ?_, fun x hx => ?_⟩
        · rw [← batOk_iff]
          cases hb : batOk x with
          | true => rfl
          | false => exact absurd ⟨x, hx, by rw [hb]; rfl⟩ h2.1
        · rw [← genOk_iff]
          cases hb : genOk x with
          | true => rfl
          | false => exact absurd ⟨x, hx, by rw [hb]; rfl⟩ h2.2
  · intro h
    rw [if_neg (by have := h.nb; have := h.ng; omega), if_neg]
    rw [not_or, List.any_eq_true, List.any_eq_true]
    constructor
    · rintro ⟨x, hx, h1⟩
      rw [batOk_iff.2 (h.bat x hx)] at h1; cases h1
    · rintro ⟨x, hx, h1⟩
      rw [genOk_iff.2 (h.gen x hx)] at h1; cases h1
def startP (g : BGen) (f : Int) : Int := if f = g.tries then -1 else (f + 1) * g.delay + f * g.pause
def badSpan (s : BSpan) : Bool := (decide (s.seconds < 1) || decide (3600 < s.seconds)) || !(inA 1000000 [s.power])
def secs : List BSpan → Nat → Int
  | l, 0 => 0
  | l, i + 1 => secs l i + (l.getD i default).seconds
def loadedP (l : List BSpan) : Int × Int :=
  if 64 < l.length then (0, 2) else if l.any badSpan = true then (0, 6) else if 20000 < secs l l.length then (0, 60) else (secs l l.length, 0)
structure LOk (l : List BSpan) : Prop where
  n : l.length ≤ 64
  s : ∀ x ∈ l, (1 ≤ x.seconds ∧ x.seconds ≤ 3600) ∧ 0 ≤ x.power ∧ x.power ≤ 1000000
  t : secs l l.length ≤ 20000
theorem badSpan_false {x : BSpan} : badSpan x = false ↔ (1 ≤ x.seconds ∧ x.seconds ≤ 3600) ∧ 0 ≤ x.power ∧ x.power ≤ 1000000 := by
  unfold badSpan
  rw [Bool.or_eq_false_iff, Bool.or_eq_false_iff, decide_eq_false_iff_not, decide_eq_false_iff_not, Bool.not_eq_false', inA_one]
  omega
theorem loadedP_iff {l : List BSpan} : (loadedP l).2 = 0 ↔ LOk l := by
  unfold loadedP
  constructor
  · intro h
    split at h
    · cases h
    · split at h
      · cases h
      · split at h
        · cases h
        · rename_i h1 h2 h3
          rw [List.any_eq_true] at h2
          refine ⟨by omega, fun x hx => ?_, by omega⟩
          rw [← badSpan_false]
          cases hb : badSpan x with
          | false => rfl
          | true => exact absurd ⟨x, hx, hb⟩ h2
  · intro h
    rw [if_neg (by have := h.n; omega), if_neg, if_neg (by have := h.t; omega)]
    rw [List.any_eq_true]
    rintro ⟨x, hx, h1⟩
    rw [badSpan_false.2 (h.s x hx)] at h1; cases h1
def badFail (b : BBank) (fs : List Int) (i : Nat) : Bool := decide (fs.getD i default < 0) || decide ((b.gens.getD i default).tries < fs.getD i default)
def fitP (b : BBank) (fs : List Int) : Bool := decide (fs.length = b.gens.length) && allTo (fun i => !badFail b fs i) b.gens.length
structure FOk (b : BBank) (fs : List Int) : Prop where
  n : fs.length = b.gens.length
  f : ∀ i, i < b.gens.length → 0 ≤ fs.getD i default ∧ fs.getD i default ≤ (b.gens.getD i default).tries
theorem allTo_all {p : Nat → Bool} {n : Nat} (h : ∀ i, i < n → p i = true) : allTo p n = true := by
  unfold allTo
  rw [List.all_eq_true]
  exact fun i hi => h i (List.mem_range.1 hi)
theorem fitP_iff {b : BBank} {fs : List Int} : fitP b fs = true ↔ FOk b fs := by
  unfold fitP
  rw [Bool.and_eq_true, decide_eq_true_eq]
  constructor
  · rintro ⟨h1, h2⟩
    refine ⟨h1, fun i hi => ?_⟩
    have := allTo_at h2 hi
    rw [Bool.not_eq_true', badFail, Bool.or_eq_false_iff, decide_eq_false_iff_not, decide_eq_false_iff_not] at this
    omega
  · rintro ⟨h1, h2⟩
    refine ⟨h1, allTo_all fun i hi => ?_⟩
    have := h2 i hi
    rw [Bool.not_eq_true', badFail, Bool.or_eq_false_iff, decide_eq_false_iff_not, decide_eq_false_iff_not]
    omega
def readyP (b : BBank) (l : List BSpan) (fs : List Int) : Int :=
  if bcheck b ≠ 0 then bcheck b else if (loadedP l).2 ≠ 0 then (loadedP l).2 else if ¬ fitP b fs = true then 1 else 0
structure ROk (b : BBank) (l : List BSpan) (fs : List Int) : Prop where
  ob : BOk b
  ol : LOk l
  of : FOk b fs
theorem readyP_iff {b : BBank} {l : List BSpan} {fs : List Int} : readyP b l fs = 0 ↔ ROk b l fs := by
  unfold readyP
  constructor
  · intro h
    split at h
    · contradiction
    · split at h
      · contradiction
      · split at h
        · cases h
        · rename_i h1 h2 h3
          exact ⟨bcheck_iff.1 (Decidable.of_not_not h1), loadedP_iff.1 (Decidable.of_not_not h2), fitP_iff.1 (Decidable.of_not_not h3)⟩
  · rintro ⟨h1, h2, h3⟩
    rw [if_neg (by rw [bcheck_iff.2 h1]; decide), if_neg (by rw [loadedP_iff.2 h2]; decide), if_neg (by rw [fitP_iff.2 h3]; decide)]
/-! ### a second -/
def canP (g : BGen) (fr t : Int) : Int := if fr < 0 ∨ t < fr then 0 else min g.power (g.ramp * (t - fr + 1))
def canAt (gens : List BGen) (sts : List Int) (t : Int) (i : Nat) : Int := canP (gens.getD i default) (sts.getD i default) t
def genTo (c : Nat → Int) (used : List Int) (need : Int) : Nat → List Int × Int
  | 0 => (used, need)
  | i + 1 => ((genTo c used need i).1.set i ((genTo c used need i).1.getD i default + min (genTo c used need i).2 (c i - (genTo c used need i).1.getD i default)), (genTo c used need i).2 - min (genTo c used need i).2 (c i - (genTo c used need i).1.getD i default))
def giveC (x : BCell) (need : Int) : Int := min (min x.bat.power x.now) need
def takeC (x : BCell) (most : Int) : Int := min (min x.bat.charge (x.bat.full - x.now)) most
def giveTo (cs : List BCell) (need : Int) : Nat → List BCell × Int
  | 0 => (cs, need)
  | i + 1 => ((giveTo cs need i).1.set i { bat := ((giveTo cs need i).1.getD i default).bat, now := ((giveTo cs need i).1.getD i default).now - giveC ((giveTo cs need i).1.getD i default) (giveTo cs need i).2 }, (giveTo cs need i).2 - giveC ((giveTo cs need i).1.getD i default) (giveTo cs need i).2)
def spareTo (c : Nat → Int) (used : List Int) : Nat → Int
  | 0 => 0
  | i + 1 => spareTo c used i + (c i - used.getD i default)
def takeTo (cs : List BCell) (spare : Int) : Nat → List BCell × Int
  | 0 => (cs, 0)
  | i + 1 => ((takeTo cs spare i).1.set i { bat := ((takeTo cs spare i).1.getD i default).bat, now := ((takeTo cs spare i).1.getD i default).now + takeC ((takeTo cs spare i).1.getD i default) (spare - (takeTo cs spare i).2) }, (takeTo cs spare i).2 + takeC ((takeTo cs spare i).1.getD i default) (spare - (takeTo cs spare i).2))
def addTo (bs us : List Int) : Nat → List Int
  | 0 => bs
  | i + 1 => (addTo bs us i).set i ((addTo bs us i).getD i default + us.getD i default)
def gen0 (gens : List BGen) (sts : List Int) (t load : Int) : List Int × Int := genTo (canAt gens sts t) (List.replicate sts.length 0) load sts.length
def spare0 (gens : List BGen) (sts : List Int) (t load : Int) : Int := spareTo (canAt gens sts t) (gen0 gens sts t load).1 sts.length
def give0 (gens : List BGen) (sts : List Int) (t load : Int) (s : BSt) : List BCell × Int := giveTo s.cells (gen0 gens sts t load).2 s.cells.length
def take0 (gens : List BGen) (sts : List Int) (t load : Int) (s : BSt) : List BCell × Int := takeTo s.cells (spare0 gens sts t load) s.cells.length
def gen1 (gens : List BGen) (sts : List Int) (t load : Int) (s : BSt) : List Int × Int := genTo (canAt gens sts t) (gen0 gens sts t load).1 (take0 gens sts t load s).2 sts.length
def secondP (gens : List BGen) (sts : List Int) (t load : Int) (strict : Bool) (s : BSt) : Int × BSt :=
  if 0 < (gen0 gens sts t load).2 then
    if 0 < (give0 gens sts t load s).2 ∧ strict = true then ((give0 gens sts t load s).2, s)
    else ((give0 gens sts t load s).2, ⟨(give0 gens sts t load s).1, addTo s.burnt (gen0 gens sts t load).1 sts.length, s.served + (load - (give0 gens sts t load s).2)⟩)
  else ((gen0 gens sts t load).2, ⟨(take0 gens sts t load s).1, addTo s.burnt (gen1 gens sts t load s).1 sts.length, s.served + (load - (gen0 gens sts t load).2)⟩)
/-! ### plays -/
def playTo (gens : List BGen) (sts : List Int) (strict : Bool) (pw : List Int) (s0 : BSt) : Nat → BSt
  | 0 => s0
  | i + 1 => (secondP gens sts (i : Nat) (pw.getD i default) strict (playTo gens sts strict pw s0 i)).2
def lackAt (gens : List BGen) (sts : List Int) (strict : Bool) (pw : List Int) (s0 : BSt) (i : Nat) : Int :=
  (secondP gens sts (i : Nat) (pw.getD i default) strict (playTo gens sts strict pw s0 i)).1
def powers : List BSpan → List Int
  | [] => []
  | s :: l => List.replicate s.seconds.toNat s.power ++ powers l
def begun (b : BBank) : BSt := ⟨b.bats.map fun x => ⟨x, x.energy⟩, List.replicate b.gens.length 0, 0⟩
def startsTo (gens : List BGen) (fs : List Int) : Nat → List Int
  | 0 => []
  | i + 1 => startsTo gens fs i ++ [startP (gens.getD i default) (fs.getD i default)]
def startsP (b : BBank) (fs : List Int) : List Int := startsTo b.gens fs b.gens.length
def energiesP (cs : List BCell) : List Int := cs.map (·.now)
def isDark (b : BBank) (pw fs : List Int) (i : Nat) : Bool := decide (0 < lackAt b.gens (startsP b fs) true pw (begun b) i)
def darkP (b : BBank) (pw fs : List Int) : Int := findFirst (isDark b pw fs) (List.range pw.length)
def endP (b : BBank) (pw fs : List Int) : Nat := if darkP b pw fs < 0 then pw.length else (darkP b pw fs).toNat
def stateP (b : BBank) (pw fs : List Int) (strict : Bool) (i : Nat) : BSt := playTo b.gens (startsP b fs) strict pw (begun b) i
def resOf (d : Int) (s : BSt) : BRes := ⟨d, energiesP s.cells, s.burnt, s.served⟩
def runP (b : BBank) (pw fs : List Int) : BRes := resOf (darkP b pw fs) (stateP b pw fs true (endP b pw fs))
end Go.X.Bk

/- Banks: a second keeps all small. No condition. -/
set_option linter.unusedVariables false
namespace Go.X.Bk
theorem getD_set' {α : Type} [Inhabited α] {l : List α} {i : Nat} {x : α} (hi : i < l.length) (j : Nat) : (l.set i x).getD j default = if i = j then x else l.getD j default := by
  rw [List.getD_eq_getElem?_getD, List.getElem?_set, List.getD_eq_getElem?_getD]
  by_cases h : i = j
  · rw [if_pos h, if_pos h, if_pos hi]; rfl
  · rw [if_neg h, if_neg h]
theorem mulLe {a b m n : Int} (h1 : 0 ≤ a) (h2 : a ≤ m) (h3 : 0 ≤ b) (h4 : b ≤ n) : 0 ≤ a * b ∧ a * b ≤ m * n :=
  ⟨Int.mul_nonneg h1 h3, Int.mul_le_mul h2 h4 h3 (by omega)⟩
theorem canP_ok {g : BGen} (gk : GenOk g) {fr t : Int} (h1 : -1 ≤ fr) (h2 : t ≤ 20000) : 0 ≤ canP g fr t ∧ canP g fr t ≤ 1000000 := by
  unfold canP
  have := gk.p0; have := gk.p1
  split
  · omega
  · have m := mulLe (a := g.ramp) (b := t - fr + 1) (m := 1000000) (n := 20002) gk.r0 gk.r1 (by omega) (by omega)
    omega
structure PlayOk (gens : List BGen) (sts : List Int) : Prop where
  n : sts.length = gens.length
  ng : gens.length ≤ 6
  g : ∀ x ∈ gens, GenOk x
  s : ∀ i, i < sts.length → -1 ≤ sts.getD i default ∧ sts.getD i default ≤ 40000
theorem getD_memB {α : Type} [Inhabited α] {l : List α} {i : Nat} (h : i < l.length) : l.getD i default ∈ l := by
  rw [List.getD_eq_getElem?_getD, List.getElem?_eq_getElem h]; exact List.getElem_mem h
theorem canAt_ok {gens : List BGen} {sts : List Int} (p : PlayOk gens sts) {t : Int} (h2 : t ≤ 20000) {i : Nat} (hi : i < sts.length) : 0 ≤ canAt gens sts t i ∧ canAt gens sts t i ≤ 1000000 :=
  canP_ok (p.g _ (getD_memB (by have := p.n; omega))) (p.s i hi).1 h2
structure UsedOk (c : Nat → Int) (n : Nat) (u : List Int) : Prop where
  len : u.length = n
  b : ∀ j, j < n → 0 ≤ u.getD j default ∧ u.getD j default ≤ c j
theorem genTo_ok {c : Nat → Int} {n : Nat} {u : List Int} {need : Int} (h : UsedOk c n u) (hn : 0 ≤ need) : ∀ i, i ≤ n → UsedOk c n (genTo c u need i).1 ∧ 0 ≤ (genTo c u need i).2 ∧ (genTo c u need i).2 ≤ need
  | 0, _ => ⟨h, hn, Int.le_refl _⟩
  | i + 1, hi => by
    obtain ⟨h1, h2, h3⟩ := genTo_ok h hn i (by omega)
    have hb := h1.b i (by omega)
    refine ⟨⟨by rw [genTo]; simp [h1.len], fun j hj => ?_⟩, ?_, ?_⟩
    · rw [genTo]
      dsimp only
      rw [getD_set' (by rw [h1.len]; omega)]
      split
      · rename_i he; subst he; omega
      · exact h1.b j hj
    · rw [genTo]; dsimp only; omega
    · rw [genTo]; dsimp only; omega
theorem zero_used {c : Nat → Int} {n : Nat} (h : ∀ j, j < n → 0 ≤ c j) : UsedOk c n (List.replicate n 0) :=
  ⟨by simp, fun j hj => by rw [List.getD_eq_getElem?_getD, List.getElem?_replicate, if_pos hj]; exact ⟨by simp, by simpa using h j hj⟩⟩
theorem spareTo_ok {c : Nat → Int} {n : Nat} {u : List Int} (h : UsedOk c n u) (hc : ∀ j, j < n → c j ≤ 1000000) : ∀ i, i ≤ n → 0 ≤ spareTo c u i ∧ spareTo c u i ≤ 1000000 * i
  | 0, _ => ⟨Int.le_refl _, by simp [spareTo]⟩
  | i + 1, hi => by
    obtain ⟨h1, h2⟩ := spareTo_ok h hc i (by omega)
    have := h.b i (by omega)
    have := hc i (by omega)
    rw [spareTo]
    omega
structure CellOk (x : BCell) : Prop where
  n0 : 0 ≤ x.now
  nf : x.now ≤ x.bat.full
  f1 : x.bat.full ≤ 100000000000
  p0 : 0 ≤ x.bat.power
  p1 : x.bat.power ≤ 1000000
  c0 : 0 ≤ x.bat.charge
  c1 : x.bat.charge ≤ 1000000
structure CellsOk (n : Nat) (cs : List BCell) : Prop where
  len : cs.length = n
  ok : ∀ j, j < n → CellOk (cs.getD j default)
theorem giveC_ok {x : BCell} (h : CellOk x) {need : Int} (hn : 0 ≤ need) : 0 ≤ giveC x need ∧ giveC x need ≤ need ∧ giveC x need ≤ x.now := by
  have := h.n0; have := h.p0
  unfold giveC; omega
theorem takeC_ok {x : BCell} (h : CellOk x) {need : Int} (hn : 0 ≤ need) : 0 ≤ takeC x need ∧ takeC x need ≤ need ∧ x.now + takeC x need ≤ x.bat.full := by
  have := h.nf; have := h.c0
  unfold takeC; omega
theorem CellsOk.set {n : Nat} {cs : List BCell} (h : CellsOk n cs) {i : Nat} (hi : i < n) {m : Int} (h0 : 0 ≤ m) (h1 : m ≤ (cs.getD i default).bat.full) : CellsOk n (cs.set i { bat := (cs.getD i default).bat, now := m }) := by
  refine ⟨by simp [h.len], fun j hj => ?_⟩
  rw [getD_set' (by rw [h.len]; exact hi)]
  split
  · have := h.ok i hi
    exact ⟨h0, h1, this.f1, this.p0, this.p1, this.c0, this.c1⟩
  · exact h.ok j hj
theorem giveTo_ok {cs : List BCell} {n : Nat} (h : CellsOk n cs) {need : Int} (hn : 0 ≤ need) : ∀ i, i ≤ n → CellsOk n (giveTo cs need i).1 ∧ 0 ≤ (giveTo cs need i).2 ∧ (giveTo cs need i).2 ≤ need
  | 0, _ => ⟨h, hn, Int.le_refl _⟩
  | i + 1, hi => by
    obtain ⟨h1, h2, h3⟩ := giveTo_ok h hn i (by omega)
    have ck := h1.ok i (by omega)
    have g := giveC_ok ck h2
    have := ck.nf
    rw [giveTo]
    exact ⟨h1.set (by omega) (by omega) (by omega), by dsimp only; omega, by dsimp only; omega⟩
theorem takeTo_ok {cs : List BCell} {n : Nat} (h : CellsOk n cs) {sp : Int} (hn : 0 ≤ sp) : ∀ i, i ≤ n → CellsOk n (takeTo cs sp i).1 ∧ 0 ≤ (takeTo cs sp i).2 ∧ (takeTo cs sp i).2 ≤ sp
  | 0, _ => ⟨h, Int.le_refl _, hn⟩
  | i + 1, hi => by
    obtain ⟨h1, h2, h3⟩ := takeTo_ok h hn i (by omega)
    have ck := h1.ok i (by omega)
    have g := takeC_ok ck (need := sp - (takeTo cs sp i).2) (by omega)
    have := ck.n0
    rw [takeTo]
    exact ⟨h1.set (by omega) (by omega) (by omega), by dsimp only; omega, by dsimp only; omega⟩
structure BurntOk (n k : Nat) (bs : List Int) : Prop where
  len : bs.length = n
  b : ∀ j, j < n → 0 ≤ bs.getD j default ∧ bs.getD j default ≤ 1000000 * k
theorem addTo_at {bs us : List Int} : ∀ i, i ≤ bs.length → (addTo bs us i).length = bs.length ∧ ∀ j, (addTo bs us i).getD j default = if j < i then bs.getD j default + us.getD j default else bs.getD j default
  | 0, _ => ⟨rfl, fun j => by rw [if_neg (by omega)]; rfl⟩
  | i + 1, hi => by
    obtain ⟨h1, h2⟩ := addTo_at (bs := bs) (us := us) i (by omega)
    refine ⟨by rw [addTo]; simp [h1], fun j => ?_⟩
    rw [addTo, getD_set' (by rw [h1]; omega)]
    split
    · rename_i he; subst he
      rw [if_pos (by omega), h2, if_neg (by omega)]
    · rw [h2]
      by_cases hj : j < i
      · rw [if_pos hj, if_pos (by omega)]
      · rw [if_neg hj, if_neg (by omega)]
structure StOk (sts : List Int) (nc k : Nat) (s : BSt) : Prop where
  c : CellsOk nc s.cells
  nc8 : nc ≤ 8
  b : BurntOk sts.length k s.burnt
  s0 : 0 ≤ s.served
  s1 : s.served ≤ 1000000 * k
theorem burnt_add {n k : Nat} {bs us : List Int} {c : Nat → Int} (h : BurntOk n k bs) (hu : UsedOk c n us) (hc : ∀ j, j < n → c j ≤ 1000000) : BurntOk n (k + 1) (addTo bs us n) := by
  obtain ⟨h1, h2⟩ := addTo_at (bs := bs) (us := us) n (by rw [h.len]; omega)
  refine ⟨by rw [h1, h.len], fun j hj => ?_⟩
  rw [h2, if_pos hj]
  have := h.b j hj; have := hu.b j hj; have := hc j hj
  omega
theorem gen0_ok {gens : List BGen} {sts : List Int} (p : PlayOk gens sts) {t load : Int} (h2 : t ≤ 20000) (h3 : 0 ≤ load) :
    UsedOk (canAt gens sts t) sts.length (gen0 gens sts t load).1 ∧ 0 ≤ (gen0 gens sts t load).2 ∧ (gen0 gens sts t load).2 ≤ load :=
  genTo_ok (zero_used fun j hj => (canAt_ok p h2 hj).1) h3 _ (Nat.le_refl _)
theorem spare0_ok {gens : List BGen} {sts : List Int} (p : PlayOk gens sts) {t load : Int} (h2 : t ≤ 20000) (h3 : 0 ≤ load) : 0 ≤ spare0 gens sts t load ∧ spare0 gens sts t load ≤ 6000000 := by
  have := spareTo_ok (gen0_ok p h2 h3).1 (fun j hj => (canAt_ok p h2 hj).2) sts.length (Nat.le_refl _)
  have h6 := p.ng; have hn := p.n
  unfold spare0
  omega
theorem take0_ok {gens : List BGen} {sts : List Int} (p : PlayOk gens sts) {t load : Int} (h2 : t ≤ 20000) (h3 : 0 ≤ load) {nc k : Nat} {s : BSt} (h : StOk sts nc k s) : CellsOk nc (take0 gens sts t load s).1 ∧ 0 ≤ (take0 gens sts t load s).2 ∧ (take0 gens sts t load s).2 ≤ 6000000 := by
  have hs := spare0_ok p h2 h3
  obtain ⟨h1, h4, h5⟩ := takeTo_ok h.c hs.1 nc (Nat.le_refl _)
  unfold take0
  rw [h.c.len]
  exact ⟨h1, h4, by omega⟩
theorem gen1_ok {gens : List BGen} {sts : List Int} (p : PlayOk gens sts) {t load : Int} (h2 : t ≤ 20000) (h3 : 0 ≤ load) {nc k : Nat} {s : BSt} (h : StOk sts nc k s) :
    UsedOk (canAt gens sts t) sts.length (gen1 gens sts t load s).1 := (genTo_ok (gen0_ok p h2 h3).1 (take0_ok p h2 h3 h).2.1 _ (Nat.le_refl _)).1
theorem give0_ok {gens : List BGen} {sts : List Int} (p : PlayOk gens sts) {t load : Int} (h2 : t ≤ 20000) (h3 : 0 ≤ load) {nc k : Nat} {s : BSt} (h : StOk sts nc k s) :
    CellsOk nc (give0 gens sts t load s).1 ∧ 0 ≤ (give0 gens sts t load s).2 ∧ (give0 gens sts t load s).2 ≤ load := by
  have hg := gen0_ok p h2 h3
  obtain ⟨h1, h4, h5⟩ := giveTo_ok h.c hg.2.1 nc (Nat.le_refl _)
  unfold give0
  rw [h.c.len]
  exact ⟨h1, h4, by omega⟩
theorem second_ok {gens : List BGen} {sts : List Int} (p : PlayOk gens sts) {t load : Int} (h2 : t ≤ 20000) (h3 : 0 ≤ load) (h4 : load ≤ 1000000) {nc k : Nat} {s : BSt} (h : StOk sts nc k s) (strict : Bool) :
    StOk sts nc (k + 1) (secondP gens sts t load strict s).2 ∧ 0 ≤ (secondP gens sts t load strict s).1 ∧ (secondP gens sts t load strict s).1 ≤ load := by
  have hg := gen0_ok p h2 h3
  have hv := give0_ok p h2 h3 h
  have ht := take0_ok p h2 h3 h
  have h1 := gen1_ok p h2 h3 h
  have hc : ∀ j, j < sts.length → canAt gens sts t j ≤ 1000000 := fun j hj => (canAt_ok p h2 hj).2
  have s0 := h.s0; have s1 := h.s1
  unfold secondP
  split
  · split
    · refine ⟨⟨h.c, h.nc8, ⟨h.b.len, fun j hj => ?_⟩, h.s0, by dsimp only; omega⟩, hv.2.1, hv.2.2⟩
      have := h.b.b j hj; dsimp only; omega
    · exact ⟨⟨hv.1, h.nc8, burnt_add h.b hg.1 hc, by dsimp only; omega, by dsimp only; omega⟩, hv.2.1, hv.2.2⟩
  · exact ⟨⟨ht.1, h.nc8, burnt_add h.b h1 hc, by dsimp only; omega, by dsimp only; omega⟩, hg.2.1, hg.2.2⟩
theorem take_map_snoc {α β : Type} [Inhabited α] (f : α → β) {xs : List α} {i : Nat} (hi : i < xs.length) : (xs.take (i + 1)).map f = (xs.take i).map f ++ [f (xs.getD i default)] := by
  rw [List.take_add_one, List.map_append, List.getElem?_eq_getElem hi, List.getD_eq_getElem?_getD, List.getElem?_eq_getElem hi]; rfl
theorem energies_snoc {cs : List BCell} {i : Nat} (hi : i < cs.length) : energiesP (cs.take (i + 1)) = energiesP (cs.take i) ++ [(cs.getD i default).now] := take_map_snoc _ hi
end Go.X.Bk

/- Loads, second by second. No condition. -/
set_option linter.unusedVariables false
namespace Go.X.Bk
def cnt (l : List BSpan) : Nat → Nat
  | 0 => 0
  | i + 1 => cnt l i + (l.getD i default).seconds.toNat
theorem powers_append (a b : List BSpan) : powers (a ++ b) = powers a ++ powers b := by
  induction a with
  | nil => rfl
  | cons x t ih => rw [List.cons_append, powers, powers, ih, List.append_assoc]
theorem take_snocB {α : Type} [Inhabited α] {xs : List α} {i : Nat} (hi : i < xs.length) : xs.take (i + 1) = xs.take i ++ [xs.getD i default] := by
  rw [List.take_add_one, List.getElem?_eq_getElem hi, List.getD_eq_getElem?_getD, List.getElem?_eq_getElem hi]; rfl
theorem cnt_take (l : List BSpan) : ∀ i, i ≤ l.length → (powers (l.take i)).length = cnt l i
  | 0, _ => rfl
  | i + 1, hi => by
    rw [take_snocB (by omega), powers_append, List.length_append, cnt_take l i (by omega), cnt]
    simp [powers]
theorem split_at {α : Type} [Inhabited α] (xs : List α) {i : Nat} (hi : i < xs.length) : xs = xs.take i ++ xs.getD i default :: xs.drop (i + 1) := by
  conv => lhs; rw [← List.take_append_drop i xs, List.drop_eq_getElem_cons hi]
  rw [List.getD_eq_getElem?_getD, List.getElem?_eq_getElem hi]; rfl
theorem powers_at (l : List BSpan) {i j : Nat} (hi : i < l.length) (hj : (j : Int) < (l.getD i default).seconds) :
    cnt l i + j < (powers l).length ∧ (powers l).getD (cnt l i + j) default = (l.getD i default).power := by
  have e : powers l = powers (l.take i) ++ (List.replicate (l.getD i default).seconds.toNat (l.getD i default).power ++ powers (l.drop (i + 1))) := by
    conv => lhs; rw [split_at l hi, powers_append, powers]
  have hc := cnt_take l i (by omega)
  rw [e]
  constructor
  · simp only [List.length_append, hc, List.length_replicate]; omega
  · rw [List.getD_eq_getElem?_getD, List.getElem?_append_right (by omega), hc, Nat.add_sub_cancel_left, List.getElem?_append_left (by rw [List.length_replicate]; omega), List.getElem?_replicate, if_pos (by omega)]; rfl
theorem cnt_all (l : List BSpan) : cnt l l.length = (powers l).length := by
  rw [← cnt_take l l.length (Nat.le_refl _), List.take_length]
theorem cnt_secs {l : List BSpan} (h : ∀ x ∈ l, 0 ≤ x.seconds) : ∀ i, i ≤ l.length → (cnt l i : Int) = secs l i
  | 0, _ => by simp [cnt, secs]
  | i + 1, hi => by
    have := h _ (getD_memB (show i < l.length by omega))
    rw [cnt, secs, ← cnt_secs h i (by omega)]
    omega
theorem powers_len {l : List BSpan} (h : LOk l) : (powers l).length ≤ 20000 := by
  have h1 := cnt_secs (l := l) (fun x hx => by have := (h.s x hx).1; omega) l.length (Nat.le_refl _)
  have := h.t
  rw [cnt_all] at h1
  omega
theorem powers_mem {l : List BSpan} {x : Int} (h : x ∈ powers l) : ∃ s ∈ l, x = s.power := by
  induction l with
  | nil => cases h
  | cons s t ih =>
    rw [powers, List.mem_append] at h
    rcases h with h | h
    · exact ⟨s, List.mem_cons_self, List.eq_of_mem_replicate h⟩
    · obtain ⟨u, h1, h2⟩ := ih h
      exact ⟨u, List.mem_cons_of_mem _ h1, h2⟩
structure PwOk (pw : List Int) : Prop where
  n : pw.length ≤ 20000
  p : ∀ i, i < pw.length → 0 ≤ pw.getD i default ∧ pw.getD i default ≤ 1000000
theorem pwOk {l : List BSpan} (h : LOk l) : PwOk (powers l) := ⟨powers_len h, fun i hi => by
  obtain ⟨s, h1, h2⟩ := powers_mem (getD_memB hi)
  rw [h2]; exact (h.s s h1).2⟩
theorem startsTo_len (gens : List BGen) (fs : List Int) : ∀ i, (startsTo gens fs i).length = i
  | 0 => rfl
  | i + 1 => by rw [startsTo, List.length_append, startsTo_len gens fs i]; rfl
theorem startsTo_at (gens : List BGen) (fs : List Int) {j : Nat} : ∀ i, j < i → (startsTo gens fs i).getD j default = startP (gens.getD j default) (fs.getD j default)
  | 0, h => by omega
  | i + 1, h => by
    have hl := startsTo_len gens fs i
    rw [startsTo, List.getD_eq_getElem?_getD, List.getElem?_append]
    split
    · rw [← List.getD_eq_getElem?_getD]; exact startsTo_at gens fs i (by omega)
    · have : j = i := by omega
      subst this
      simp [hl]
theorem startP_ok {g : BGen} (gk : GenOk g) {f : Int} (h0 : 0 ≤ f) (h1 : f ≤ g.tries) : -1 ≤ startP g f ∧ startP g f ≤ 40000 := by
  have := gk.t1
  unfold startP
  split
  · omega
  · have m1 := mulLe (a := f + 1) (b := g.delay) (m := 6) (n := 3600) (by omega) (by omega) gk.d0 gk.d1
    have m2 := mulLe (a := f) (b := g.pause) (m := 5) (n := 3600) (by omega) (by omega) gk.q0 gk.q1
    omega
theorem playOk {b : BBank} {fs : List Int} (h : BOk b) (hf : FOk b fs) : PlayOk b.gens (startsP b fs) := ⟨startsTo_len _ _ _, h.ng, h.gen, fun i hi => by
  rw [startsP, startsTo_len] at hi
  rw [startsP, startsTo_at _ _ _ hi]
  exact startP_ok (h.gen _ (getD_memB hi)) (hf.f i hi).1 (hf.f i hi).2⟩
theorem cellOk_of {x : BBat} (h : BatOk x) : CellOk ⟨x, x.energy⟩ := ⟨h.e0, h.ef, h.f1, h.p0, h.p1, h.c0, h.c1⟩
theorem begun_ok {b : BBank} {fs : List Int} (h : BOk b) (hf : FOk b fs) : StOk (startsP b fs) b.bats.length 0 (begun b) := by
  refine ⟨⟨by simp [begun], fun j hj => ?_⟩, h.nb, ⟨by rw [startsP, startsTo_len]; simp [begun], fun j hj => ?_⟩, Int.le_refl _, by simp [begun]⟩
  · have e : (begun b).cells.getD j default = ⟨b.bats.getD j default, (b.bats.getD j default).energy⟩ := by
      simp [begun, List.getD_eq_getElem?_getD, List.getElem?_map, List.getElem?_eq_getElem hj]
    rw [e]
    exact cellOk_of (h.bat _ (getD_memB hj))
  · rw [startsP, startsTo_len] at hj
    simp [begun, List.getD_eq_getElem?_getD, List.getElem?_replicate, hj]
theorem playTo_ok {gens : List BGen} {sts : List Int} (p : PlayOk gens sts) {pw : List Int} (hw : PwOk pw) {nc : Nat} {s0 : BSt} (h : StOk sts nc 0 s0) (strict : Bool) : ∀ i, i ≤ pw.length → StOk sts nc i (playTo gens sts strict pw s0 i)
  | 0, _ => h
  | i + 1, hi => (second_ok p (by have := hw.n; omega) (hw.p i (by omega)).1 (hw.p i (by omega)).2 (playTo_ok p hw h strict i (by omega)) strict).1
theorem lackAt_ok {gens : List BGen} {sts : List Int} (p : PlayOk gens sts) {pw : List Int} (hw : PwOk pw) {nc : Nat} {s0 : BSt} (h : StOk sts nc 0 s0) (strict : Bool) {i : Nat} (hi : i < pw.length) : 0 ≤ lackAt gens sts strict pw s0 i ∧ lackAt gens sts strict pw s0 i ≤ 1000000 := by
  have := (second_ok p (t := (i : Nat)) (load := pw.getD i default) (by have := hw.n; omega) (hw.p i (by omega)).1 (hw.p i (by omega)).2 (playTo_ok p hw h strict i (by omega)) strict).2
  have := hw.p i hi
  unfold lackAt
  omega
theorem cells_snoc {l : List BBat} {i : Nat} (hi : i < l.length) : (l.take (i + 1)).map (fun x => (⟨x, x.energy⟩ : BCell)) = (l.take i).map (fun x => ⟨x, x.energy⟩) ++ [⟨l.getD i default, (l.getD i default).energy⟩] := take_map_snoc _ hi
theorem dark_here {b : BBank} {pw fs : List Int} {m : Nat} (hm : m < pw.length) (hb : ∀ j, j < m → isDark b pw fs j = false) (hd : isDark b pw fs m = true) : darkP b pw fs = m := by
  refine findFirst_here (i := m) ?_ (by simpa using hm) (by rw [List.getD_eq_getElem?_getD, List.getElem?_range hm]; exact hd)
  rw [List.any_eq_false]
  intro x hx
  rw [List.take_range, List.mem_range] at hx
  rw [hb x (by omega)]; decide
theorem dark_never {b : BBank} {pw fs : List Int} (hb : ∀ j, j < pw.length → isDark b pw fs j = false) : darkP b pw fs = -1 := by
  refine findFirst_none (i := pw.length) ?_ (by simp)
  rw [List.any_eq_false]
  intro x hx
  rw [List.take_range, List.mem_range] at hx
  rw [hb x (by omega)]; decide
theorem run_here {b : BBank} {pw fs : List Int} {m : Nat} (hm : m < pw.length) (hb : ∀ j, j < m → isDark b pw fs j = false) (hd : isDark b pw fs m = true) : runP b pw fs = resOf (m : Nat) (stateP b pw fs true m) ∧ endP b pw fs = m := by
  have h := dark_here hm hb hd
  have e : endP b pw fs = m := by unfold endP; rw [h, if_neg (by omega)]; rfl
  unfold runP
  rw [e, h]; exact ⟨rfl, rfl⟩
theorem run_never {b : BBank} {pw fs : List Int} (hb : ∀ j, j < pw.length → isDark b pw fs j = false) : runP b pw fs = resOf (-1) (stateP b pw fs true pw.length) ∧ endP b pw fs = pw.length := by
  have h := dark_never hb
  have e : endP b pw fs = pw.length := by unfold endP; rw [h, if_pos (by omega)]
  unfold runP
  rw [e, h]; exact ⟨rfl, rfl⟩
end Go.X.Bk

/- Lists of fails, in their order. No condition. -/
set_option linter.unusedVariables false
namespace Go.X.Bk
def block (L : Int → List (List Int)) (n : Nat) : List (List Int) := (L (n : Int)).map (fun x => (n : Int) :: x)
def blocks (L : Int → List (List Int)) : Nat → List (List Int)
  | 0 => []
  | k + 1 => blocks L k ++ block L k
def zerosL (ts : List Int) : List Int := List.replicate ts.length 0
def stepL : List Int → Int → List Int → Option (List Int)
  | t :: ts, m, n :: x => match stepL ts (m - n) x with
    | some y => some (n :: y)
    | none => if n < t ∧ 0 < m - n then some ((n + 1) :: zerosL ts) else none
  | _, _, _ => none
def Good (step : List Int → Option (List Int)) (z : List Int) (L : List (List Int)) (last : Option (List Int)) : Prop :=
  L[0]? = some z ∧ ∀ i x, L[i]? = some x → step x = if i + 1 < L.length then L[i + 1]? else last
theorem Good.glue {step : List Int → Option (List Int)} {z y : List Int} {L M : List (List Int)} {last : Option (List Int)} (h : Good step z L (some y)) (g : Good step y M last) : Good step z (L ++ M) last := by
  obtain ⟨h0, h1⟩ := h
  obtain ⟨g0, g1⟩ := g
  have hl : 0 < L.length := by
    rcases Nat.eq_zero_or_pos L.length with e | e
    · rw [List.getElem?_eq_none (by omega)] at h0; cases h0
    · exact e
  have gl : 0 < M.length := by
    rcases Nat.eq_zero_or_pos M.length with e | e
    · rw [List.getElem?_eq_none (by omega)] at g0; cases g0
    · exact e
  refine ⟨by rw [List.getElem?_append_left hl]; exact h0, fun i x hx => ?_⟩
  rw [List.length_append]
  rcases Nat.lt_or_ge i L.length with hi | hi
  · rw [List.getElem?_append_left hi] at hx
    rw [h1 i x hx, if_pos (show i + 1 < L.length + M.length by omega)]
    by_cases h2 : i + 1 < L.length
    · rw [if_pos h2, List.getElem?_append_left h2]
    · rw [if_neg h2, List.getElem?_append_right (by omega), show i + 1 - L.length = 0 by omega, g0]
  · rw [List.getElem?_append_right hi] at hx
    rw [g1 _ x hx]
    by_cases h2 : i - L.length + 1 < M.length
    · rw [if_pos h2, if_pos (by omega), List.getElem?_append_right (by omega)]
      congr 1; omega
    · rw [if_neg h2, if_neg (by omega)]
theorem Good.block {t m : Int} {ts : List Int} {n : Nat} {L : Int → List (List Int)} (h : Good (stepL ts (m - n)) (zerosL ts) (L n) none) :
    Good (stepL (t :: ts) m) ((n : Int) :: zerosL ts) (block L n) (if (n : Int) < t ∧ 0 < m - n then some (((n : Int) + 1) :: zerosL ts) else none) := by
  obtain ⟨h0, h1⟩ := h
  refine ⟨by rw [Bk.block, List.getElem?_map, h0]; rfl, fun i x hx => ?_⟩
  rw [Bk.block, List.getElem?_map] at hx
  cases hy : (L n)[i]? with
  | none => rw [hy] at hx; cases hx
  | some y =>
    rw [hy] at hx
    obtain rfl : (n : Int) :: y = x := by simpa using hx
    rw [stepL, h1 i y hy, Bk.block, List.length_map, List.getElem?_map]
    by_cases h2 : i + 1 < (L n).length
    · rw [if_pos h2, if_pos h2, List.getElem?_eq_getElem h2]; rfl
    · rw [if_neg h2, if_neg h2]
theorem Good.blocks {t m : Int} {ts : List Int} {L : Int → List (List Int)} (ht : 0 ≤ t) (hm : 0 ≤ m) (h : ∀ n : Nat, (n : Int) ≤ t → (n : Int) ≤ m → Good (stepL ts (m - n)) (zerosL ts) (L n) none) :
    ∀ k : Nat, (k : Int) < min t m + 1 → Good (stepL (t :: ts) m) (zerosL (t :: ts)) (blocks L (k + 1)) (if (k : Int) < t ∧ 0 < m - k then some (((k : Int) + 1) :: zerosL ts) else none)
  | 0, _ => by
    have := Good.block (t := t) (h 0 (by omega) (by omega))
    rw [Bk.blocks, Bk.blocks, List.nil_append]
    exact this
  | k + 1, hk => by
    have h1 := Good.blocks ht hm h k (by omega)
    rw [if_pos (by omega)] at h1
    have h2 := Good.block (t := t) (h (k + 1) (by omega) (by omega))
    rw [Bk.blocks]
    exact h1.glue h2
def casesTo (b : BBank) (n : Int) : Nat → Int
  | 0 => n
  | i + 1 => casesTo b n i * ((b.gens.getD i default).tries + 1)
end Go.X.Bk

/- The odometer of fails. No condition. -/
set_option linter.unusedVariables false
namespace Go.X.Bk
end Go.X.Bk

/- Holding; the chapter's example. No condition. -/
set_option linter.unusedVariables false
set_option maxRecDepth 100000
namespace Go.X.Bk
structure SOk (b : BBank) (l : List BSpan) (most : Int) : Prop where
  ob : BOk b
  ol : LOk l
  m0 : 0 ≤ most
  c : casesTo b (loadedP l).1 b.gens.length ≤ 4194304
end Go.X.Bk

/- Flows: what a branch has; below which branch it hangs. No condition. -/
set_option linter.unusedVariables false
namespace Go.X
theorem sum_zero {f : Nat → Int} : ∀ {n : Nat}, (∀ k, k < n → f k = 0) → sumTo f n = 0
  | 0, _ => rfl
  | n + 1, h => by rw [sumTo, sum_zero fun k hk => h k (by omega), h n (by omega)]; rfl
theorem sum_nonneg {f : Nat → Int} : ∀ {n : Nat}, (∀ k, k < n → 0 ≤ f k) → 0 ≤ sumTo f n
  | 0, _ => Int.le_refl _
  | n + 1, h => by
    have h1 := sum_nonneg (f := f) (n := n) fun k hk => h k (by omega)
    have h2 := h n (by omega)
    rw [sumTo]; omega
theorem sum_mono {f g : Nat → Int} : ∀ {n : Nat}, (∀ k, k < n → f k ≤ g k) → sumTo f n ≤ sumTo g n
  | 0, _ => Int.le_refl _
  | n + 1, h => by
    have h1 := sum_mono (f := f) (g := g) (n := n) fun k hk => h k (by omega)
    have h2 := h n (by omega)
    rw [sumTo, sumTo]; omega
theorem sum_add {f g : Nat → Int} : ∀ {n : Nat}, sumTo (fun k => f k + g k) n = sumTo f n + sumTo g n
  | 0 => rfl
  | n + 1 => by rw [sumTo, sumTo, sumTo, sum_add]; omega
theorem sum_mul {f : Nat → Int} {c : Int} : ∀ {n : Nat}, sumTo (fun k => c * f k) n = c * sumTo f n
  | 0 => by simp [sumTo]
  | n + 1 => by rw [sumTo, sumTo, sum_mul, Int.mul_add]
theorem sum_congr {f g : Nat → Int} : ∀ {n : Nat}, (∀ k, k < n → f k = g k) → sumTo f n = sumTo g n
  | 0, _ => rfl
  | n + 1, h => by rw [sumTo, sumTo, sum_congr fun k hk => h k (by omega), h n (by omega)]
theorem sum_le {f : Nat → Int} {M : Int} : ∀ {n : Nat}, (∀ k, k < n → f k ≤ M) → sumTo f n ≤ n * M
  | 0, _ => by simp [sumTo]
  | n + 1, h => by
    have h1 := sum_le (f := f) (n := n) (M := M) fun k hk => h k (by omega)
    have h2 := h n (by omega)
    have h3 : ((n + 1 : Nat) : Int) * M = n * M + M := by rw [Int.natCast_add, Int.add_mul]; simp
    rw [sumTo, h3]; omega
theorem sum_part {f : Nat → Int} {n m : Nat} (h : m ≤ n) (hf : ∀ k, k < n → 0 ≤ f k) : sumTo f m ≤ sumTo f n := by
  induction n with
  | zero => rw [show m = 0 by omega]; exact Int.le_refl _
  | succ n ih =>
    rcases Nat.lt_or_ge m (n + 1) with h1 | h1
    · have h2 := ih (by omega) fun k hk => hf k (by omega)
      have h3 := hf n (by omega)
      rw [sumTo]; omega
    · rw [show m = n + 1 by omega]; exact Int.le_refl _
theorem sum_one {f : Nat → Int} {n k : Nat} (h : k < n) (hf : ∀ k, k < n → 0 ≤ f k) : f k ≤ sumTo f n := by
  have h1 := sum_part (f := f) (n := n) (m := k + 1) (by omega) hf
  have h2 := sum_nonneg (f := f) (n := k) fun j hj => hf j (by omega)
  rw [sumTo] at h1; omega
theorem flowsTo_len (h : Hall) (pump : Int) : ∀ n, (flowsTo h pump n).length = n
  | 0 => rfl
  | n + 1 => by rw [flowsTo, List.length_append, flowsTo_len]; rfl
theorem flowsTo_getD (h : Hall) (pump : Int) {n i : Nat} (hi : i < n) : (flowsTo h pump n).getD i 0 = max (feedOf h pump (flowsTo h pump i) i - (h.branches.getD i default).leak) 0 := by
  induction n with
  | zero => omega
  | succ n ih =>
    rw [flowsTo]
    rcases Nat.lt_or_ge i n with h1 | h1
    · rw [List.getD_eq_getElem?_getD, List.getElem?_append_left (by rw [flowsTo_len]; exact h1), ← List.getD_eq_getElem?_getD]
      exact ih h1
    · have h2 : i = n := by omega
      subst h2
      rw [List.getD_eq_getElem?_getD, List.getElem?_append_right (by rw [flowsTo_len]; exact Nat.le_refl _), flowsTo_len, Nat.sub_self]
      rfl
theorem flows_len (h : Hall) (pump : Int) : (flowsL h pump).length = h.branches.length := flowsTo_len ..
section
variable {h : Hall} (ok : HOk h)
include ok
theorem up_of {i : Nat} (hi : i < h.branches.length) (h0 : i ≠ 0) : 0 ≤ (h.branches.getD i default).up ∧ (h.branches.getD i default).up < i := by
  have := (ok.branch i hi).1
  rw [if_neg h0] at this
  exact this
theorem up_zero (hi : 0 < h.branches.length) : (h.branches.getD 0 default).up = -1 := by
  have := (ok.branch 0 hi).1
  rw [if_pos rfl] at this
  exact this
theorem feed_same {pump : Int} {i : Nat} (hi : i < h.branches.length) : feedOf h pump (flowsTo h pump i) i = feedOf h pump (flowsL h pump) i := by
  unfold feedOf
  by_cases h0 : i = 0
  · rw [if_pos h0, if_pos h0]
  · rw [if_neg h0, if_neg h0]
    obtain ⟨h1, h2⟩ := up_of ok hi h0
    have e : (flowsTo h pump i).getD (h.branches.getD i default).up.toNat 0 = (flowsL h pump).getD (h.branches.getD i default).up.toNat 0 := by
      unfold flowsL
      rw [flowsTo_getD h pump (by omega), flowsTo_getD h pump (by omega)]
    rw [e]
theorem flows_at {pump : Int} {i : Nat} (hi : i < h.branches.length) : (flowsL h pump).getD i 0 = max (feedOf h pump (flowsL h pump) i - (h.branches.getD i default).leak) 0 := by
  rw [← feed_same ok hi]
  exact flowsTo_getD h pump hi
theorem open_nonneg (u : Int) {n : Nat} (hn : n ≤ h.branches.length) : 0 ≤ sumOpen h u n := sum_nonneg fun k hk => by
  have := (ok.branch k (by omega)).2.1
  split <;> omega
theorem open_le (u : Int) {n : Nat} (hn : n ≤ h.branches.length) : sumOpen h u n ≤ 1600 := by
  have h1 := sum_le (f := fun k => if (h.branches.getD k default).up = u then (h.branches.getD k default).opn else 0) (n := n) (M := 100) fun k hk => by
    have := (ok.branch k (by omega)).2.1
    split <;> omega
  have h2 := ok.b2
  change sumOpen h u n ≤ _ at h1
  omega
theorem open_one {k : Nat} (hk : k < h.branches.length) : (h.branches.getD k default).opn ≤ sumOpen h (h.branches.getD k default).up h.branches.length := by
  have := sum_one (f := fun j => if (h.branches.getD j default).up = (h.branches.getD k default).up then (h.branches.getD j default).opn else 0) hk fun j hj => by
    have := (ok.branch j hj).2.1
    split <;> omega
  rw [if_pos rfl] at this
  exact this
omit ok in
theorem share_le {x o s : Int} (hx : 0 ≤ x) (ho : 0 ≤ o) (hos : o ≤ s) (hs : 0 < s) : 0 ≤ x * o / s ∧ x * o / s ≤ x := by
  constructor
  · exact Int.ediv_nonneg (Int.mul_nonneg hx ho) (by omega)
  · have h1 : x * o ≤ x * s := Int.mul_le_mul_of_nonneg_left hos hx
    have h2 := Int.ediv_le_ediv hs h1
    rwa [Int.mul_ediv_cancel _ (by omega)] at h2
theorem flows_rng {pump : Int} (hp : 0 ≤ pump) : ∀ i, i < h.branches.length → 0 ≤ (flowsL h pump).getD i 0 ∧ (flowsL h pump).getD i 0 ≤ pump := by
  intro i
  induction i using Nat.strongRecOn with
  | _ i ih =>
    intro hi
    rw [flows_at ok hi]
    have hlk := (ok.branch i hi).2.2
    have hfd : 0 ≤ feedOf h pump (flowsL h pump) i ∧ feedOf h pump (flowsL h pump) i ≤ pump := by
      unfold feedOf
      by_cases h0 : i = 0
      · rw [if_pos h0]; omega
      · rw [if_neg h0]
        obtain ⟨h1, h2⟩ := up_of ok hi h0
        split
        · rename_i hs
          have h3 := ih _ (show (h.branches.getD i default).up.toNat < i by omega) (by omega)
          have h4 := (ok.branch i hi).2.1
          have h5 := share_le h3.1 h4.1 (open_one ok hi) hs
          omega
        · omega
    omega
end
/-- i is j, or j hangs on it, directly or not. -/
inductive Sub (h : Hall) : Nat → Nat → Prop
  | self (i : Nat) : Sub h i i
  | step {i j : Nat} (hj : j < h.branches.length) (h0 : j ≠ 0) (s : Sub h i (h.branches.getD j default).up.toNat) : Sub h i j
section
variable {h : Hall} (ok : HOk h)
include ok
theorem Sub.le {i j : Nat} (s : Sub h i j) : i ≤ j := by
  induction s with
  | self => exact Nat.le_refl _
  | step hj h0 s ih =>
    have := up_of ok hj h0
    omega
omit ok in
theorem Sub.chain {a b j : Nat} (s : Sub h a j) : Sub h b j → Sub h a b ∨ Sub h b a := by
  induction s with
  | self => intro t; exact .inr t
  | step hj h0 s ih =>
    intro t
    cases t with
    | self => exact .inl (.step hj h0 s)
    | step hj' h0' t => exact ih t
theorem Sub.one {c d i j : Nat} (s : Sub h c j) (t : Sub h d j) (hc : c < h.branches.length) (hd : d < h.branches.length) (hc0 : c ≠ 0) (hd0 : d ≠ 0) (uc : (h.branches.getD c default).up = i) (ud : (h.branches.getD d default).up = i) : c = d := by
  have h1 := up_of ok hc hc0
  have h2 := up_of ok hd hd0
  rcases s.chain t with h3 | h3
  · cases h3 with
    | self => rfl
    | step hj h0 h4 =>
      have := h4.le ok
      omega
  · cases h3 with
    | self => rfl
    | step hj h0 h4 =>
      have := h4.le ok
      omega
theorem Sub.split {i j : Nat} (s : Sub h i j) : i = j ∨ ∃ c, c < h.branches.length ∧ c ≠ 0 ∧ (h.branches.getD c default).up = i ∧ Sub h c j := by
  induction s with
  | self => exact .inl rfl
  | @step j hj h0 s ih =>
    right
    have h1 := up_of ok hj h0
    rcases ih with h2 | ⟨c, a, b, d, e⟩
    · exact ⟨j, hj, h0, by omega, .self j⟩
    · exact ⟨c, a, b, d, .step hj h0 e⟩
omit ok in
theorem Sub.under {i c j : Nat} (hc : c < h.branches.length) (h0 : c ≠ 0) (u : (h.branches.getD c default).up = i) (s : Sub h c j) : Sub h i j := by
  induction s with
  | self => exact .step hc h0 (by rw [u]; simpa using Sub.self i)
  | step hj h0 s ih => exact .step hj h0 ih
theorem zero_below {pump : Int} {i j : Nat} (hs : ¬ 0 < sumOpen h i h.branches.length) (s : Sub h i j) : j ≠ i → (flowsL h pump).getD j 0 = 0 := by
  induction s with
  | self => intro hn; exact absurd rfl hn
  | @step j hj h0 s ih =>
    intro _
    have h1 := up_of ok hj h0
    have h2 := (ok.branch j hj).2.2
    rw [flows_at ok hj]
    have h3 : feedOf h pump (flowsL h pump) j = 0 := by
      unfold feedOf
      rw [if_neg h0]
      by_cases hu : (h.branches.getD j default).up.toNat = i
      · rw [if_neg]
        rw [show (h.branches.getD j default).up = (i : Int) by omega]
        exact hs
      · rw [ih hu]
        split
        · simp
        · rfl
    rw [h3]
    omega
end
end Go.X

/- What a hall whose numbers are allowed has; slopes. No condition. -/
set_option linter.unusedVariables false
namespace Go.X.Ht
theorem allowed_facts {h : Hall} (ha : allowedP h = true) :
    (∀ i, i < h.rooms.length → 1 ≤ (h.rooms.getD i default).store ∧ (h.rooms.getD i default).store ≤ 1000000 ∧ 0 ≤ (h.rooms.getD i default).limit ∧ (h.rooms.getD i default).limit ≤ 1000000) ∧
    (∀ i, i < h.walls.length → (0 ≤ (h.walls.getD i default).a ∧ (h.walls.getD i default).a < h.rooms.length) ∧ ((h.walls.getD i default).b = -1 ∨ (0 ≤ (h.walls.getD i default).b ∧ (h.walls.getD i default).b < h.rooms.length)) ∧
      (h.walls.getD i default).a ≠ (h.walls.getD i default).b ∧ 0 ≤ (h.walls.getD i default).pass ∧ (h.walls.getD i default).pass ≤ 100000) ∧
    (∀ i, i < h.coolers.length → (0 ≤ (h.coolers.getD i default).room ∧ (h.coolers.getD i default).room < h.rooms.length) ∧ (0 ≤ (h.coolers.getD i default).br ∧ (h.coolers.getD i default).br < h.branches.length) ∧
      (0 ≤ (h.coolers.getD i default).gain ∧ (h.coolers.getD i default).gain ≤ 100000) ∧ (0 ≤ (h.coolers.getD i default).carry ∧ (h.coolers.getD i default).carry ≤ 1000) ∧ 0 ≤ (h.coolers.getD i default).supply ∧ (h.coolers.getD i default).supply ≤ 1000000) := by
  simp only [allowedP, Bool.and_eq_true] at ha
  obtain ⟨⟨⟨a1, a2⟩, a3⟩, a4⟩ := ha
  refine ⟨fun i hi => ?_, fun i hi => ?_, fun i hi => ?_⟩
  · have := allTo_at a1 hi
    simp only [okRoom, inP, Bool.and_eq_true, decide_eq_true_eq] at this
    omega
  · have := allTo_at a2 hi
    simp only [okWall, inP, ixP, Bool.and_eq_true, Bool.or_eq_true, decide_eq_true_eq] at this
    omega
  · have := allTo_at a4 hi
    simp only [okCooler, inP, ixP, Bool.and_eq_true, decide_eq_true_eq] at this
    omega
theorem wslope_rng {h : Hall} (ha : allowedP h = true) (i : Nat) {k : Nat} (hk : k < h.walls.length) : 0 ≤ wslope h i k ∧ wslope h i k ≤ 100000 := by
  have := (allowed_facts ha).2.1 k hk
  unfold wslope
  split <;> omega
theorem cslope_rng {h : Hall} (ha : allowedP h = true) (i : Nat) {k : Nat} (hk : k < h.coolers.length) : 0 ≤ cslope h i k ∧ cslope h i k ≤ 100000 := by
  have := (allowed_facts ha).2.2 k hk
  unfold cslope
  split <;> omega
theorem wsum_rng {h : Hall} (ha : allowedP h = true) (hw : h.walls.length ≤ 16) (i : Nat) {k : Nat} (hk : k ≤ h.walls.length) : 0 ≤ sumTo (wslope h i) k ∧ sumTo (wslope h i) k ≤ 1600000 := by
  have h1 := sum_nonneg (f := wslope h i) (n := k) fun j hj => (wslope_rng ha i (by omega)).1
  have h2 := sum_le (f := wslope h i) (n := k) (M := 100000) fun j hj => (wslope_rng ha i (by omega)).2
  omega
theorem csum_rng {h : Hall} (ha : allowedP h = true) (hc : h.coolers.length ≤ 16) (i : Nat) {k : Nat} (hk : k ≤ h.coolers.length) : 0 ≤ sumTo (cslope h i) k ∧ sumTo (cslope h i) k ≤ 1600000 := by
  have h1 := sum_nonneg (f := cslope h i) (n := k) fun j hj => (cslope_rng ha i (by omega)).1
  have h2 := sum_le (f := cslope h i) (n := k) (M := 100000) fun j hj => (cslope_rng ha i (by omega)).2
  omega
end Go.X.Ht

/- Feeding the branches, one after the other. No condition. -/
set_option linter.unusedVariables false
namespace Go.X.Ht
theorem open_pos {h : Hall} {u : Int} {k : Nat} (hu : (h.branches.getD k default).up = u) : sumOpen h u k + (h.branches.getD k default).opn = sumOpen h u (k + 1) := by
  unfold sumOpen; rw [sumTo, if_pos hu]
theorem open_neg {h : Hall} {u : Int} {k : Nat} (hu : ¬ (h.branches.getD k default).up = u) : sumOpen h u k = sumOpen h u (k + 1) := by
  unfold sumOpen; rw [sumTo, if_neg hu, Int.add_zero]
def Done (h : Hall) (i k j : Nat) : Prop := j = i ∨ ∃ c, c < k ∧ c ≠ 0 ∧ (h.branches.getD c default).up = (i : Int) ∧ Sub h c j
theorem done_succ {h : Hall} {i k j : Nat} : Done h i (k + 1) j ↔ Done h i k j ∨ (k ≠ 0 ∧ (h.branches.getD k default).up = (i : Int) ∧ Sub h k j) := by
  unfold Done
  constructor
  · rintro (h1 | ⟨c, a, b, d, e⟩)
    · exact .inl (.inl h1)
    · rcases Nat.lt_or_ge c k with h2 | h2
      · exact .inl (.inr ⟨c, h2, b, d, e⟩)
      · have h3 : c = k := by omega
        subst h3
        exact .inr ⟨b, d, e⟩
  · rintro ((h1 | ⟨c, a, b, d, e⟩) | ⟨b, d, e⟩)
    · exact .inl h1
    · exact .inr ⟨c, by omega, b, d, e⟩
    · exact .inr ⟨k, by omega, b, d, e⟩
/-- The state of the list while the branches below i are fed: the first k are looked at. -/
structure Fed (h : Hall) (pump : Int) (i k : Nat) (o z : List Int) : Prop where
  len : z.length = h.branches.length
  yes : ∀ j, j < h.branches.length → Done h i k j → z.getD j 0 = (flowsL h pump).getD j 0
  no : ∀ j, ¬ Done h i k j → z.getD j 0 = o.getD j 0
section
variable {h : Hall} (ok : HOk h) {pump : Int} {i : Nat} {o z : List Int}
include ok
theorem done_sub {j : Nat} (hi : i < h.branches.length) : Sub h i j ↔ Done h i h.branches.length j := by
  constructor
  · intro s
    rcases s.split ok with h1 | ⟨c, a, b, d, e⟩
    · exact .inl h1.symm
    · exact .inr ⟨c, a, b, d, e⟩
  · rintro (h1 | ⟨c, a, b, d, e⟩)
    · rw [h1]; exact .self i
    · exact Sub.under a b d e
theorem not_zero {k : Nat} (hk : k < h.branches.length) (u : (h.branches.getD k default).up = (i : Int)) : k ≠ 0 := by
  rintro rfl
  have := up_zero ok hk
  omega
theorem apart {k j : Nat} (hk : k < h.branches.length) (u : (h.branches.getD k default).up = (i : Int)) (s : Sub h k j) : ¬ Done h i k j := by
  have h0 := not_zero ok hk u
  have h1 := up_of ok hk h0
  rintro (h2 | ⟨c, a, b, d, e⟩)
  · have := s.le ok
    omega
  · have := Sub.one ok e s (by omega) hk b h0 d u
    omega
theorem feed_child {k : Nat} (hk : k < h.branches.length) (u : (h.branches.getD k default).up = (i : Int)) (hs : 0 < sumOpen h i h.branches.length) :
    (flowsL h pump).getD k 0 = max ((flowsL h pump).getD i 0 * (h.branches.getD k default).opn / sumOpen h i h.branches.length - (h.branches.getD k default).leak) 0 := by
  rw [flows_at ok hk]
  unfold feedOf
  rw [if_neg (not_zero ok hk u), u, if_pos hs, Int.toNat_natCast]
omit ok in
theorem fed_start (hi : i < h.branches.length) (ho : o.length = h.branches.length) : Fed h pump i 0 o (o.set i ((flowsL h pump).getD i 0)) where
  len := by rw [List.length_set]; exact ho
  yes := fun j hj hd => by
    rcases hd with h1 | ⟨c, a, _⟩
    · subst h1
      rw [List.getD_eq_getElem?_getD, List.getElem?_set, if_pos rfl, if_pos (by omega)]; rfl
    · omega
  no := fun j hn => by
    rw [List.getD_eq_getElem?_getD, List.getElem?_set, if_neg (fun h1 => hn (.inl h1.symm)), ← List.getD_eq_getElem?_getD]
theorem fed_skip {k : Nat} (f : Fed h pump i k o z) (hk : k < h.branches.length) (hz : ∀ j, Sub h i j → o.getD j 0 = 0) (hn : ¬ ((h.branches.getD k default).up = (i : Int) ∧ 0 < sumOpen h i h.branches.length)) : Fed h pump i (k + 1) o z where
  len := f.len
  yes := fun j hj hd => by
    rcases done_succ.1 hd with h1 | ⟨h0, u, s⟩
    · exact f.yes j hj h1
    · have hs : ¬ 0 < sumOpen h i h.branches.length := fun h => hn ⟨u, h⟩
      have hu := up_of ok hk h0
      have hsi : Sub h i j := Sub.under hk h0 u s
      rw [f.no j (apart ok hk u s), hz j hsi, zero_below ok hs hsi (by have := s.le ok; omega)]
  no := fun j hd => f.no j fun h1 => hd (done_succ.2 (.inl h1))
theorem fed_call {k : Nat} {y : List Int} (f : Fed h pump i k o z) (hk : k < h.branches.length) (u : (h.branches.getD k default).up = (i : Int)) (hl : y.length = h.branches.length)
    (hy : ∀ j, j < h.branches.length → Sub h k j → y.getD j 0 = (flowsL h pump).getD j 0) (hn : ∀ j, ¬ Sub h k j → y.getD j 0 = z.getD j 0) : Fed h pump i (k + 1) o y where
  len := hl
  yes := fun j hj hd => by
    by_cases s : Sub h k j
    · exact hy j hj s
    · rcases done_succ.1 hd with h1 | ⟨_, _, s'⟩
      · rw [hn j s]; exact f.yes j hj h1
      · exact absurd s' s
  no := fun j hd => by
    have h1 : ¬ Sub h k j := fun s => hd (done_succ.2 (.inr ⟨not_zero ok hk u, u, s⟩))
    rw [hn j h1]
    exact f.no j fun h2 => hd (done_succ.2 (.inl h2))
theorem fed_zero {k : Nat} (f : Fed h pump i k o z) (hk : k < h.branches.length) (u : (h.branches.getD k default).up = (i : Int)) (hz : ∀ j, Sub h i j → o.getD j 0 = 0) : ∀ j, Sub h k j → z.getD j 0 = 0 := fun j s => by
  rw [f.no j (apart ok hk u s)]
  exact hz j (Sub.under hk (not_zero ok hk u) u s)
theorem sub_root : ∀ j, j < h.branches.length → Sub h 0 j := by
  intro j
  induction j using Nat.strongRecOn with
  | _ j ih =>
    intro hj
    by_cases h0 : j = 0
    · rw [h0]; exact .self 0
    · have h1 := up_of ok hj h0
      exact .step hj h0 (ih _ (by omega) (by omega))
end
end Go.X.Ht

/- What coolers take; the heat that walls and coolers bring: in range. No condition. -/
set_option linter.unusedVariables false
set_option linter.unusedSectionVars false
namespace Go.X.Ht
theorem onBr_rng {h : Hall} (b : Int) (n : Nat) : 0 ≤ onBr h b n ∧ onBr h b n ≤ n := by
  have h1 := sum_nonneg (f := fun k => if (h.coolers.getD k default).br = b then (1 : Int) else 0) (n := n) fun k _ => by split <;> omega
  have h2 := sum_le (f := fun k => if (h.coolers.getD k default).br = b then (1 : Int) else 0) (n := n) (M := 1) fun k _ => by split <;> omega
  unfold onBr
  omega
theorem onBr_pos {h : Hall} {k : Nat} (hk : k < h.coolers.length) : 1 ≤ onBr h (h.coolers.getD k default).br h.coolers.length := by
  have := sum_one (f := fun j => if (h.coolers.getD j default).br = (h.coolers.getD k default).br then (1 : Int) else 0) hk fun j _ => by split <;> omega
  rw [if_pos rfl] at this
  exact this
theorem onBr_succ {h : Hall} {b : Int} {n : Nat} : onBr h b (n + 1) = onBr h b n + if (h.coolers.getD n default).br = b then 1 else 0 := rfl
theorem mul_abs {p d P D : Int} (hp : 0 ≤ p) (hp2 : p ≤ P) (hd : -D ≤ d) (hd2 : d ≤ D) (hD : 0 ≤ D) : -(P * D) ≤ p * d ∧ p * d ≤ P * D := by
  have h1 : p * d ≤ p * D := Int.mul_le_mul_of_nonneg_left hd2 hp
  have h2 : p * D ≤ P * D := Int.mul_le_mul_of_nonneg_right hp2 hD
  have h3 : p * (-D) ≤ p * d := Int.mul_le_mul_of_nonneg_left hd hp
  rw [Int.mul_neg] at h3
  omega
theorem sum_abs {f : Nat → Int} {M : Int} : ∀ {n : Nat}, (∀ k, k < n → -M ≤ f k ∧ f k ≤ M) → -(n * M) ≤ sumTo f n ∧ sumTo f n ≤ n * M
  | 0, _ => by simp [sumTo]
  | n + 1, h => by
    have h1 := sum_abs (f := f) (n := n) (M := M) fun k hk => h k (by omega)
    have h2 := h n (by omega)
    have h3 : ((n + 1 : Nat) : Int) * M = n * M + M := by rw [Int.natCast_add, Int.add_mul]; simp
    rw [sumTo, h3]; omega
section
variable {h : Hall} (ok : HOk h) {t : List Int} (ht : TOk h t)
include ok ht
theorem temp_at {i : Int} (h0 : 0 ≤ i) (h1 : i < h.rooms.length) : 0 ≤ t.getD i.toNat 0 ∧ t.getD i.toNat 0 ≤ 1000000 := ht.rng _ (by have := ht.len; omega)
theorem taken_rng {pump : Int} (hp : 0 ≤ pump) (hp2 : pump ≤ 100000) {k : Nat} (hk : k < h.coolers.length) : 0 ≤ takenAt h t (flowsL h pump) k ∧ takenAt h t (flowsL h pump) k ≤ 100000000000 := by
  have hc := ok.cooler k hk
  have hT := temp_at ok ht hc.1.1 hc.1.2
  have hF := flows_rng ok hp (h.coolers.getD k default).br.toNat (by omega)
  have hm := mul_abs (p := (h.coolers.getD k default).gain) (d := t.getD (h.coolers.getD k default).room.toNat 0 - (h.coolers.getD k default).supply) (P := 100000) (D := 1000000) hc.2.2.1.1 hc.2.2.1.2 (by omega) (by omega) (by omega)
  have hon := onBr_pos hk
  have hq : 0 ≤ (h.coolers.getD k default).carry * (flowsL h pump).getD (h.coolers.getD k default).br.toNat 0 / onBr h (h.coolers.getD k default).br h.coolers.length :=
    Int.ediv_nonneg (Int.mul_nonneg hc.2.2.2.1.1 hF.1) (by omega)
  unfold takenAt
  omega
theorem taken_getD {pump : Int} {k : Nat} (hk : k < h.coolers.length) : (takenL h t pump).getD k 0 = takenAt h t (flowsL h pump) k := by
  unfold takenL
  rw [List.getD_eq_getElem?_getD, List.getElem?_map, List.getElem?_range hk]; rfl
theorem wheat_rng {out : Int} (ho : 0 ≤ out ∧ out ≤ 1000000) {i k : Nat} (hi : i < h.rooms.length) (hk : k < h.walls.length) : -100000000000 ≤ wheat h t out i k ∧ wheat h t out i k ≤ 100000000000 := by
  have hw := ok.wall k hk
  have hA := temp_at ok ht hw.1.1 hw.1.2
  have hI := ht.rng i (by have := ht.len; omega)
  unfold wheat
  split
  · split
    · rename_i hb
      have hB := temp_at ok ht hb (by omega)
      have := mul_abs (p := (h.walls.getD k default).pass) (d := t.getD (h.walls.getD k default).b.toNat 0 - t.getD i 0) (P := 100000) (D := 1000000) hw.2.2.2.1 hw.2.2.2.2 (by omega) (by omega) (by omega)
      omega
    · have := mul_abs (p := (h.walls.getD k default).pass) (d := out - t.getD i 0) (P := 100000) (D := 1000000) hw.2.2.2.1 hw.2.2.2.2 (by omega) (by omega) (by omega)
      omega
  · split
    · have := mul_abs (p := (h.walls.getD k default).pass) (d := t.getD (h.walls.getD k default).a.toNat 0 - t.getD i 0) (P := 100000) (D := 1000000) hw.2.2.2.1 hw.2.2.2.2 (by omega) (by omega) (by omega)
      omega
    · omega
theorem wsum_abs {out : Int} (ho : 0 ≤ out ∧ out ≤ 1000000) {i n : Nat} (hi : i < h.rooms.length) (hn : n ≤ h.walls.length) : -1600000000000 ≤ sumTo (wheat h t out i) n ∧ sumTo (wheat h t out i) n ≤ 1600000000000 := by
  have h1 := sum_abs (f := wheat h t out i) (n := n) (M := 100000000000) fun k hk => wheat_rng ok ht ho hi (by omega)
  have h2 := ok.w2
  omega
theorem cheat_rng {pump : Int} (hp : 0 ≤ pump) (hp2 : pump ≤ 100000) {i k : Nat} (hk : k < h.coolers.length) : -100000000000 ≤ cheat h (takenL h t pump) i k ∧ cheat h (takenL h t pump) i k ≤ 100000000000 := by
  have h1 := taken_rng ok ht hp hp2 hk
  unfold cheat
  rw [taken_getD ok ht hk]
  split <;> omega
theorem csum_abs {pump : Int} (hp : 0 ≤ pump) (hp2 : pump ≤ 100000) {i n : Nat} (hn : n ≤ h.coolers.length) : -1600000000000 ≤ sumTo (cheat h (takenL h t pump) i) n ∧ sumTo (cheat h (takenL h t pump) i) n ≤ 1600000000000 := by
  have h1 := sum_abs (f := cheat h (takenL h t pump) i) (n := n) (M := 100000000000) fun k hk => cheat_rng ok ht hp hp2 (by omega)
  have h2 := ok.c2
  omega
end
end Go.X.Ht

/- The next temperatures: never below zero; monotone. No condition. -/
set_option linter.unusedVariables false
set_option linter.unusedSectionVars false
namespace Go.X.Ht
def wpart (h : Hall) (t : List Int) (out : Int) (i : Nat) (k : Nat) : Int :=
  if (h.walls.getD k default).a = i then (h.walls.getD k default).pass * (if 0 ≤ (h.walls.getD k default).b then t.getD (h.walls.getD k default).b.toNat 0 else out)
  else if (h.walls.getD k default).b = i then (h.walls.getD k default).pass * t.getD (h.walls.getD k default).a.toNat 0
  else 0
def cpart (h : Hall) (t tl : List Int) (i : Nat) (k : Nat) : Int := if (h.coolers.getD k default).room = i then (h.coolers.getD k default).gain * t.getD i 0 - tl.getD k 0 else 0
theorem wheat_eq (h : Hall) (t : List Int) (out : Int) (i k : Nat) : wheat h t out i k = wpart h t out i k + (- t.getD i 0) * wslope h i k := by
  unfold wheat wpart wslope
  by_cases h1 : (h.walls.getD k default).a = i
  · rw [if_pos h1, if_pos h1, if_pos (show (h.walls.getD k default).a = i ∨ (h.walls.getD k default).b = i from .inl h1), Int.mul_sub, Int.neg_mul, Int.mul_comm (t.getD i 0)]; omega
  · rw [if_neg h1, if_neg h1]
    by_cases h2 : (h.walls.getD k default).b = i
    · rw [if_pos h2, if_pos h2, if_pos (show (h.walls.getD k default).a = i ∨ (h.walls.getD k default).b = i from .inr h2), Int.mul_sub, Int.neg_mul, Int.mul_comm (t.getD i 0)]; omega
    · rw [if_neg h2, if_neg h2, if_neg (show ¬ ((h.walls.getD k default).a = i ∨ (h.walls.getD k default).b = i) by rintro (h | h) <;> contradiction)]; simp
theorem cheat_eq (h : Hall) (t tl : List Int) (i k : Nat) : cheat h tl i k = cpart h t tl i k + (- t.getD i 0) * cslope h i k := by
  unfold cheat cpart cslope
  by_cases h1 : (h.coolers.getD k default).room = i
  · rw [if_pos h1, if_pos h1, if_pos h1, Int.neg_mul, Int.mul_comm (t.getD i 0)]; omega
  · rw [if_neg h1, if_neg h1, if_neg h1]; simp
theorem heat_eq (h : Hall) (t : List Int) (c : HCase) (i : Nat) : heatOf h t c i =
    ((h.rooms.getD i default).store - slope h i) * t.getD i 0 + c.load.getD i 0 + sumTo (wpart h t c.out i) h.walls.length + sumTo (cpart h t (takenL h t c.pump) i) h.coolers.length := by
  have e1 : sumTo (wheat h t c.out i) h.walls.length = sumTo (wpart h t c.out i) h.walls.length + (- t.getD i 0) * sumTo (wslope h i) h.walls.length := by
    rw [sum_congr (g := fun k => wpart h t c.out i k + (- t.getD i 0) * wslope h i k) fun k _ => wheat_eq h t c.out i k, sum_add, sum_mul]
  have e2 : sumTo (cheat h (takenL h t c.pump) i) h.coolers.length = sumTo (cpart h t (takenL h t c.pump) i) h.coolers.length + (- t.getD i 0) * sumTo (cslope h i) h.coolers.length := by
    rw [sum_congr (g := fun k => cpart h t (takenL h t c.pump) i k + (- t.getD i 0) * cslope h i k) fun k _ => cheat_eq h t (takenL h t c.pump) i k, sum_add, sum_mul]
  unfold heatOf slope
  rw [e1, e2, Int.sub_mul, Int.add_mul, Int.neg_mul, Int.neg_mul, Int.mul_comm (sumTo (wslope h i) h.walls.length), Int.mul_comm (sumTo (cslope h i) h.coolers.length)]
  omega
section
variable {h : Hall} (ok : HOk h)
include ok
theorem flows_mono {p q : Int} (hp : 0 ≤ p) (hpq : p ≤ q) : ∀ i, i < h.branches.length → (flowsL h p).getD i 0 ≤ (flowsL h q).getD i 0 := by
  intro i
  induction i using Nat.strongRecOn with
  | _ i ih =>
    intro hi
    rw [flows_at ok hi, flows_at ok hi]
    have hfd : feedOf h p (flowsL h p) i ≤ feedOf h q (flowsL h q) i := by
      unfold feedOf
      by_cases h0 : i = 0
      · rw [if_pos h0, if_pos h0]; exact hpq
      · rw [if_neg h0, if_neg h0]
        obtain ⟨h1, h2⟩ := up_of ok hi h0
        split
        · rename_i hs
          have h3 := ih _ (show (h.branches.getD i default).up.toNat < i by omega) (by omega)
          exact Int.ediv_le_ediv hs (Int.mul_le_mul_of_nonneg_right h3 (ok.branch i hi).2.1.1)
        · exact Int.le_refl _
    omega
end
section
variable {h : Hall} (ok : HOk h) {t : List Int} (tk : TOk h t) {c : HCase} (ck : COk h c)
include ok tk ck
theorem taken_le {k : Nat} (hk : k < h.coolers.length) : (takenL h t c.pump).getD k 0 ≤ (h.coolers.getD k default).gain * t.getD (h.coolers.getD k default).room.toNat 0 := by
  rw [taken_getD ok tk hk]
  have hc := ok.cooler k hk
  have hT := temp_at ok tk hc.1.1 hc.1.2
  have h1 : (h.coolers.getD k default).gain * (t.getD (h.coolers.getD k default).room.toNat 0 - (h.coolers.getD k default).supply) ≤ (h.coolers.getD k default).gain * t.getD (h.coolers.getD k default).room.toNat 0 :=
    Int.mul_le_mul_of_nonneg_left (by omega) hc.2.2.1.1
  have h2 : 0 ≤ (h.coolers.getD k default).gain * t.getD (h.coolers.getD k default).room.toNat 0 := Int.mul_nonneg hc.2.2.1.1 hT.1
  unfold takenAt
  omega
theorem wpart_nonneg {i k : Nat} (hk : k < h.walls.length) : 0 ≤ wpart h t c.out i k := by
  have hw := ok.wall k hk
  have hA := temp_at ok tk hw.1.1 hw.1.2
  unfold wpart
  split
  · refine Int.mul_nonneg hw.2.2.2.1 ?_
    split
    · exact (temp_at ok tk (by assumption) (by omega)).1
    · exact ck.out.1
  · split
    · exact Int.mul_nonneg hw.2.2.2.1 hA.1
    · exact Int.le_refl _
theorem cpart_nonneg {i k : Nat} (hk : k < h.coolers.length) : 0 ≤ cpart h t (takenL h t c.pump) i k := by
  unfold cpart
  split
  · rename_i hr
    have := taken_le ok tk ck hk
    rw [hr, Int.toNat_natCast] at this
    omega
  · exact Int.le_refl _
theorem heat_nonneg {i : Nat} (hi : i < h.rooms.length) : 0 ≤ heatOf h t c i := by
  rw [heat_eq]
  have h1 := ok.slope i hi
  have h2 := tk.rng i (by have := tk.len; omega)
  have h3 := ck.rng i (by have := ck.len; omega)
  have h4 : 0 ≤ ((h.rooms.getD i default).store - slope h i) * t.getD i 0 := Int.mul_nonneg (by omega) h2.1
  have h5 := sum_nonneg (f := wpart h t c.out i) (n := h.walls.length) fun k hk => wpart_nonneg ok tk ck hk
  have h6 := sum_nonneg (f := cpart h t (takenL h t c.pump) i) (n := h.coolers.length) fun k hk => cpart_nonneg ok tk ck hk
  omega
theorem next_rng {i : Nat} (hi : i < h.rooms.length) : 0 ≤ nextAt h t c i ∧ nextAt h t c i ≤ 1000000 := by
  have h1 := heat_nonneg ok tk ck hi
  have h2 := ok.room i hi
  have h3 : 0 ≤ heatOf h t c i / (h.rooms.getD i default).store := Int.ediv_nonneg h1 (by omega)
  unfold nextAt
  omega
theorem next_getD {i : Nat} (hi : i < h.rooms.length) : (nextL h t c).getD i 0 = nextAt h t c i := by
  unfold nextL
  rw [List.getD_eq_getElem?_getD, List.getElem?_map, List.getElem?_range hi]; rfl
theorem next_ok : TOk h (nextL h t c) where
  len := by simp [nextL]
  rng := fun i hi => by
    have hi' : i < h.rooms.length := by simpa [nextL] using hi
    rw [next_getD ok tk ck hi']
    exact next_rng ok tk ck hi'
end
/-- Not lower. -/
def LeL (a b : List Int) : Prop := ∀ i, i < a.length → a.getD i 0 ≤ b.getD i 0
structure LeC (c d : HCase) : Prop where
  load : LeL c.load d.load
  out : c.out ≤ d.out
  pump : d.pump ≤ c.pump
section
variable {h : Hall} (ok : HOk h) {t u : List Int} (tk : TOk h t) (uk : TOk h u) {c d : HCase} (ck : COk h c) (dk : COk h d) (tu : LeL t u) (cd : LeC c d)
include ok tk uk ck dk tu cd
theorem temp_le {i : Int} (h0 : 0 ≤ i) (h1 : i < h.rooms.length) : t.getD i.toNat 0 ≤ u.getD i.toNat 0 := tu _ (by have := tk.len; omega)
theorem wpart_mono {i k : Nat} (hk : k < h.walls.length) : wpart h t c.out i k ≤ wpart h u d.out i k := by
  have hw := ok.wall k hk
  unfold wpart
  split
  · refine Int.mul_le_mul_of_nonneg_left ?_ hw.2.2.2.1
    split
    · exact temp_le ok tk uk ck dk tu cd (by assumption) (by omega)
    · exact cd.out
  · split
    · exact Int.mul_le_mul_of_nonneg_left (temp_le ok tk uk ck dk tu cd hw.1.1 hw.1.2) hw.2.2.2.1
    · exact Int.le_refl _
theorem taken_step {k : Nat} (hk : k < h.coolers.length) : (takenL h u d.pump).getD k 0 - (takenL h t c.pump).getD k 0 ≤
    (h.coolers.getD k default).gain * u.getD (h.coolers.getD k default).room.toNat 0 - (h.coolers.getD k default).gain * t.getD (h.coolers.getD k default).room.toNat 0 := by
  rw [taken_getD ok tk hk, taken_getD ok uk hk]
  have hc := ok.cooler k hk
  have hle := temp_le ok tk uk ck dk tu cd hc.1.1 hc.1.2
  have hg : (h.coolers.getD k default).gain * t.getD (h.coolers.getD k default).room.toNat 0 ≤ (h.coolers.getD k default).gain * u.getD (h.coolers.getD k default).room.toNat 0 := Int.mul_le_mul_of_nonneg_left hle hc.2.2.1.1
  have hF := flows_mono ok dk.pump.1 cd.pump (h.coolers.getD k default).br.toNat (by omega)
  have hq : (h.coolers.getD k default).carry * (flowsL h d.pump).getD (h.coolers.getD k default).br.toNat 0 / onBr h (h.coolers.getD k default).br h.coolers.length ≤
      (h.coolers.getD k default).carry * (flowsL h c.pump).getD (h.coolers.getD k default).br.toNat 0 / onBr h (h.coolers.getD k default).br h.coolers.length :=
    Int.ediv_le_ediv (by have := onBr_pos (h := h) hk; omega) (Int.mul_le_mul_of_nonneg_left hF hc.2.2.2.1.1)
  unfold takenAt
  rw [Int.mul_sub, Int.mul_sub]
  omega
theorem cpart_mono {i k : Nat} (hk : k < h.coolers.length) : cpart h t (takenL h t c.pump) i k ≤ cpart h u (takenL h u d.pump) i k := by
  unfold cpart
  split
  · rename_i hr
    have := taken_step ok tk uk ck dk tu cd hk
    rw [hr, Int.toNat_natCast] at this
    omega
  · exact Int.le_refl _
theorem heat_mono {i : Nat} (hi : i < h.rooms.length) : heatOf h t c i ≤ heatOf h u d i := by
  rw [heat_eq, heat_eq]
  have h1 := ok.slope i hi
  have h2 := tu i (by have := tk.len; omega)
  have h3 := cd.load i (by have := ck.len; omega)
  have h4 : ((h.rooms.getD i default).store - slope h i) * t.getD i 0 ≤ ((h.rooms.getD i default).store - slope h i) * u.getD i 0 := Int.mul_le_mul_of_nonneg_left h2 (by omega)
  have h5 := sum_mono (f := wpart h t c.out i) (g := wpart h u d.out i) (n := h.walls.length) fun k hk => wpart_mono ok tk uk ck dk tu cd hk
  have h6 := sum_mono (f := cpart h t (takenL h t c.pump) i) (g := cpart h u (takenL h u d.pump) i) (n := h.coolers.length) fun k hk => cpart_mono ok tk uk ck dk tu cd hk
  omega
theorem next_mono : LeL (nextL h t c) (nextL h u d) := fun i hi => by
  have hi' : i < h.rooms.length := by simpa [nextL] using hi
  rw [next_getD ok tk ck hi', next_getD ok uk dk hi']
  have h1 := heat_mono ok tk uk ck dk tu cd hi'
  have h2 := ok.room i hi'
  have h3 := Int.ediv_le_ediv (c := (h.rooms.getD i default).store) (by omega) h1
  unfold nextAt
  omega
end
end Go.X.Ht

/- What the statements of heat make of numbers, in plain lists. -/
set_option linter.unusedVariables false
namespace Go.X.Ht
def belowP (a b : List Int) : Bool := decide (a.length = b.length) && allTo (fun i => decide (a.getD i 0 ≤ b.getD i 0)) a.length
theorem below_iff {a b : List Int} : belowP a b = true ↔ a.length = b.length ∧ ∀ i, i < a.length → a.getD i 0 ≤ b.getD i 0 := by
  unfold belowP
  rw [Bool.and_eq_true, decide_eq_true_eq]
  refine and_congr_right fun _ => ⟨fun h i hi => by simpa using allTo_at h hi, fun h => ?_⟩
  unfold allTo
  rw [List.all_eq_true]
  intro i hi
  simpa using h i (List.mem_range.1 hi)
def lowL (a b : List Int) : List Int := (List.range a.length).map fun i => min (a.getD i 0) (b.getD i 0)
def highL (a b : List Int) : List Int := (List.range a.length).map fun i => max (a.getD i 0) (b.getD i 0)
def lowC (a b : HCase) : HCase := ⟨lowL a.load b.load, min a.out b.out, max a.pump b.pump⟩
def highC (a b : HCase) : HCase := ⟨highL a.load b.load, max a.out b.out, min a.pump b.pump⟩
theorem map_range_getD {n : Nat} {f : Nat → Int} {i : Nat} (hi : i < n) : ((List.range n).map f).getD i 0 = f i := by
  rw [List.getD_eq_getElem?_getD, List.getElem?_eq_getElem (by simpa using hi)]; simp
theorem lowL_len (a b : List Int) : (lowL a b).length = a.length := by simp [lowL]
theorem highL_len (a b : List Int) : (highL a b).length = a.length := by simp [highL]
theorem lowL_at {a b : List Int} {i : Nat} (hi : i < a.length) : (lowL a b).getD i 0 = min (a.getD i 0) (b.getD i 0) := map_range_getD hi
theorem highL_at {a b : List Int} {i : Nat} (hi : i < a.length) : (highL a b).getD i 0 = max (a.getD i 0) (b.getD i 0) := map_range_getD hi
def WarmOk (n : Nat) (t : List Int) : Prop := t.length = n ∧ ∀ i, i < t.length → 12000 ≤ t.getD i 0 ∧ t.getD i 0 ≤ 27300
def LoadOk (n : Nat) (t : List Int) : Prop := t.length = n ∧ ∀ i, i < t.length → 0 ≤ t.getD i 0 ∧ t.getD i 0 ≤ 255000
def CasedOk (n : Nat) (c : HCase) : Prop := LoadOk n c.load ∧ (10000 ≤ c.out ∧ c.out ≤ 35500) ∧ 0 ≤ c.pump ∧ c.pump ≤ 2550
def minTo (xs : List Int) : Nat → Int
  | 0 => xs.getD 0 0
  | i + 1 => min (minTo xs i) (xs.getD i 0)
def maxTo (xs : List Int) : Nat → Int
  | 0 => xs.getD 0 0
  | i + 1 => max (maxTo xs i) (xs.getD i 0)
theorem minTo_one (xs : List Int) : minTo xs 1 = xs.getD 0 0 := by rw [minTo, minTo]; omega
theorem maxTo_one (xs : List Int) : maxTo xs 1 = xs.getD 0 0 := by rw [maxTo, maxTo]; omega
theorem minTo_at (xs : List Int) : ∀ n, 0 < n → ∃ j, j < n ∧ minTo xs n = xs.getD j 0
  | 0, h => by omega
  | 1, _ => ⟨0, by omega, minTo_one xs⟩
  | n + 2, _ => by
    obtain ⟨j, hj, e⟩ := minTo_at xs (n + 1) (by omega)
    rw [minTo]
    by_cases hc : minTo xs (n + 1) ≤ xs.getD (n + 1) 0
    · exact ⟨j, by omega, by omega⟩
    · exact ⟨n + 1, by omega, by omega⟩
theorem maxTo_at (xs : List Int) : ∀ n, 0 < n → ∃ j, j < n ∧ maxTo xs n = xs.getD j 0
  | 0, h => by omega
  | 1, _ => ⟨0, by omega, maxTo_one xs⟩
  | n + 2, _ => by
    obtain ⟨j, hj, e⟩ := maxTo_at xs (n + 1) (by omega)
    rw [maxTo]
    by_cases hc : xs.getD (n + 1) 0 ≤ maxTo xs (n + 1)
    · exact ⟨j, by omega, by omega⟩
    · exact ⟨n + 1, by omega, by omega⟩
/-- What Made makes. -/
structure MOk (h : Hall) : Prop where
  ok : hcheck h = 0
  leak : ∀ i, i < h.branches.length → (h.branches.getD i default).leak ≤ 29
end Go.X.Ht

/- What Made makes is a valid hall. -/
set_option linter.unusedVariables false
namespace Go.X.Ht
/-- The slope of walls, of coolers. -/
def wS (ws : List HWall) (i : Nat) : Int := sumTo (fun k => if (ws.getD k default).a = i ∨ (ws.getD k default).b = i then (ws.getD k default).pass else 0) ws.length
def cS (cs : List HCooler) (i : Nat) : Int := sumTo (fun k => if (cs.getD k default).room = i then (cs.getD k default).gain else 0) cs.length
theorem sumTo_congr {f g : Nat → Int} : ∀ {n : Nat}, (∀ k, k < n → f k = g k) → sumTo f n = sumTo g n
  | 0, _ => rfl
  | n + 1, h => by rw [sumTo, sumTo, sumTo_congr fun k hk => h k (by omega), h n (by omega)]
theorem sn_lt {α : Type} [Inhabited α] {l : List α} {x : α} {k : Nat} (hk : k < l.length) : (l ++ [x]).getD k default = l.getD k default := by
  rw [List.getD_eq_getElem?_getD, List.getElem?_append, if_pos hk, ← List.getD_eq_getElem?_getD]
theorem sn_at {α : Type} [Inhabited α] {l : List α} {x : α} : (l ++ [x]).getD l.length default = x := by
  rw [List.getD_eq_getElem?_getD, List.getElem?_append, if_neg (by omega)]; simp
theorem wS_snoc (ws : List HWall) (w : HWall) (i : Nat) : wS (ws ++ [w]) i = wS ws i + if w.a = i ∨ w.b = i then w.pass else 0 := by
  unfold wS
  rw [List.length_append, List.length_singleton, sumTo, sumTo_congr (g := fun k => if (ws.getD k default).a = i ∨ (ws.getD k default).b = i then (ws.getD k default).pass else 0) fun k hk => by rw [sn_lt hk]]
  simp only [sn_at]
theorem cS_snoc (cs : List HCooler) (w : HCooler) (i : Nat) : cS (cs ++ [w]) i = cS cs i + if w.room = i then w.gain else 0 := by
  unfold cS
  rw [List.length_append, List.length_singleton, sumTo, sumTo_congr (g := fun k => if (cs.getD k default).room = i then (cs.getD k default).gain else 0) fun k hk => by rw [sn_lt hk]]
  simp only [sn_at]
def WOk (n : Nat) (w : HWall) : Prop := (0 ≤ w.a ∧ w.a < n) ∧ (w.b = -1 ∨ (0 ≤ w.b ∧ w.b < n)) ∧ w.a ≠ w.b ∧ 0 ≤ w.pass ∧ w.pass ≤ 39
def BOk (i : Nat) (b : HBranch) : Prop := (if i = 0 then b.up = -1 else 0 ≤ b.up ∧ b.up < i) ∧ (0 ≤ b.opn ∧ b.opn ≤ 100) ∧ 0 ≤ b.leak ∧ b.leak ≤ 29
def KOk (n m : Nat) (c : HCooler) : Prop := (0 ≤ c.room ∧ c.room < n) ∧ (0 ≤ c.br ∧ c.br < m) ∧ (0 ≤ c.gain ∧ c.gain ≤ 59) ∧ (0 ≤ c.carry ∧ c.carry ≤ 199) ∧ 0 ≤ c.supply ∧ c.supply ≤ 1000000
def Each {α : Type} [Inhabited α] (p : Nat → α → Prop) (l : List α) : Prop := ∀ i, i < l.length → p i (l.getD i default)
theorem Each.nil {α : Type} [Inhabited α] {p : Nat → α → Prop} : Each p ([] : List α) := fun i hi => by cases hi
theorem Each.snoc {α : Type} [Inhabited α] {p : Nat → α → Prop} {l : List α} {x : α} (h : Each p l) (hx : p l.length x) : Each p (l ++ [x]) := fun i hi => by
  rw [List.length_append, List.length_singleton] at hi
  by_cases hc : i < l.length
  · rw [sn_lt hc]; exact h i hc
  · have : i = l.length := by omega
    subst this; rw [sn_at]; exact hx
/-- A number added at a place. -/
def IsAt (n : Nat) (s : List Int) (f : Nat → Int) : Prop := s.length = n ∧ ∀ i, i < n → s.getD i 0 = f i
theorem IsAt.add {n : Nat} {s : List Int} {f : Nat → Int} (h : IsAt n s f) {a : Int} {p : Int} (ha : 0 ≤ a) (ha2 : a < n) : IsAt n (s.set a.toNat (s.getD a.toNat default + p)) (fun i => f i + if a = i then p else 0) := by
  refine ⟨by rw [List.length_set]; exact h.1, fun i hi => ?_⟩
  have h1 := h.1
  show _ = f i + if a = i then p else 0
  rw [List.getD_eq_getElem?_getD, List.getElem?_set]
  by_cases hc : a.toNat = i
  · rw [if_pos hc, if_pos (by omega), if_pos (by omega), Option.getD_some, hc]
    have := h.2 i hi
    change s.getD i default = _ at this
    rw [this]
  · rw [if_neg hc, if_neg (by omega), ← List.getD_eq_getElem?_getD, h.2 i hi, Int.add_zero]
theorem IsAt.congr {n : Nat} {s : List Int} {f g : Nat → Int} (h : IsAt n s f) (hfg : ∀ i, i < n → f i = g i) : IsAt n s g := ⟨h.1, fun i hi => (h.2 i hi).trans (hfg i hi)⟩
theorem IsAt.zero (n : Nat) : IsAt n (List.replicate n 0) (wS []) := ⟨by simp, fun i hi => by rw [List.getD_eq_getElem?_getD, List.getElem?_replicate, if_pos hi]; rfl⟩
theorem IsAt.wall {n : Nat} {s : List Int} {ws : List HWall} (h : IsAt n s (wS ws)) {a b p : Int} (ha : 0 ≤ a) (ha2 : a < n) (hb : 0 ≤ b) (hb2 : b < n) (hab : a ≠ b) :
    IsAt n ((s.set a.toNat (s.getD a.toNat default + p)).set b.toNat ((s.set a.toNat (s.getD a.toNat default + p)).getD b.toNat default + p)) (wS (ws ++ [⟨a, b, p⟩])) :=
  ((h.add (p := p) ha ha2).add (p := p) hb hb2).congr fun i hi => by
    rw [wS_snoc]
    dsimp only
    by_cases h1 : a = i
    · rw [if_pos h1, if_neg (by omega), if_pos (.inl h1), Int.add_zero]
    · by_cases h2 : b = i
      · rw [if_neg h1, if_pos h2, if_pos (.inr h2), Int.add_zero]
      · rw [if_neg h1, if_neg h2, if_neg (by omega), Int.add_zero, Int.add_zero]
theorem IsAt.none {n : Nat} {s : List Int} {ws : List HWall} (h : IsAt n s (wS ws)) : IsAt n s (fun i => wS ws i + cS [] i) := h.congr fun i _ => by rw [show cS [] i = 0 from rfl, Int.add_zero]
theorem IsAt.cooler {n : Nat} {s : List Int} {ws : List HWall} {cs : List HCooler} (h : IsAt n s (fun i => wS ws i + cS cs i)) {c : HCooler} (ha : 0 ≤ c.room) (ha2 : c.room < n) :
    IsAt n (s.set c.room.toNat (s.getD c.room.toNat default + c.gain)) (fun i => wS ws i + cS (cs ++ [c]) i) :=
  (h.add (p := c.gain) ha ha2).congr fun i hi => by rw [cS_snoc, Int.add_assoc]
def ROk (ws : List HWall) (cs : List HCooler) (i : Nat) (r : HRoom) : Prop := wS ws i + cS cs i ≤ r.store ∧ 1 ≤ r.store ∧ r.store ≤ 1000000 ∧ 0 ≤ r.limit ∧ r.limit ≤ 1000000
theorem allTo_of {p : Nat → Bool} {n : Nat} (h : ∀ i, i < n → p i = true) : allTo p n = true := by
  unfold allTo
  rw [List.all_eq_true]
  exact fun i hi => h i (List.mem_range.1 hi)
theorem made_ok {rs : List HRoom} {ws : List HWall} {bs : List HBranch} {cs : List HCooler} (hr : 1 ≤ rs.length) (hr2 : rs.length ≤ 4) (hw : ws.length ≤ 6) (hb : bs.length ≤ 6) (hc : cs.length ≤ 6)
    (er : Each (ROk ws cs) rs) (ew : Each (fun _ => WOk rs.length) ws) (eb : Each BOk bs) (ec : Each (fun _ => KOk rs.length bs.length) cs) : MOk ⟨rs, ws, bs, cs⟩ := by
  refine ⟨?_, fun i hi => (eb i hi).2.2.2⟩
  unfold hcheck
  dsimp only
  rw [if_neg (by omega), if_neg, if_pos]
  · exact allTo_of fun i hi => by rw [decide_eq_true_eq]; exact (er i hi).1
  · rw [Bool.not_eq_false]
    simp only [allowedP, Bool.and_eq_true]
    refine ⟨⟨⟨allTo_of fun i hi => ?_, allTo_of fun i hi => ?_⟩, allTo_of fun i hi => ?_⟩, allTo_of fun i hi => ?_⟩
    · have := er i hi
      unfold ROk at this
      simp only [okRoom, inP, Bool.and_eq_true, decide_eq_true_eq]
      omega
    · have := ew i hi
      unfold WOk at this
      simp only [okWall, inP, ixP, Bool.and_eq_true, Bool.or_eq_true, decide_eq_true_eq]
      omega
    · have := eb i hi
      unfold BOk at this
      by_cases h0 : i = 0
      · subst h0
        simp only [okBranch, inP, if_true, Bool.and_eq_true, decide_eq_true_eq] at this ⊢
        omega
      · rw [if_neg h0] at this
        simp only [okBranch, inP, ixP, if_neg h0, Bool.and_eq_true, decide_eq_true_eq]
        omega
    · have := ec i hi
      unfold KOk at this
      simp only [okCooler, inP, ixP, Bool.and_eq_true, decide_eq_true_eq]
      omega
end Go.X.Ht

/- Laws of the steps of what Made, Warm and Cased make. -/
set_option linter.unusedVariables false
namespace Go.X.Ht
theorem WarmOk.low {n : Nat} {a b : List Int} (ha : WarmOk n a) (hb : WarmOk n b) : WarmOk n (lowL a b) := ⟨(lowL_len a b).trans ha.1, fun i hi => by
  rw [lowL_len] at hi
  have h1 := ha.2 i hi
  have h2 := hb.2 i (by have := ha.1; have := hb.1; omega)
  rw [lowL_at hi]; omega⟩
theorem WarmOk.high {n : Nat} {a b : List Int} (ha : WarmOk n a) (hb : WarmOk n b) : WarmOk n (highL a b) := ⟨(highL_len a b).trans ha.1, fun i hi => by
  rw [highL_len] at hi
  have h1 := ha.2 i hi
  have h2 := hb.2 i (by have := ha.1; have := hb.1; omega)
  rw [highL_at hi]; omega⟩
theorem LoadOk.low {n : Nat} {a b : List Int} (ha : LoadOk n a) (hb : LoadOk n b) : LoadOk n (lowL a b) := ⟨(lowL_len a b).trans ha.1, fun i hi => by
  rw [lowL_len] at hi
  have h1 := ha.2 i hi
  have h2 := hb.2 i (by have := ha.1; have := hb.1; omega)
  rw [lowL_at hi]; omega⟩
theorem LoadOk.high {n : Nat} {a b : List Int} (ha : LoadOk n a) (hb : LoadOk n b) : LoadOk n (highL a b) := ⟨(highL_len a b).trans ha.1, fun i hi => by
  rw [highL_len] at hi
  have h1 := ha.2 i hi
  have h2 := hb.2 i (by have := ha.1; have := hb.1; omega)
  rw [highL_at hi]; omega⟩
theorem CasedOk.low {n : Nat} {a b : HCase} (ha : CasedOk n a) (hb : CasedOk n b) : CasedOk n (lowC a b) :=
  ⟨ha.1.low hb.1, by have := ha.2.1; have := hb.2.1; unfold lowC; dsimp only; omega, by have := ha.2.2; have := hb.2.2; unfold lowC; dsimp only; omega⟩
theorem CasedOk.high {n : Nat} {a b : HCase} (ha : CasedOk n a) (hb : CasedOk n b) : CasedOk n (highC a b) :=
  ⟨ha.1.high hb.1, by have := ha.2.1; have := hb.2.1; unfold highC; dsimp only; omega, by have := ha.2.2; have := hb.2.2; unfold highC; dsimp only; omega⟩
theorem nextL_len (h : Hall) (t : List Int) (c : HCase) : (nextL h t c).length = h.rooms.length := by simp [nextL]
theorem below_of {a b : List Int} (hl : a.length = b.length) (h : LeL a b) : belowP a b = true := below_iff.2 ⟨hl, h⟩
/-- The statement HeatMonotone. -/
theorem monotone {h : Hall} (hc : hcheck h = 0) {s t : List Int} (t1 : TOk h s) (t2 : TOk h t) {a b : HCase} (c1 : COk h a) (c2 : COk h b) (st : LeL s t) (ab : LeC a b) :
    belowP (nextL h s a) (nextL h t b) = true ∧ 0 ≤ minTo (nextL h s a) (nextL h s a).length ∧ maxTo (nextL h t b) (nextL h t b).length ≤ 1000000 := by
  have ok := hcheck_ok hc
  have r1 := ok.r1
  refine ⟨below_of (by rw [nextL_len, nextL_len]) (next_mono ok t1 t2 c1 c2 st ab), ?_, ?_⟩
  · obtain ⟨j, hj, e⟩ := minTo_at (nextL h s a) (nextL h s a).length (by rw [nextL_len]; omega)
    rw [e]
    exact ((next_ok ok t1 c1).rng j hj).1
  · obtain ⟨j, hj, e⟩ := maxTo_at (nextL h t b) (nextL h t b).length (by rw [nextL_len]; omega)
    rw [e]
    exact ((next_ok ok t2 c2).rng j hj).2
end Go.X.Ht

/- The core of a small program logic over the machine: symbolic temporaries, memory as partial heaps, one judgement for a frame's todo list and one for a region's operations. No condition. -/
namespace Go.X

/-! ### temporaries -/
abbrev Env := List (Nat × Option Value)
def find : Env → Nat → Option Value
  | [], _ => none
  | (k, v) :: r, t => match Nat.beq t k with
    | true => v
    | false => find r t
def ERel (e : Env) (a : Array Value) : Prop := ∀ t v, find e t = some v → a.getD t undef = v
def ev (e : Env) : Operand → Option Value
  | .tmp t => find e t
  | .const v => some v
  | .global g => some (.pointer (some ⟨g, 0, none⟩))
  | .func f => some (.func (.func f) #[] #[])
def evA (a : Array Value) : Operand → Value
  | .tmp t => a.getD t undef
  | .const v => v
  | .global g => .pointer (some ⟨g, 0, none⟩)
  | .func f => .func (.func f) #[] #[]
def put (a : Array Value) (d : Option Tmp) (v : Value) : Array Value :=
  match d with
  | some d => a.setIfInBounds d v
  | none => a
theorem ev_rel {e : Env} {a : Array Value} (h : ERel e a) {x : Operand} {v : Value} (hx : ev e x = some v) : evA a x = v := by
  cases x <;> simp only [ev, evA, Option.some.injEq] at * <;> first | exact h _ _ hx | exact hx
theorem size_put (a : Array Value) (d : Option Tmp) (v : Value) : (put a d v).size = a.size := by cases d <;> simp [put]
theorem ERel.put {e : Env} {a : Array Value} {d : Nat} {v : Value} (h : ERel e a) (hd : d < a.size) : ERel ((d, some v) :: e) (put a (some d) v) := by
  intro t u hf
  simp only [find] at hf
  split at hf
  · rename_i hb
    have := Nat.eq_of_beq_eq_true hb
    subst this
    simp only [X.put, Option.some.injEq] at *
    subst hf
    simp [hd]
  · rename_i hb
    have hne : d ≠ t := by rintro rfl; simp [Nat.beq_refl] at hb
    have := h t u hf
    simpa [X.put, Array.getElem?_setIfInBounds_ne hne] using this
/-! ### memory -/
/-- A part of the heap; 'm' tells, where it is there, what the world says outside the heap. -/
structure PHeap where
  f : Nat → Option Obj
  m : Option (Os × Array (Nat × ByteArray))
instance : CoeFun PHeap (fun _ => Nat → Option Obj) := ⟨PHeap.f⟩
def mt (w : World) : Os × Array (Nat × ByteArray) := (w.os, w.output)
def Disj (h g : PHeap) : Prop := ∀ b, h b = none ∨ g b = none
def sub (h : PHeap) (w : World) : Prop := ∀ b o, h b = some o → w.heap[b]? = some o
theorem Disj.symm {h g : PHeap} (d : Disj h g) : Disj g h := fun b => (d b).symm
def emp : PHeap := ⟨fun _ => none, none⟩
theorem emp_disj (h : PHeap) : Disj emp h := fun _ => .inl rfl
def sing (b : Nat) (o : Obj) : PHeap := ⟨fun x => if x = b then some o else none, none⟩
def blk (b : Nat) (cs : List Value) (T : TypeId) : PHeap := sing b (.cells cs.toArray T (0, 0))
theorem sing_self (b : Nat) (o : Obj) : sing b o b = some o := by simp [sing]
theorem sing_some {b x : Nat} {o o' : Obj} (h : sing b o x = some o') : x = b ∧ o' = o := by
  unfold sing at h; dsimp only at h; split at h
  · exact ⟨‹_›, by simpa using h.symm⟩
  · cases h
structure Sep (o r : List PHeap) (w : World) : Prop where
  pw : o.Pairwise Disj
  dr : ∀ h ∈ o, ∀ g ∈ r, Disj h g
  so : ∀ h ∈ o, sub h w
  sr : ∀ g ∈ r, sub g w
  no : ∀ h ∈ o, h.m = none
  sm : ∀ g ∈ r, ∀ m, g.m = some m → mt w = m
theorem Disj.perm {o o' : List PHeap} (p : o.Perm o') (h : o.Pairwise Disj) : o'.Pairwise Disj := (p.pairwise_iff (fun {_ _} d => Disj.symm d)).1 h
theorem Sep.perm {o o' r : List PHeap} {w : World} (p : o.Perm o') (s : Sep o r w) : Sep o' r w where
  pw := Disj.perm p s.pw
  dr := fun h hh => s.dr h (p.mem_iff.2 hh)
  so := fun h hh => s.so h (p.mem_iff.2 hh)
  sr := s.sr
  no := fun h hh => s.no h (p.mem_iff.2 hh)
  sm := s.sm
theorem sub_lt {h : PHeap} {w : World} (s : sub h w) {b : Nat} {o : Obj} (hb : h b = some o) : b < w.heap.size := by
  have := s b o hb
  exact (Array.getElem?_eq_some_iff.1 this).1

theorem Sep.tail {h : PHeap} {o r : List PHeap} {w : World} (s : Sep (h :: o) r w) : Sep o r w :=
  ⟨(List.pairwise_cons.1 s.pw).2, fun g hg => s.dr g (List.mem_cons_of_mem _ hg), fun g hg => s.so g (List.mem_cons_of_mem _ hg), s.sr, fun g hg => s.no g (List.mem_cons_of_mem _ hg), s.sm⟩
theorem Sep.empC {o r : List PHeap} {w : World} (s : Sep o r w) : Sep (emp :: o) r w :=
  ⟨List.pairwise_cons.2 ⟨fun h _ => emp_disj h, s.pw⟩, fun h hh => by
    rcases List.mem_cons.1 hh with rfl | hh
    · exact fun g _ => emp_disj g
    · exact s.dr h hh, fun h hh => by
    rcases List.mem_cons.1 hh with rfl | hh
    · intro b o hb; cases hb
    · exact s.so h hh, s.sr, fun h hh => by
    rcases List.mem_cons.1 hh with rfl | hh
    · rfl
    · exact s.no h hh, s.sm⟩
/-! ### frames and steps -/
def mk (f : FuncId) (rd : Option Nat) (a : Array Value) (ds : List Deferred) (k : List Item) : Frame :=
  { fn := f, tmps := a, todo := k, defers := ds, mode := .run, kind := .normal, roundOf := rd }
def marks (ds : List Nat) : List Deferred := ds.map fun r => { target := .collected r, args := #[] }
section
variable {P : Program} {f : FuncId} {rd : Option Nat} {a : Array Value} {ds : List Deferred} {k : List Item} {cs : List Frame} {w : World}
theorem step_skip : step P (lone (mk f rd a ds (.code .skip :: k)) cs w) = .next (lone (mk f rd a ds k) cs w) :=
  step_lone_go (by simp [stepG, stepG.exec, mk])
theorem step_label {l : Nat} : step P (lone (mk f rd a ds (.code (.label l) :: k)) cs w) = .next (lone (mk f rd a ds k) cs w) :=
  step_lone_go (by simp [stepG, stepG.exec, mk])
theorem step_inBlock {id : Nat} : step P (lone (mk f rd a ds (.inBlock id :: k)) cs w) = .next (lone (mk f rd a ds k) cs w) :=
  step_lone_go (by simp [stepG, stepG.exec, mk])
theorem step_inScope {c : Code} : step P (lone (mk f rd a ds (.inScope c :: k)) cs w) = .next (lone (mk f rd a ds k) cs w) :=
  step_lone_go (by simp [stepG, stepG.exec, mk])
theorem step_seq {x y : Code} :
    step P (lone (mk f rd a ds (.code (.seq x y) :: k)) cs w) = .next (lone (mk f rd a ds (.code x :: .code y :: k)) cs w) :=
  step_lone_go (by simp [stepG, stepG.exec, mk])
theorem eval_mk (x : Operand) : (mk f rd a ds k).eval x = evA a x := by cases x <;> rfl
theorem step_cond {c : Operand} {x y : Code} {t : Bool} (h : evA a c = .bool t) :
    step P (lone (mk f rd a ds (.code (.cond c x y) :: k)) cs w) = .next (lone (mk f rd a ds (.code (if t then x else y) :: k)) cs w) :=
  step_lone_go (by
    have := eval_mk (f := f) (rd := rd) (a := a) (ds := ds) (k := .code (.cond c x y) :: k) c
    simp only [mk] at this
    simp [stepG, stepG.exec, mk, this, h])
theorem step_block {id : Nat} {c : Code} :
    step P (lone (mk f rd a ds (.code (.block id c) :: k)) cs w) = .next (lone (mk f rd a ds (.code c :: .inBlock id :: k)) cs w) :=
  step_lone_go (by simp [stepG, stepG.exec, mk])
theorem step_scope {c : Code} :
    step P (lone (mk f rd a ds (.code (.scope c) :: k)) cs w) = .next (lone (mk f rd a ds (.code c :: .inScope c :: k)) cs w) :=
  step_lone_go (by simp [stepG, stepG.exec, mk])
theorem step_loop {c : Code} :
    step P (lone (mk f rd a ds (.code (.loop c) :: k)) cs w) = .next (lone (mk f rd a ds (.code c :: .inLoop c :: k)) cs w) :=
  step_lone_go (by simp [stepG, stepG.exec, mk])
theorem step_inLoop {c : Code} :
    step P (lone (mk f rd a ds (.inLoop c :: k)) cs w) = .next (lone (mk f rd a ds (.code c :: .inLoop c :: k)) cs w) :=
  step_lone_go (by simp [stepG, stepG.exec, mk])
theorem step_exit {id : Nat} {k' : List Item} (h : exitTo id k = some k') :
    step P (lone (mk f rd a ds (.code (.exit id) :: k)) cs w) = .next (lone (mk f rd a ds k') cs w) :=
  step_lone_go (by simp [stepG, stepG.exec, mk, h])
theorem step_region {id : Nat} {ops : Array Oper} :
    step P (lone (mk f rd a ds (.code (.region id ops false) :: k)) cs w) = .next (lone (mk f rd a ds (.inRegion ops (List.range ops.size) :: k)) cs w) :=
  step_lone_go (by simp [stepG, stepG.exec, mk])
theorem step_region_draw {id : Nat} {ops : Array Oper} :
    step P (lone (mk f rd a ds (.code (.region id ops true) :: k)) cs w) =
      .next (lone (mk f rd a ds (.inRegion ops (Region.schedule (P.follows .mixedOrders) ops (w.tape w.drawn (.order f id))) :: k)) cs { w with drawn := w.drawn + 1 }) :=
  step_lone_go (by simp [stepG, stepG.exec, mk, choose, Sem.run, Question.forced, Question.cut])
theorem step_region_end {ops : Array Oper} : step P (lone (mk f rd a ds (.inRegion ops [] :: k)) cs w) = .next (lone (mk f rd a ds k) cs w) :=
  step_lone_go (by simp [stepG, stepG.exec, mk])
theorem step_ret : step P (lone (mk f none a ds (.code .ret :: k)) cs w) = .next (lone { mk f none a ds (.code .ret :: k) with mode := .returning } cs w) :=
  step_lone_go (by simp [stepG, stepG.exec, mk])
theorem step_end : step P (lone (mk f none a ds []) cs w) = .next (lone { mk f none a ds [] with mode := .returning } cs w) :=
  step_lone_go (by simp [stepG, stepG.exec, mk])
theorem finish_region {ops : Array Oper} {i : Nat} {rest : List Nat} (v : Value) :
    (mk f rd a ds (.inRegion ops (i :: rest) :: k)).finish v = mk f rd (put a ((ops[i]?).bind (·.dst)) v) ds (.inRegion ops rest :: k) := by
  cases h : (ops[i]?).bind (·.dst) <;> simp [Frame.finish, mk, put, h]
theorem step_op_skip {ops : Array Oper} {i : Nat} {rest : List Nat} (h : ((ops[i]?).map (Region.wanted · (yielded ops a))).getD false = false) :
    step P (lone (mk f rd a ds (.inRegion ops (i :: rest) :: k)) cs w) =
      .next (lone (mk f rd (put a ((ops[i]?).bind (·.dst)) undef) ds (.inRegion ops rest :: k)) cs w) := by
  rw [← finish_region]
  exact step_lone_go (by
    have h' := h
    simp only [mk] at *
    simp [stepG, stepG.exec, h'])
def noDefer (o : Oper) : Bool := match o.op with
  | .defer _ => false
  | _ => true
theorem stepG_op {ops : Array Oper} {i : Nat} {rest : List Nat} {o : Oper} (ho : ops[i]? = some o) (hw : Region.wanted o (yielded ops a) = true) (hn : noDefer o = true) :
    stepG P true { frame := mk f rd a ds (.inRegion ops (i :: rest) :: k), callers := cs, status := .running, dying := none } w =
      stepG.apply P true (mk f rd a ds (.inRegion ops (i :: rest) :: k)) cs none (execOp (evA a) o) w := by
  have he : (mk f rd a ds (.inRegion ops (i :: rest) :: k)).eval = evA a := funext fun x => eval_mk x
  simp only [mk] at he
  obtain ⟨d, op, ty, pos, aft, g⟩ := o
  cases rd <;> cases op <;> first
    | (simp [noDefer] at hn; done)
    | simp [stepG, stepG.exec, stepG.oper, Frame.oper?, mk, ho, hw, he]
end

/-! ### one operation -/
/-- A round of a range-over-function loop: it returns a bool to whoever yielded. -/
def Rounds (P : Program) (l : Nat) (g : FuncId) (tmps : Array Value) (assign body : Code) (w : World) (Post : Value → World → Prop) : Prop :=
  ∀ (c0 : Frame) (cs : List Frame), ∃ v w', Post v w' ∧ Steps P (lone (Frame.round l g tmps assign body .normal) (c0 :: cs) w) (lone (c0.finish v) cs w')
def Does (P : Program) (ops : Array Oper) (o : Oper) (a : Array Value) (w : World) (Post : Value → World → Prop) : Prop :=
  if Region.wanted o (yielded ops a) = true then
    match (execOp (evA a) o).run P w with
    | .ok (.value v) w' => Post v w'
    | .ok .skip w' => Post undef w'
    | .ok (.enter g args) w' => Calls P g args w' fun e w'' => ∃ v, e = .returned v ∧ Post v w''
    | .ok (.round l g tmps assign body) w' => Rounds P l g tmps assign body w' Post
    | _ => False
  else Post undef w
theorem Does.mono {P : Program} {ops : Array Oper} {o : Oper} {a : Array Value} {w : World} {Q R : Value → World → Prop}
    (h : Does P ops o a w Q) (m : ∀ v w', Q v w' → R v w') : Does P ops o a w R := by
  unfold Does at *
  split
  · rename_i hw
    simp only [hw, if_true] at h
    split at h
    · exact m _ _ h
    · exact m _ _ h
    · exact h.mono fun e w'' ⟨v, he, hv⟩ => ⟨v, he, m _ _ hv⟩
    · exact fun c0 cs => let ⟨v, w', hv, hs⟩ := h c0 cs; ⟨v, w', m _ _ hv, hs⟩
    · exact h.elim
  · rename_i hw
    simp only [hw] at h
    exact m _ _ h
theorem finish_returns {P : Program} {fr c : Frame} {cs : List Frame} {w : World} {v : Value} (h : fr.leaving P w (.returned v)) :
    Steps P (lone fr (c :: cs) w) (lone (c.finish v) cs w) := .one (step_leave_returned h)
theorem does_steps {P : Program} {ops : Array Oper} {o : Oper} {a : Array Value} {w : World} {Post : Value → World → Prop} (h : Does P ops o a w Post)
    {f : FuncId} {rd : Option Nat} {ds : List Deferred} {k : List Item} {i : Nat} {rest : List Nat} (ho : ops[i]? = some o) (hn : noDefer o = true) (cs : List Frame) :
    ∃ v w', Post v w' ∧ Steps P (lone (mk f rd a ds (.inRegion ops (i :: rest) :: k)) cs w) (lone (mk f rd (put a o.dst v) ds (.inRegion ops rest :: k)) cs w') := by
  unfold Does at h
  have hfin : ∀ v, (mk f rd a ds (.inRegion ops (i :: rest) :: k)).finish v = mk f rd (put a o.dst v) ds (.inRegion ops rest :: k) := by
    intro v; rw [finish_region, ho]; rfl
  split at h
  · rename_i hw
    have hg := stepG_op (P := P) (f := f) (rd := rd) (ds := ds) (k := k) (cs := cs) (w := w) (rest := rest) ho hw hn
    split at h
    · rename_i v w' hr
      refine ⟨v, w', h, .one (step_lone_go ?_)⟩
      rw [hg, ← hfin]; simp [stepG.apply, hr]
    · rename_i w' hr
      refine ⟨undef, w', h, .one (step_lone_go ?_)⟩
      rw [hg, ← hfin]; simp [stepG.apply, hr]
    · rename_i g args w' hr
      obtain ⟨e, w'', fr, ⟨v, rfl, hp⟩, hsteps, _, hleave⟩ := h (mk f rd a ds (.inRegion ops (i :: rest) :: k) :: cs)
      have henter : step P (lone (mk f rd a ds (.inRegion ops (i :: rest) :: k)) cs w) =
          .next (lone (Frame.enter P g args .normal) (mk f rd a ds (.inRegion ops (i :: rest) :: k) :: cs) w') :=
        step_lone_go (by rw [hg]; simp [stepG.apply, hr, mk])
      refine ⟨v, w'', hp, .head henter (Steps.trans hsteps ?_)⟩
      rw [← hfin]; exact finish_returns hleave
    · rename_i l g tmps asn bd w' hr
      obtain ⟨v, w'', hp, hs⟩ := h (mk f rd a ds (.inRegion ops (i :: rest) :: k)) cs
      have henter : step P (lone (mk f rd a ds (.inRegion ops (i :: rest) :: k)) cs w) =
          .next (lone (Frame.round l g tmps asn bd .normal) (mk f rd a ds (.inRegion ops (i :: rest) :: k) :: cs) w') :=
        step_lone_go (by rw [hg]; simp [stepG.apply, hr])
      refine ⟨v, w'', hp, .head henter ?_⟩
      rw [← hfin]; exact hs
    · exact h.elim
  · rename_i hw
    refine ⟨undef, w, h, .one ?_⟩
    have := step_op_skip (P := P) (f := f) (rd := rd) (a := a) (ds := ds) (k := k) (cs := cs) (w := w) (ops := ops) (i := i) (rest := rest) (by simp [ho]; simpa using hw)
    rw [this]
    simp [ho]

/-! ### the judgements -/
structure Cx where
  P : Program
  f : FuncId
  rd : Option Nat
  N : Nat
  B : PHeap
  E : Frame → World → Prop
/-- The blocks that range-over-function loops leave for the frame's end. -/
def Marked (D : PHeap) (ds : List Nat) : Prop := ds.Nodup ∧ ∀ b, D b = if b ∈ ds then some (.deferred (some [])) else none
def XK (c : Cx) (k : List Item) (e : Env) (o r : List PHeap) : Prop :=
  ∀ D ds a w cs, a.size = c.N → ERel e a → Marked D ds → Sep (D :: o) (c.B :: r) w →
    ∃ fr w', c.E fr w' ∧ Steps c.P (lone (mk c.f c.rd a (marks ds) k) cs w) (lone fr cs w')
def okOper (N : Nat) (o : Oper) : Bool :=
  noDefer o && match o.dst with
    | some d => Nat.blt d N
    | none => true
def XO (c : Cx) (ops : Array Oper) (rest : List Oper) (k : List Item) (e : Env) (o r : List PHeap) : Prop :=
  ∀ j, ops.toList.drop j = rest → rest.all (okOper c.N) = true →
    ∀ D ds a w cs, a.size = c.N → ERel e a → Marked D ds → Sep (D :: o) (c.B :: r) w →
      ∃ fr w', c.E fr w' ∧ Steps c.P (lone (mk c.f c.rd a (marks ds) (.inRegion ops (List.range' j rest.length) :: k)) cs w) (lone fr cs w')

section
variable {c : Cx} {k : List Item} {e : Env} {o r : List PHeap}
theorem XK.of_step {k' : List Item} (hs : ∀ ds a cs w, step c.P (lone (mk c.f c.rd a (marks ds) k) cs w) = .next (lone (mk c.f c.rd a (marks ds) k') cs w))
    (h : XK c k' e o r) : XK c k e o r := fun D ds a w cs ha he hD hm =>
  let ⟨fr, w', hE, st⟩ := h D ds a w cs ha he hD hm
  ⟨fr, w', hE, .head (hs ds a cs w) st⟩
theorem XK.skip (h : XK c k e o r) : XK c (.code .skip :: k) e o r := .of_step (fun _ _ _ _ => step_skip) h
theorem XK.label {l : Nat} (h : XK c k e o r) : XK c (.code (.label l) :: k) e o r := .of_step (fun _ _ _ _ => step_label) h
theorem XK.inBlock {l : Nat} (h : XK c k e o r) : XK c (.inBlock l :: k) e o r := .of_step (fun _ _ _ _ => step_inBlock) h
theorem XK.inScope {b : Code} (h : XK c k e o r) : XK c (.inScope b :: k) e o r := .of_step (fun _ _ _ _ => step_inScope) h
theorem XK.seq {x y : Code} (h : XK c (.code x :: .code y :: k) e o r) : XK c (.code (.seq x y) :: k) e o r := .of_step (fun _ _ _ _ => step_seq) h
theorem XK.block {id : Nat} {x : Code} (h : XK c (.code x :: .inBlock id :: k) e o r) : XK c (.code (.block id x) :: k) e o r := .of_step (fun _ _ _ _ => step_block) h
theorem XK.scope {x : Code} (h : XK c (.code x :: .inScope x :: k) e o r) : XK c (.code (.scope x) :: k) e o r := .of_step (fun _ _ _ _ => step_scope) h
theorem XK.loop' {x : Code} (h : XK c (.code x :: .inLoop x :: k) e o r) : XK c (.code (.loop x) :: k) e o r := .of_step (fun _ _ _ _ => step_loop) h
theorem XK.inLoop' {x : Code} (h : XK c (.code x :: .inLoop x :: k) e o r) : XK c (.inLoop x :: k) e o r := .of_step (fun _ _ _ _ => step_inLoop) h
theorem XK.exit {id : Nat} {k' : List Item} (hx : exitTo id k = some k') (h : XK c k' e o r) : XK c (.code (.exit id) :: k) e o r := .of_step (fun _ _ _ _ => step_exit hx) h
theorem XK.cond {x : Operand} {y z : Code} {t : Bool} (hx : ev e x = some (.bool t)) (ht : t = true → XK c (.code y :: k) e o r) (hf : t = false → XK c (.code z :: k) e o r) :
    XK c (.code (.cond x y z) :: k) e o r := fun D ds a w cs ha he hD hm => by
  have hv := ev_rel he hx
  cases t with
  | true =>
    obtain ⟨fr, w', hE, st⟩ := ht rfl D ds a w cs ha he hD hm
    exact ⟨fr, w', hE, .head (step_cond hv) st⟩
  | false =>
    obtain ⟨fr, w', hE, st⟩ := hf rfl D ds a w cs ha he hD hm
    exact ⟨fr, w', hE, .head (step_cond hv) st⟩
theorem XK.region {id : Nat} {l : List Oper} (hok : l.all (okOper c.N) = true) (h : XO c l.toArray l k e o r) :
    XK c (.code (.region id l.toArray false) :: k) e o r := fun D ds a w cs ha he hD hm => by
  obtain ⟨fr, w', hE, st⟩ := h 0 rfl hok D ds a w cs ha he hD hm
  refine ⟨fr, w', hE, .head step_region ?_⟩
  simpa [List.range_eq_range'] using st
theorem XO.done {ops : Array Oper} (h : XK c k e o r) : XO c ops [] k e o r := fun _ _ _ D ds a w cs ha he hD hm =>
  let ⟨fr, w', hE, st⟩ := h D ds a w cs ha he hD hm
  ⟨fr, w', hE, .head step_region_end st⟩

/-- Two states: what is known in the second is known in the first. -/
theorem XK.weaken {e' : Env} {o' r' : List PHeap} (h : XK c k e' o' r') (he : ∀ a, ERel e a → ERel e' a) (hm : ∀ D w, Sep (D :: o) (c.B :: r) w → Sep (D :: o') (c.B :: r') w) :
    XK c k e o r := fun D ds a w cs ha h1 hD h2 => h D ds a w cs ha (he a h1) hD (hm D w h2)

/-! ### a loop -/
/-- The state at a loop's head is given by 'x'. -/
theorem XK.loop {X : Type} (ex : X → Env) (ox rx : X → List PHeap) (I : X → Prop) (μ : X → Nat) (x0 : X) {body : Code} (h0 : I x0)
    (henv : ∀ a, ERel e a → ERel (ex x0) a) (hmem : ∀ D w, Sep (D :: o) (c.B :: r) w → Sep (D :: ox x0) (c.B :: rx x0) w)
    (round : ∀ x, I x → (∀ x', I x' → μ x' < μ x → XK c (.inLoop body :: k) (ex x') (ox x') (rx x')) →
      XK c (.code body :: .inLoop body :: k) (ex x) (ox x) (rx x)) :
    XK c (.code (.loop body) :: k) e o r := by
  have key : ∀ n x, μ x = n → I x → XK c (.code body :: .inLoop body :: k) (ex x) (ox x) (rx x) := by
    intro n
    induction n using Nat.strongRecOn with
    | _ n ih =>
      intro x hn hI
      exact round x hI fun x' hI' hlt => XK.inLoop' (ih (μ x') (hn ▸ hlt) x' rfl hI')
  exact XK.loop' (XK.weaken (key _ x0 rfl h0) henv hmem)
end

/-! ### rules for one operation: it only reads; it makes one block; anything else -/
def Rd (o r : List PHeap) (w : World) : Prop := (∀ h ∈ o, sub h w) ∧ ∀ h ∈ r, sub h w
def Quiet (P : Program) (ops : Array Oper) (x : Oper) (e : Env) (o r : List PHeap) (v : Value) : Prop :=
  ∀ a w, ERel e a → Rd o r w → (Region.wanted x (yielded ops a) = true ∧ (execOp (evA a) x).run P w = .ok (.value v) w) ∨ (Region.wanted x (yielded ops a) = false ∧ v = undef)
def Makes (P : Program) (ops : Array Oper) (x : Oper) (e : Env) (ob : Obj) (g : Nat → Value) : Prop :=
  ∀ a w, ERel e a → Region.wanted x (yielded ops a) = true ∧ (execOp (evA a) x).run P w = .ok (.value (g w.heap.size)) { w with heap := w.heap.push ob }
def Stp0 (P : Program) (ops : Array Oper) (x : Oper) (e : Env) (o r : List PHeap) (Ψ : Value → List PHeap → Prop) : Prop :=
  ∀ a w, ERel e a → Sep o r w → Does P ops x a w fun v w' => ∃ o', Ψ v o' ∧ Sep o' r w'
/-- Whatever else the frame owns stays. -/
def Stp (P : Program) (ops : Array Oper) (x : Oper) (e : Env) (o r : List PHeap) (Ψ : Value → List PHeap → Prop) : Prop :=
  ∀ D, Stp0 P ops x e (D :: o) r fun v o2 => ∃ o', Ψ v o' ∧ o2.Perm (D :: o')
theorem Quiet.does {P : Program} {ops : Array Oper} {x : Oper} {e : Env} {o r : List PHeap} {v : Value} (q : Quiet P ops x e o r v) {a : Array Value} {w : World}
    (he : ERel e a) (hr : Rd o r w) {Post : Value → World → Prop} (hp : Post v w) : Does P ops x a w Post := by
  unfold Does
  rcases q a w he hr with ⟨hw, hx⟩ | ⟨hw, rfl⟩
  · simp only [hw, if_true, hx]; exact hp
  · simp only [hw]; exact hp
theorem Sep.rd {o r : List PHeap} {w : World} (s : Sep o r w) : Rd o r w := ⟨s.so, s.sr⟩
theorem sub_push {h : PHeap} {w : World} (s : sub h w) (ob : Obj) : sub h { w with heap := w.heap.push ob } := fun b x hb => by
  have := s b x hb
  have hlt := sub_lt s hb
  simp [Array.getElem?_push, Nat.ne_of_lt hlt, this]
theorem disj_push {h : PHeap} {w : World} (s : sub h w) (ob : Obj) : Disj (sing w.heap.size ob) h := fun b => by
  by_cases hb : b = w.heap.size
  · right
    cases hh : h b with
    | none => rfl
    | some x => have := sub_lt s hh; omega
  · left; simp [sing, hb]
theorem Sep.push {o r : List PHeap} {w : World} (s : Sep o r w) (ob : Obj) : Sep (sing w.heap.size ob :: o) r { w with heap := w.heap.push ob } where
  pw := List.pairwise_cons.2 ⟨fun h hh => disj_push (s.so h hh) ob, s.pw⟩
  dr := fun h hh g hg => by
    rcases List.mem_cons.1 hh with rfl | hh
    · exact disj_push (s.sr g hg) ob
    · exact s.dr h hh g hg
  so := fun h hh => by
    rcases List.mem_cons.1 hh with rfl | hh
    · intro b x hb
      obtain ⟨rfl, rfl⟩ := sing_some hb
      simp
    · exact sub_push (s.so h hh) ob
  sr := fun g hg => sub_push (s.sr g hg) ob
  no := fun h hh => by
    rcases List.mem_cons.1 hh with rfl | hh
    · rfl
    · exact s.no h hh
  sm := s.sm
theorem Makes.stp {P : Program} {ops : Array Oper} {x : Oper} {e : Env} {ob : Obj} {g : Nat → Value} (m : Makes P ops x e ob g) (o r : List PHeap) :
    Stp P ops x e o r fun v o' => ∃ b, v = g b ∧ o' = sing b ob :: o := fun D a w he hs => by
  obtain ⟨hw, hx⟩ := m a w he
  unfold Does
  simp only [hw, if_true, hx]
  exact ⟨_, ⟨_, ⟨_, rfl, rfl⟩, List.Perm.swap _ _ _⟩, hs.push ob⟩

section
variable {c : Cx} {ops : Array Oper} {rest : List Oper} {k : List Item} {e : Env} {o r : List PHeap}
theorem drop_succ {l rest : List Oper} {x : Oper} {j : Nat} (h : l.drop j = x :: rest) : l.drop (j + 1) = rest ∧ l[j]? = some x := by
  have hlt : j < l.length := by
    rcases Nat.lt_or_ge j l.length with h' | h'
    · exact h'
    · rw [List.drop_of_length_le h'] at h; cases h
  rw [List.drop_eq_getElem_cons hlt] at h
  simp only [List.cons.injEq] at h
  exact ⟨h.2, by simp [hlt, h.1]⟩
def puts (e : Env) (d : Option Tmp) (v : Value) : Env := match d with
  | some d => (d, some v) :: e
  | none => e
theorem ERel.puts {e : Env} {a : Array Value} {N : Nat} {x : Oper} {v : Value} (h : ERel e a) (hN : a.size = N) (hx : okOper N x = true) : ERel (X.puts e x.dst v) (X.put a x.dst v) := by
  unfold okOper at hx
  cases hd : x.dst with
  | none => exact h
  | some d =>
    simp only [hd, Bool.and_eq_true] at hx
    exact h.put (by have := hx.2; rw [Nat.blt_eq] at this; omega)
/-- Anything else. -/
theorem XO.stp' {x : Oper} {Ψ : Value → List PHeap → Prop} (s : Stp c.P ops x e o (c.B :: r) Ψ)
    (h : ∀ v o', Ψ v o' → XO c ops rest k (X.puts e x.dst v) o' r) : XO c ops (x :: rest) k e o r := by
  intro j hj hok D ds a w cs ha he hD hm
  obtain ⟨hj', hget⟩ := drop_succ hj
  simp only [List.all_cons, Bool.and_eq_true] at hok
  have hn : noDefer x = true := by have := hok.1; unfold okOper at this; simp only [Bool.and_eq_true] at this; exact this.1
  have hget' : ops[j]? = some x := by rw [← Array.getElem?_toList]; exact hget
  obtain ⟨v, w1, ⟨o2, ⟨o', hΨ, hp⟩, hm'⟩, st⟩ := does_steps (f := c.f) (rd := c.rd) (ds := marks ds) (k := k) (rest := List.range' (j + 1) rest.length) (s D a w he hm) hget' hn cs
  obtain ⟨fr, w', hE, st'⟩ := h v o' hΨ (j + 1) hj' hok.2 D ds (put a x.dst v) w1 cs (by rw [size_put, ha]) (he.puts ha hok.1) hD (hm'.perm hp)
  exact ⟨fr, w', hE, Steps.trans st st'⟩
theorem XO.s {d : Nat} {op : Op} {ty : TypeId} {pos : String} {aft : Array Edge} {g : Option (Nat × Bool)} {Ψ : Value → List PHeap → Prop}
    (s : Stp c.P ops ⟨some d, op, ty, pos, aft, g⟩ e o (c.B :: r) Ψ) (h : ∀ v o', Ψ v o' → XO c ops rest k ((d, some v) :: e) o' r) :
    XO c ops (⟨some d, op, ty, pos, aft, g⟩ :: rest) k e o r := XO.stp' s h
theorem XO.s0 {op : Op} {ty : TypeId} {pos : String} {aft : Array Edge} {g : Option (Nat × Bool)} {Ψ : Value → List PHeap → Prop}
    (s : Stp c.P ops ⟨none, op, ty, pos, aft, g⟩ e o (c.B :: r) Ψ) (h : ∀ v o', Ψ v o' → XO c ops rest k e o' r) :
    XO c ops (⟨none, op, ty, pos, aft, g⟩ :: rest) k e o r := XO.stp' s h
theorem Quiet.stp {P : Program} {x : Oper} {v : Value} (q : Quiet P ops x e o r v) : Stp P ops x e o r fun v' o' => v' = v ∧ o' = o :=
  fun D _ _ he hm => q.does he ⟨fun h hh => hm.so h (List.mem_cons_of_mem _ hh), hm.sr⟩ ⟨D :: o, ⟨o, ⟨rfl, rfl⟩, List.Perm.refl _⟩, hm⟩
/-- It only reads. -/
theorem XO.q {d : Nat} {op : Op} {ty : TypeId} {pos : String} {aft : Array Edge} {g : Option (Nat × Bool)} {v : Value}
    (q : Quiet c.P ops ⟨some d, op, ty, pos, aft, g⟩ e o (c.B :: r) v) (h : XO c ops rest k ((d, some v) :: e) o r) :
    XO c ops (⟨some d, op, ty, pos, aft, g⟩ :: rest) k e o r := XO.s q.stp fun _ _ ⟨hv, ho⟩ => by subst hv ho; exact h
/-- It makes one block. -/
theorem XO.m {d : Nat} {op : Op} {ty : TypeId} {pos : String} {aft : Array Edge} {g : Option (Nat × Bool)} {ob : Obj} {F : Nat → Value}
    (m : Makes c.P ops ⟨some d, op, ty, pos, aft, g⟩ e ob F) (h : ∀ b, XO c ops rest k ((d, some (F b)) :: e) (sing b ob :: o) r) :
    XO c ops (⟨some d, op, ty, pos, aft, g⟩ :: rest) k e o r := XO.s (m.stp _ _) fun _ _ ⟨b, hv, ho⟩ => by subst hv ho; exact h b
end
theorem lcA {α : Type _} (a : α) (as bs : List α) : (a :: as) ++ bs = a :: (as ++ bs) := rfl
theorem lnA {α : Type _} (as : List α) : [] ++ as = as := rfl
end Go.X

/- Contracts, calls, returns; the operations that only compute. No condition. -/
namespace Go.X

/-! ### lists of heaps: taking one out, finding one -/
class Take (h : PHeap) (o : List PHeap) (o1 : outParam (List PHeap)) : Prop where
  pf : o.Perm (h :: o1)
instance (priority := high) Take.head (h : PHeap) (o : List PHeap) : Take h (h :: o) o := ⟨List.Perm.refl _⟩
instance Take.tail (h g : PHeap) (o o1 : List PHeap) [t : Take h o o1] : Take h (g :: o) (g :: o1) := ⟨(t.pf.cons g).trans (List.Perm.swap _ _ _)⟩
class Takes (hs : List PHeap) (o : List PHeap) (o1 : outParam (List PHeap)) : Prop where
  pf : o.Perm (hs ++ o1)
instance Takes.nil (o : List PHeap) : Takes [] o o := ⟨List.Perm.refl _⟩
instance Takes.cons (h : PHeap) (hs o o1 o2 : List PHeap) [t : Take h o o1] [t2 : Takes hs o1 o2] : Takes (h :: hs) o o2 := ⟨t.pf.trans (t2.pf.cons h)⟩
class InL (h : PHeap) (o : List PHeap) : Prop where
  pf : h ∈ o
instance (priority := high) InL.head (h : PHeap) (o : List PHeap) : InL h (h :: o) := ⟨List.mem_cons_self⟩
instance InL.tail (h g : PHeap) (o : List PHeap) [t : InL h o] : InL h (g :: o) := ⟨List.mem_cons_of_mem _ t.pf⟩
class InM (h : PHeap) (o r : List PHeap) : Prop where
  pf : h ∈ o ∨ h ∈ r
instance InM.own (h : PHeap) (o r : List PHeap) [t : InL h o] : InM h o r := ⟨.inl t.pf⟩
instance InM.read (h : PHeap) (o r : List PHeap) [t : InL h r] : InM h o r := ⟨.inr t.pf⟩
class AllIn (hs o r : List PHeap) : Prop where
  pf : ∀ h ∈ hs, h ∈ o ∨ h ∈ r
instance AllIn.nil (o r : List PHeap) : AllIn [] o r := ⟨fun _ h => by cases h⟩
instance AllIn.cons (h : PHeap) (hs o r : List PHeap) [t : InM h o r] [t2 : AllIn hs o r] : AllIn (h :: hs) o r :=
  ⟨fun g hg => by
    rcases List.mem_cons.1 hg with rfl | hg
    · exact t.pf
    · exact t2.pf g hg⟩
instance (priority := low) AllIn.same (hs o : List PHeap) : AllIn hs o hs := ⟨fun _ h => .inr h⟩
instance (priority := low) AllIn.skip (h : PHeap) (hs o r : List PHeap) [t : AllIn hs o r] : AllIn hs o (h :: r) := ⟨fun g hg => orMap (t.pf g hg) id (List.mem_cons_of_mem _)⟩
theorem Sep.left {o1 o2 r : List PHeap} {w : World} (s : Sep (o1 ++ o2) r w) : Sep o1 r w where
  pw := (List.pairwise_append.1 s.pw).1
  dr := fun h hh => s.dr h (List.mem_append_left _ hh)
  so := fun h hh => s.so h (List.mem_append_left _ hh)
  sr := s.sr
  no := fun h hh => s.no h (List.mem_append_left _ hh)
  sm := s.sm
theorem Sep.right {o1 o2 r : List PHeap} {w : World} (s : Sep (o1 ++ o2) r w) : Sep o2 r w where
  pw := (List.pairwise_append.1 s.pw).2.1
  dr := fun h hh => s.dr h (List.mem_append_right _ hh)
  so := fun h hh => s.so h (List.mem_append_right _ hh)
  sr := s.sr
  no := fun h hh => s.no h (List.mem_append_right _ hh)
  sm := s.sm
theorem Sep.reads {o r r' : List PHeap} {w : World} (s : Sep o r w) (h : ∀ g ∈ r', g ∈ r) : Sep o r' w :=
  ⟨s.pw, fun a ha g hg => s.dr a ha g (h g hg), s.so, fun g hg => s.sr g (h g hg), s.no, fun g hg => s.sm g (h g hg)⟩

/-! ### a contract -/
/-- Called in a world in which the heaps 'Hm' (its own to change) and 'Hr' (to read) are there: it returns v; in the place of Hm there are the heaps hs; nothing else has turned. -/
def Spec (P : Program) (f : FuncId) (args : Array Value) (Hm Hr : List PHeap) (R : Value → List PHeap → Prop) : Prop :=
  ∀ o r w, Sep (Hm ++ o) r w → (∀ h ∈ Hr, h ∈ o ∨ h ∈ r) → Calls P f args w fun e w' => ∃ v hs, e = .returned v ∧ R v hs ∧ Sep (hs ++ o) r w'
theorem Spec.mono {P : Program} {f : FuncId} {args : Array Value} {Hm Hr : List PHeap} {R R' : Value → List PHeap → Prop} (h : Spec P f args Hm Hr R)
    (m : ∀ v hs, R v hs → R' v hs) : Spec P f args Hm Hr R' :=
  fun o r w hs hr => (h o r w hs hr).mono fun _ _ ⟨v, hs, he, hR, hS⟩ => ⟨v, hs, he, m v hs hR, hS⟩
def hole (w : World) (Hm : List PHeap) : PHeap := ⟨fun b => open Classical in if ∃ h ∈ Hm, h b ≠ none then none else w.heap[b]?, some (mt w)⟩
theorem le_hole {w : World} {Hm : List PHeap} {h : PHeap} (hs : sub h w) (hd : ∀ g ∈ Hm, Disj g h) {b : Nat} {ob : Obj} (hb : h b = some ob) : hole w Hm b = some ob := by
  unfold hole; dsimp only
  rw [if_neg, hs b ob hb]
  rintro ⟨g, hg, hn⟩
  rcases hd g hg b with h1 | h1
  · exact hn h1
  · rw [h1] at hb; cases hb
def envArgs : Nat → List Value → Env
  | _, [] => []
  | i, v :: vs => (i, some v) :: envArgs (i + 1) vs
theorem find_envArgs {vs : List Value} {i t : Nat} {v : Value} (h : find (envArgs i vs) t = some v) : i ≤ t ∧ vs[t - i]? = some v := by
  induction vs generalizing i with
  | nil => cases h
  | cons u us ih =>
    simp only [envArgs, find] at h
    split at h
    · rename_i hb
      have := Nat.eq_of_beq_eq_true hb
      subst this
      simp at h
      simp [h]
    · rename_i hb
      obtain ⟨h1, h2⟩ := ih h
      have hne : t ≠ i := by rintro rfl; simp [Nat.beq_refl] at hb
      obtain ⟨m, hm⟩ : ∃ m, t - i = m + 1 := ⟨t - i - 1, by omega⟩
      refine ⟨by omega, ?_⟩
      rw [hm, List.getElem?_cons_succ]
      rw [show t - (i + 1) = m by omega] at h2
      exact h2
abbrev cx (P : Program) (f : FuncId) (N : Nat) (B : PHeap) (R : Value → List PHeap → Prop) : Cx :=
  { P, f, rd := none, N, B, E := fun fr w' => ∃ v hs, fr.fn = f ∧ fr.leaving P w' (.returned v) ∧ R v hs ∧ Sep hs [B] w' }
/-- A contract by its body. -/
theorem Spec.intro {P : Program} {f : FuncId} {fn : Func} {N : Nat} {code : Code} {args : List Value} {Hm Hr : List PHeap} {R : Value → List PHeap → Prop}
    (hf : P.funcs[f]? = some fn) (hb : fn.body = some code) (hN : fn.ntmps = N) (hlen : Nat.ble args.length N = true)
    (h : ∀ B, XK (cx P f N B R) [.code code] (envArgs 0 args) Hm Hr) : Spec P f args.toArray Hm Hr R := by
  intro o r w hs hr cs
  have hle := Nat.le_of_ble_eq_true hlen
  have henter : Frame.enter P f args.toArray .normal = mk f none (args.toArray ++ Array.replicate (N - args.length) undef) [] [.code code] := by
    simp [Frame.enter, mk, hf, hb, hN]
  have hdis : ∀ h ∈ Hr, ∀ g ∈ Hm, Disj g h := fun h hh g hg => by
    rcases hr h hh with h1 | h1
    · exact (List.pairwise_append.1 hs.pw).2.2 g hg h h1
    · exact hs.dr g (List.mem_append_left _ hg) h h1
  have hsub : ∀ h ∈ Hr, sub h w := fun h hh => by
    rcases hr h hh with h1 | h1
    · exact hs.so h (List.mem_append_right _ h1)
    · exact hs.sr h h1
  have hS : Sep Hm ((cx P f N (hole w Hm) R).B :: Hr) w := by
    refine ⟨hs.left.pw, ?_, hs.left.so, ?_, hs.left.no, ?_⟩
    · intro g hg x hx
      rcases List.mem_cons.1 hx with rfl | hx
      · intro b
        by_cases hn : g b = none
        · exact .inl hn
        · right
          change hole w Hm b = none
          unfold hole; dsimp only
          rw [if_pos ⟨g, hg, hn⟩]
      · exact hdis x hx g hg
    · intro x hx
      rcases List.mem_cons.1 hx with rfl | hx
      · intro b ob hb
        change hole w Hm b = some ob at hb
        unfold hole at hb; dsimp only at hb
        split at hb
        · cases hb
        · exact hb
      · exact hsub x hx
    · intro x hx m hm
      rcases List.mem_cons.1 hx with rfl | hx
      · exact Option.some.inj hm
      · rcases hr x hx with h1 | h1
        · rw [hs.right.no x h1] at hm; cases hm
        · exact hs.sm x h1 m hm
  obtain ⟨fr, w', ⟨v, hs', hfn, hlv, hR, hS'⟩, st⟩ := h (hole w Hm) emp [] (args.toArray ++ Array.replicate (N - args.length) undef) w cs
    (by simp; omega)
    (by
      intro t v hv
      obtain ⟨_, h2⟩ := find_envArgs hv
      simp only [Nat.sub_zero] at h2
      have hlt : t < args.length := (List.getElem?_eq_some_iff.1 h2).1
      have h3 := (List.getElem?_eq_some_iff.1 h2).2
      simp [Array.getElem?_append, hlt, h3]) ⟨List.nodup_nil, fun b => by simp [emp]⟩ hS.empC
  rw [henter]
  have hBw : ∀ b ob, hole w Hm b = some ob → w'.heap[b]? = some ob := hS'.sr (hole w Hm) List.mem_cons_self
  have hfr : ∀ h, sub h w → (∀ g ∈ Hm, Disj g h) → sub h w' ∧ ∀ x ∈ hs', Disj x h := fun h h1 h2 =>
    ⟨fun b ob hb => hBw b ob (le_hole h1 h2 hb), fun x hx b => by
      rcases hS'.dr x hx (hole w Hm) List.mem_cons_self b with h3 | h3
      · exact .inl h3
      · right
        cases hh : h b with
        | none => rfl
        | some ob => rw [le_hole h1 h2 hh] at h3; cases h3⟩
  have ho : ∀ h ∈ o, sub h w ∧ ∀ g ∈ Hm, Disj g h := fun h hh => ⟨hs.right.so h hh, fun g hg => (List.pairwise_append.1 hs.pw).2.2 g hg h hh⟩
  have hrr : ∀ h ∈ r, sub h w ∧ ∀ g ∈ Hm, Disj g h := fun h hh => ⟨hs.sr h hh, fun g hg => hs.dr g (List.mem_append_left _ hg) h hh⟩
  refine ⟨.returned v, w', fr, ⟨v, hs', rfl, hR, ?_⟩, st, hfn, hlv⟩
  have hmt : mt w' = mt w := hS'.sm _ List.mem_cons_self _ rfl
  refine ⟨List.pairwise_append.2 ⟨hS'.pw, hs.right.pw, fun x hx h hh => (hfr h (ho h hh).1 (ho h hh).2).2 x hx⟩, ?_, ?_, ?_, ?_, fun g hg m hm => hmt.trans (hs.sm g hg m hm)⟩
  · intro x hx g hg
    rcases List.mem_append.1 hx with hx | hx
    · exact (hfr g (hrr g hg).1 (hrr g hg).2).2 x hx
    · exact hs.right.dr x hx g hg
  · intro x hx
    rcases List.mem_append.1 hx with hx | hx
    · exact hS'.so x hx
    · exact (hfr x (ho x hx).1 (ho x hx).2).1
  · exact fun g hg => (hfr g (hrr g hg).1 (hrr g hg).2).1
  · intro x hx
    rcases List.mem_append.1 hx with hx | hx
    · exact hS'.no x hx
    · exact hs.right.no x hx

/-! ### return -/
def QSem {α : Type} (P : Program) (s : Sem α) (o r : List PHeap) (v : α) : Prop := ∀ w, Rd o r w → s.run P w = .ok v w
def ResL (P : Program) (o r : List PHeap) (e : Env) : List ResultVar → List Value → Prop
  | [], vs => vs = []
  | .tmp t :: l, vs => ∃ v us, vs = v :: us ∧ find e t = some v ∧ ResL P o r e l us
  | .cell t ty :: l, vs => ∃ v us ad, vs = v :: us ∧ find e t = some (.pointer (some ad)) ∧ QSem P (loadVar ty ad) o r v ∧ ResL P o r e l us
theorem run_bind {α β : Type} (P : Program) (s : Sem α) (g : α → Sem β) (w : World) :
    (s >>= g).run P w = match s.run P w with
      | .ok v w' => (g v).run P w'
      | .halt h w' => .halt h w' := Sem.run_bind ..
def packed (vs : List Value) : Value := match vs with
  | [v] => v
  | vs => .tuple vs.toArray
def resGet (a : Array Value) : ResultVar → Sem Value
  | .tmp t => pure (a.getD t undef)
  | .cell d t => do loadVar t (← asAddr (a.getD d undef))
theorem run_resGet {P : Program} {o r : List PHeap} {e : Env} {a : Array Value} {w : World} (he : ERel e a) (hr : Rd o r w) :
    ∀ (l : List ResultVar) (vs : List Value), ResL P o r e l vs → (l.mapM (resGet a)).run P w = .ok vs w := by
  intro l
  induction l with
  | nil => intro vs h; simp only [ResL] at h; subst h; rfl
  | cons x l ih =>
    intro vs h
    cases x with
    | tmp t =>
      obtain ⟨v, us, rfl, hv, hl⟩ := h
      have := ih us hl
      have hv' := he t v hv
      rw [List.mapM_cons, run_bind]
      have h1 : (resGet a (.tmp t)).run P w = .ok v w := by simp only [resGet, hv']; rfl
      rw [h1]
      simp only [run_bind]
      rw [this]
      rfl
    | cell t ty =>
      obtain ⟨v, us, ad, rfl, hv, hq, hl⟩ := h
      have := ih us hl
      have hv' := he t _ hv
      rw [List.mapM_cons, run_bind]
      have h1 : (resGet a (.cell t ty)).run P w = .ok v w := by
        simp only [resGet, hv', run_bind]
        exact hq w hr
      rw [h1]
      simp only [run_bind]
      rw [this]
      rfl
theorem run_results {P : Program} {o r : List PHeap} {e : Env} {fn : Func} {l : List ResultVar} {vs : List Value} (hl : fn.results = l.toArray) (h : ResL P o r e l vs)
    {a : Array Value} {w : World} (he : ERel e a) (hr : Rd o r w) : (results fn a).run P w = .ok (packed vs) w := by
  have hk := run_resGet he hr l vs h
  have hd : results fn a = (do
      let vs ← fn.results.mapM (resGet a)
      pure (if h : vs.size = 1 then vs[0] else .tuple vs)) := by
    unfold results
    congr 1
  rw [hd, hl, List.mapM_toArray, run_bind]
  have h2 : (Functor.map List.toArray (List.mapM (resGet a) l)).run P w = .ok vs.toArray w := by
    rw [map_eq_pure_bind, run_bind, hk]
    rfl
  rw [h2]
  match vs with
  | [] => rfl
  | [v] => rfl
  | v :: u :: us => simp [packed, pure]
/-- What a function hands back, out of its owned heaps. -/
theorem Sep.cons {h : PHeap} {o o' r : List PHeap} {w : World} (s : Sep (h :: o) r w) (s' : Sep o' r w) (hd : ∀ g ∈ o', Disj h g) : Sep (h :: o') r w where
  pw := List.pairwise_cons.2 ⟨hd, s'.pw⟩
  dr := fun g hg => by
    rcases List.mem_cons.1 hg with rfl | hg
    · exact s.dr g List.mem_cons_self
    · exact s'.dr g hg
  so := fun g hg => by
    rcases List.mem_cons.1 hg with rfl | hg
    · exact s.so g List.mem_cons_self
    · exact s'.so g hg
  sr := s.sr
  no := fun g hg => by
    rcases List.mem_cons.1 hg with rfl | hg
    · exact s.no g List.mem_cons_self
    · exact s'.no g hg
  sm := s.sm
end Go.X

/- The operations that only compute or read, and calls. No condition. -/
set_option linter.unusedSimpArgs false
set_option linter.unusedVariables false
namespace Go.X

class IsAgg (P : Program) (t : TypeId) (b : outParam Bool) : Prop where
  pf : ∀ w, (isAgg t).run P w = .ok b w
class TySize (P : Program) (t : TypeId) (n : outParam Nat) : Prop where
  pf : ∀ w, (sizeOf t).run P w = .ok n w
class Und (P : Program) (t : TypeId) (d : outParam TypeDesc) : Prop where
  pf : ∀ w, (underlying t).run P w = .ok d w

theorem run_val {P : Program} {s : Sem Value} {w w' : World} {v : Value} (h : s.run P w = .ok v w') :
    (do pure (.value (← s)) : Sem Next).run P w = .ok (.value v) w' := by rw [run_bind, h]; rfl
theorem run_unit {P : Program} {s : Sem Unit} {w w' : World} (h : s.run P w = .ok () w') :
    (do s; pure .skip : Sem Next).run P w = .ok .skip w' := by rw [run_bind, h]; rfl
theorem bind_ok {α β : Type} {P : Program} {s : Sem α} {g : α → Sem β} {w w1 : World} {a : α} (h : s.run P w = .ok a w1) :
    (s >>= g).run P w = (g a).run P w1 := by rw [run_bind, h]

/-! ### what stands under a guard: a value that is there if the guard says so -/
def lz (b want : Bool) (v : Value) : Value := if b = want then v else undef
theorem lzv {e : Env} {x : Operand} {b want : Bool} {v : Value} (hb : b = want) (h : ev e x = some (lz b want v)) : ev e x = some v := by
  rw [h]; simp [lz, hb]

section
variable {P : Program} {ops : Array Oper} {e : Env} {o r : List PHeap} {d : Option Tmp} {ty : TypeId} {pos : String} {aft : Array Edge}
theorem Quiet.mk {op : Op} {v : Value} (h : ∀ a w, ERel e a → Rd o r w → (execOp (evA a) ⟨d, op, ty, pos, aft, none⟩).run P w = .ok (.value v) w) :
    Quiet P ops ⟨d, op, ty, pos, aft, none⟩ e o r v := fun a w he hr => .inl ⟨rfl, h a w he hr⟩
/-- A guarded operation. -/
theorem Quiet.guard {op : Op} {v : Value} {j : Nat} {want b : Bool} {g : Nat} (hj : (ops[j]?).bind (·.dst) = some g) (hg : find e g = some (.bool b))
    (h : b = want → Quiet P ops ⟨d, op, ty, pos, aft, none⟩ e o r v) : Quiet P ops ⟨d, op, ty, pos, aft, some (j, want)⟩ e o r (lz b want v) := by
  intro a w he hr
  have hv := he g _ hg
  have hy : yielded ops a j = some b := by
    unfold yielded
    rw [hj]
    simp only [Option.bind_some]
    have hlt : g < a.size := by
      rcases Nat.lt_or_ge g a.size with h' | h'
      · exact h'
      · simp [Array.getElem?_eq_none h', undef] at hv
    simp only [Array.getElem?_eq_getElem hlt]
    have : a[g] = .bool b := by simpa [hlt] using hv
    rw [this]
  by_cases hb : b = want
  · rcases h hb a w he hr with ⟨_, h2⟩ | ⟨h1, _⟩
    · left
      refine ⟨by simp [Region.wanted, hy, hb], ?_⟩
      simp only [lz, hb, if_true]
      exact h2
    · simp [Region.wanted] at h1
  · right
    refine ⟨by simp [Region.wanted, hy, hb], by simp [lz, hb]⟩

/-! ### moves, numbers, bools -/
theorem Q.move {x : Operand} {v : Value} (hx : ev e x = some v) : Quiet P ops ⟨d, .move x, ty, pos, aft, none⟩ e o r v :=
  .mk fun a w he _ => by simp only [execOp, ev_rel he hx]; rfl
theorem Q.assign {x : Operand} {v : Value} (hx : ev e x = some v) : Quiet P ops ⟨d, .assign x, ty, pos, aft, none⟩ e o r v :=
  .mk fun a w he _ => by simp only [execOp, ev_rel he hx]; rfl
theorem run_eqGuard_int {op : BinOp} {t : TypeId} {x y : Operand} {k k' : IntKind} {m n : Int} (w : World) : (eqGuard op t x y (.int k m) (.int k' n)).run P w = .ok () w := by
  unfold eqGuard
  cases op <;> rfl
theorem Q.bin {op : BinOp} {t t2 : TypeId} {x y : Operand} {k k' : IntKind} {m n : Int} {v : Value} (hx : ev e x = some (.int k m)) (hy : ev e y = some (.int k' n))
    (h : ∀ w, (binOp op t (.int k m) (.int k' n)).run P w = .ok v w) : Quiet P ops ⟨d, .binOp op t x y t2, ty, pos, aft, none⟩ e o r v :=
  .mk fun a w he _ => by
    simp only [execOp, ev_rel he hx, ev_rel he hy]
    refine run_val ?_
    rw [bind_ok (run_eqGuard_int w)]
    exact h w
theorem run_arith {op : BinOp} {t : TypeId} {k : IntKind} {m n : Int} (w : World) :
    (binOp .add t (.int k m) (.int k n)).run P w = .ok (.int k (k.wrap (m + n))) w ∧ (binOp .sub t (.int k m) (.int k n)).run P w = .ok (.int k (k.wrap (m - n))) w ∧
    (binOp .mul t (.int k m) (.int k n)).run P w = .ok (.int k (k.wrap (m * n))) w := by
  simp [binOp, Op.intArith, pure, Sem.run]
def in64 (n : Int) : Prop := -9223372036854775808 ≤ n ∧ n ≤ 9223372036854775807
theorem wrap64_of {n : Int} (h : in64 n) : IntKind.i64.wrap n = n := IntWalk.i64_in n ⟨h.1, h.2⟩
theorem Q.add {t t2 : TypeId} {x y : Operand} {m n : Int} (hx : ev e x = some (.int .i64 m)) (hy : ev e y = some (.int .i64 n)) (hr : in64 (m + n)) :
    Quiet P ops ⟨d, .binOp .add t x y t2, ty, pos, aft, none⟩ e o r (.int .i64 (m + n)) :=
  Q.bin hx hy fun w => by rw [(run_arith (op := .add) w).1, wrap64_of hr]
theorem Q.sub {t t2 : TypeId} {x y : Operand} {m n : Int} (hx : ev e x = some (.int .i64 m)) (hy : ev e y = some (.int .i64 n)) (hr : in64 (m - n)) :
    Quiet P ops ⟨d, .binOp .sub t x y t2, ty, pos, aft, none⟩ e o r (.int .i64 (m - n)) :=
  Q.bin hx hy fun w => by rw [(run_arith (op := .add) w).2.1, wrap64_of hr]
theorem Q.mul {t t2 : TypeId} {x y : Operand} {m n : Int} (hx : ev e x = some (.int .i64 m)) (hy : ev e y = some (.int .i64 n)) (hr : in64 (m * n)) :
    Quiet P ops ⟨d, .binOp .mul t x y t2, ty, pos, aft, none⟩ e o r (.int .i64 (m * n)) :=
  Q.bin hx hy fun w => by rw [(run_arith (op := .add) w).2.2, wrap64_of hr]
theorem Q.addW {t t2 : TypeId} {x y : Operand} {k : IntKind} {m n : Int} (hx : ev e x = some (.int k m)) (hy : ev e y = some (.int k n)) :
    Quiet P ops ⟨d, .binOp .add t x y t2, ty, pos, aft, none⟩ e o r (.int k (k.wrap (m + n))) := Q.bin hx hy fun w => (run_arith (op := .add) w).1
theorem Q.mulW {t t2 : TypeId} {x y : Operand} {k : IntKind} {m n : Int} (hx : ev e x = some (.int k m)) (hy : ev e y = some (.int k n)) :
    Quiet P ops ⟨d, .binOp .mul t x y t2, ty, pos, aft, none⟩ e o r (.int k (k.wrap (m * n))) := Q.bin hx hy fun w => (run_arith (op := .add) w).2.2
theorem beqd (m n : Int) : (m == n) = decide (m = n) := by by_cases h : m = n <;> simp [h]
theorem Q.lss {t t2 : TypeId} {x y : Operand} {k : IntKind} {m n : Int} (hx : ev e x = some (.int k m)) (hy : ev e y = some (.int k n)) :
    Quiet P ops ⟨d, .binOp .lss t x y t2, ty, pos, aft, none⟩ e o r (.bool (decide (m < n))) := Q.bin hx hy fun w => by simp [binOp, Op.intCmp, pure, Sem.run]
theorem Q.leq {t t2 : TypeId} {x y : Operand} {k : IntKind} {m n : Int} (hx : ev e x = some (.int k m)) (hy : ev e y = some (.int k n)) :
    Quiet P ops ⟨d, .binOp .leq t x y t2, ty, pos, aft, none⟩ e o r (.bool (decide (m ≤ n))) := Q.bin hx hy fun w => by simp [binOp, Op.intCmp, pure, Sem.run]
theorem Q.gtr {t t2 : TypeId} {x y : Operand} {k : IntKind} {m n : Int} (hx : ev e x = some (.int k m)) (hy : ev e y = some (.int k n)) :
    Quiet P ops ⟨d, .binOp .gtr t x y t2, ty, pos, aft, none⟩ e o r (.bool (decide (n < m))) := Q.bin hx hy fun w => by simp [binOp, Op.intCmp, pure, Sem.run]
theorem Q.geq {t t2 : TypeId} {x y : Operand} {k : IntKind} {m n : Int} (hx : ev e x = some (.int k m)) (hy : ev e y = some (.int k n)) :
    Quiet P ops ⟨d, .binOp .geq t x y t2, ty, pos, aft, none⟩ e o r (.bool (decide (n ≤ m))) := Q.bin hx hy fun w => by simp [binOp, Op.intCmp, pure, Sem.run]
theorem Q.eql {t t2 : TypeId} {x y : Operand} {k : IntKind} {m n : Int} (hx : ev e x = some (.int k m)) (hy : ev e y = some (.int k n)) :
    Quiet P ops ⟨d, .binOp .eql t x y t2, ty, pos, aft, none⟩ e o r (.bool (decide (m = n))) := Q.bin hx hy fun w => by simp [binOp, Op.intCmp, pure, Sem.run, beqd]
theorem Q.neq {t t2 : TypeId} {x y : Operand} {k : IntKind} {m n : Int} (hx : ev e x = some (.int k m)) (hy : ev e y = some (.int k n)) :
    Quiet P ops ⟨d, .binOp .neq t x y t2, ty, pos, aft, none⟩ e o r (.bool (decide (m ≠ n))) := Q.bin hx hy fun w => by simp [binOp, Op.intCmp, pure, Sem.run, bne, beqd]
theorem run_div {t : TypeId} {k : IntKind} {m n : Int} (h : n ≠ 0) (w : World) :
    (binOp .quo t (.int k m) (.int k n)).run P w = .ok (.int k (k.wrap (m.tdiv n))) w ∧ (binOp .rem t (.int k m) (.int k n)).run P w = .ok (.int k (m.tmod n)) w := by
  simp [binOp, Op.intDiv, pure, Sem.run, h]
/-- Division where neither side is negative. -/
theorem Q.quo {t t2 : TypeId} {x y : Operand} {m n : Int} (hx : ev e x = some (.int .i64 m)) (hy : ev e y = some (.int .i64 n)) (hm : 0 ≤ m) (hm' : m ≤ 9223372036854775807) (hn : 0 < n) :
    Quiet P ops ⟨d, .binOp .quo t x y t2, ty, pos, aft, none⟩ e o r (.int .i64 (m / n)) := Q.bin hx hy fun w => by
  rw [(run_div (by omega) w).1, Int.tdiv_eq_ediv_of_nonneg hm, wrap64_of]
  have h1 : 0 ≤ m / n := Int.ediv_nonneg hm (by omega)
  have h2 : m / n ≤ m := Int.ediv_le_self _ hm
  constructor <;> omega
theorem Q.rem {t t2 : TypeId} {x y : Operand} {k : IntKind} {m n : Int} (hx : ev e x = some (.int k m)) (hy : ev e y = some (.int k n)) (hm : 0 ≤ m) (hn : n ≠ 0) :
    Quiet P ops ⟨d, .binOp .rem t x y t2, ty, pos, aft, none⟩ e o r (.int k (m % n)) := Q.bin hx hy fun w => by
  rw [(run_div hn w).2, Int.tmod_eq_emod_of_nonneg hm]
theorem Q.not {t : TypeId} {x : Operand} {b : Bool} (hx : ev e x = some (.bool b)) : Quiet P ops ⟨d, .unOp .not t x, ty, pos, aft, none⟩ e o r (.bool (!b)) :=
  .mk fun a w he _ => by simp only [execOp, ev_rel he hx]; rfl
theorem Q.neg {t : TypeId} {x : Operand} {m : Int} (hx : ev e x = some (.int .i64 m)) (h : in64 (0 - m)) : Quiet P ops ⟨d, .unOp .neg t x, ty, pos, aft, none⟩ e o r (.int .i64 (0 - m)) :=
  .mk fun a w he _ => by
    simp only [execOp, ev_rel he hx]
    refine run_val ?_
    simp only [Op.unary, Op.intArith, wrap64_of h]
    rfl
theorem Q.pick {x y z : Operand} {b : Bool} {u v : Value} (hx : ev e x = some (.bool b)) (hy : b = true → ev e y = some u) (hz : b = false → ev e z = some v) :
    Quiet P ops ⟨d, .pick x y z, ty, pos, aft, none⟩ e o r (if b = true then u else v) := .mk fun a w he _ => by
  simp only [execOp, ev_rel he hx]
  cases b with
  | true => simp only [if_true, ev_rel he (hy rfl)]; rfl
  | false => simp only [Bool.false_eq_true, if_false, ev_rel he (hz rfl)]; rfl
/-- x || y -/
theorem Q.or {x z : Operand} {b b2 : Bool} (hx : ev e x = some (.bool b)) (hz : b = false → ev e z = some (.bool b2)) :
    Quiet P ops ⟨d, .pick x (.const (.bool true)) z, ty, pos, aft, none⟩ e o r (.bool (b || b2)) := by
  have := Q.pick (P := P) (ops := ops) (o := o) (r := r) (d := d) (ty := ty) (pos := pos) (aft := aft) (y := .const (.bool true)) (u := .bool true) hx (fun _ => rfl) hz
  cases b <;> exact this
/-- x && y -/
theorem Q.and {x z : Operand} {b b2 : Bool} (hx : ev e x = some (.bool b)) (hz : b = true → ev e z = some (.bool b2)) :
    Quiet P ops ⟨d, .pick x z (.const (.bool false)), ty, pos, aft, none⟩ e o r (.bool (b && b2)) := by
  have := Q.pick (P := P) (ops := ops) (o := o) (r := r) (d := d) (ty := ty) (pos := pos) (aft := aft) (z := .const (.bool false)) (v := .bool false) hx hz (fun _ => rfl)
  cases b <;> exact this
theorem Q.extract {x : Operand} {vs : List Value} {i : Nat} {v : Value} (hx : ev e x = some (.tuple vs.toArray)) (hv : vs[i]? = some v) :
    Quiet P ops ⟨d, .extract x i, ty, pos, aft, none⟩ e o r v := .mk fun a w he _ => by
  simp only [execOp, ev_rel he hx]
  refine run_val ?_
  simp only [Instr.extract, List.getElem?_toArray, hv]
  rfl
theorem Q.conv {s t : TypeId} {x : Operand} {k k' : IntKind} {n : Int} {ds : TypeDesc} [us : Und P s ds] [u : Und P t (.int k)] (hx : ev e x = some (.int k' n)) :
    Quiet P ops ⟨d, .convert s t x, ty, pos, aft, none⟩ e o r (.int k (k.wrap n)) := .mk fun a w he _ => by
  simp only [execOp, ev_rel he hx]
  refine run_val ?_
  unfold convert
  rw [bind_ok (us.pf w), bind_ok (u.pf w)]
  rfl
theorem Q.func {fn : Fn} {l l2 : List Operand} {vs us : List Value} (h1 : ∀ a, ERel e a → l.map (evA a) = vs) (h2 : ∀ a, ERel e a → l2.map (evA a) = us) :
    Quiet P ops ⟨d, .makeFunc fn l.toArray l2.toArray, ty, pos, aft, none⟩ e o r (.func fn vs.toArray us.toArray) := .mk fun a w he _ => by
  simp only [execOp]
  refine run_val ?_
  simp only [List.map_toArray, h1 a he, h2 a he]
  rfl
end
def evs (e : Env) : List Operand → Option (List Value)
  | [] => some []
  | x :: l => match ev e x, evs e l with
    | some v, some vs => some (v :: vs)
    | _, _ => none
theorem evs_rel {e : Env} {a : Array Value} (he : ERel e a) : ∀ {l : List Operand} {vs : List Value}, evs e l = some vs → l.map (evA a) = vs
  | [], vs, h => by simp only [evs, Option.some.injEq] at h; subst h; rfl
  | x :: l, vs, h => by
    simp only [evs] at h
    split at h
    · rename_i v us h1 h2
      simp only [Option.some.injEq] at h
      subst h
      rw [List.map_cons, ev_rel he h1, evs_rel he h2]
    · cases h
end Go.X

/- Boxes: variables and structs in memory; calls. No condition. -/
set_option linter.unusedSimpArgs false
set_option linter.unusedVariables false
namespace Go.X

abbrev ptr (b k : Nat) : Value := .pointer (some ⟨b, k, none⟩)
theorem add_none (b k n : Nat) : (⟨b, k, none⟩ : Addr).add n = ⟨b, k + n, none⟩ := by
  unfold Addr.add; split <;> simp_all

/-! ### values of one cell, cells of a value -/
def one : Value → Bool
  | .agg _ | .tuple _ => false
  | _ => true
class One (v : Value) : Prop where
  pf : v.cells = #[v] ∧ one v = true
instance {k n} : One (.int k n) := ⟨rfl, rfl⟩
instance {b} : One (.bool b) := ⟨rfl, rfl⟩
instance {a n c} : One (.slice a n c) := ⟨rfl, rfl⟩
instance {a} : One (.pointer a) := ⟨rfl, rfl⟩
instance {f a b} : One (.func f a b) := ⟨rfl, rfl⟩
instance : One .nilFunc := ⟨rfl, rfl⟩
instance {s} : One (.string s) := ⟨rfl, rfl⟩
instance {s} : One (.map s) := ⟨rfl, rfl⟩
instance {t v} : One (.iface t v) := ⟨rfl, rfl⟩
instance : One .nilIface := ⟨rfl, rfl⟩
class Ones (vs : List Value) : Prop where
  pf : ∀ v ∈ vs, one v = true
instance : Ones [] := ⟨fun _ h => by cases h⟩
instance {v vs} [a : One v] [b : Ones vs] : Ones (v :: vs) := ⟨fun u hu => by
  rcases List.mem_cons.1 hu with rfl | hu
  · exact a.pf.2
  · exact b.pf u hu⟩
class Cells (v : Value) (cs : outParam (List Value)) : Prop where
  pf : v.cells = cs.toArray
instance (priority := high) {cs : List Value} : Cells (.agg cs.toArray) cs := ⟨rfl⟩
instance (priority := low) {v} [a : One v] : Cells v [v] := ⟨a.pf.1⟩

class SetAt (k : Nat) (vs cs : List Value) (cs' : outParam (List Value)) : Prop where
  pf : cs.take k ++ vs ++ cs.drop (k + vs.length) = cs' ∧ k + vs.length ≤ cs.length
instance (priority := high) SetAt.nil {cs : List Value} : SetAt 0 [] cs cs := ⟨by simp⟩
instance SetAt.here {v c : Value} {vs cs cs' : List Value} [t : SetAt 0 vs cs cs'] : SetAt 0 (v :: vs) (c :: cs) (v :: cs') := ⟨by
  have := t.pf
  simp only [List.take_zero, List.nil_append, Nat.zero_add] at this
  simp only [List.take_zero, List.nil_append, Nat.zero_add, List.length_cons, List.drop_succ_cons, List.cons_append, this.1]
  exact ⟨trivial, by omega⟩⟩
instance SetAt.next {k : Nat} {c : Value} {vs cs cs' : List Value} [t : SetAt k vs cs cs'] : SetAt (k + 1) vs (c :: cs) (c :: cs') := ⟨by
  have := t.pf
  rw [show k + 1 + vs.length = k + vs.length + 1 by omega]
  simp only [List.take_succ_cons, List.cons_append, List.drop_succ_cons, List.length_cons, this.1]
  exact ⟨trivial, by omega⟩⟩

/-! ### facts on types, one instance a type -/
class Zero (P : Program) (t : TypeId) (zs : outParam (List Value)) : Prop where
  pf : ∃ z, (∀ w, (zeroValue t).run P w = .ok z w) ∧ z.cells = zs.toArray
class Fld (P : Program) (s i : Nat) (off : outParam Nat) : Prop where
  pf : ∀ b k w, (Instr.fieldAt s (ptr b k) i).run P w = .ok (ptr b (k + off)) w
theorem Fld.of {P : Program} {s i : Nat} {fs : Array Field} {f : Field} {n : Nat} (u : Und P s (.struct fs)) (hf : fs[i]? = some f) (t : TySize P f.type n) (hn : n ≠ 0) {off : Nat} (ho : f.offset = off) : Fld P s i off :=
  ⟨fun b k w => by
    subst ho
    unfold Instr.fieldAt
    rw [bind_ok (u.pf w)]
    simp only [hf]
    have h1 : (Instr.sureAddr (ptr b k)).run P w = .ok ⟨b, k, none⟩ w := rfl
    rw [bind_ok h1]
    have h2 : (fieldPlace ⟨b, k, none⟩ f).run P w = .ok ⟨b, k + f.offset, none⟩ w := by
      unfold fieldPlace
      rw [bind_ok (t.pf w), if_neg hn, add_none]
      rfl
    rw [bind_ok h2]
    rfl⟩
/-- Where the parts of a struct or an array lie: offset and size. -/
class Places (P : Program) (t : TypeId) (pl : outParam (Nat → Option (Nat × Nat))) : Prop where
  pf : ∀ (parts : List (Nat × Value)) (z : Value) (cells : Array Value) (w : World), (∀ w, (zeroValue t).run P w = .ok z w) → Instr.fill pl z.cells parts = some cells →
    (Instr.build t parts.toArray).run P w = .ok (.agg cells) w

/-! ### blocks in the lists -/
class HasL (b : Nat) (o : List PHeap) (cs : outParam (List Value)) (T : outParam TypeId) : Prop where
  pf : blk b cs T ∈ o
instance (priority := high) HasL.head {b cs T o} : HasL b (blk b cs T :: o) cs T := ⟨List.mem_cons_self⟩
instance HasL.tail {b cs T g o} [t : HasL b o cs T] : HasL b (g :: o) cs T := ⟨List.mem_cons_of_mem _ t.pf⟩
class HasB (b : Nat) (o r : List PHeap) (cs : outParam (List Value)) (T : outParam TypeId) : Prop where
  pf : blk b cs T ∈ o ∨ blk b cs T ∈ r
instance HasB.own {b cs T o r} [t : HasL b o cs T] : HasB b o r cs T := ⟨.inl t.pf⟩
instance HasB.read {b cs T o r} [t : HasL b r cs T] : HasB b o r cs T := ⟨.inr t.pf⟩
theorem HasB.heap {b : Nat} {o r : List PHeap} {cs : List Value} {T : TypeId} (t : HasB b o r cs T) {w : World} (h : Rd o r w) : w.heap[b]? = some (.cells cs.toArray T (0, 0)) := by
  rcases t.pf with h1 | h1
  · exact h.1 _ h1 b _ (sing_self _ _)
  · exact h.2 _ h1 b _ (sing_self _ _)
theorem cell_of_heap {w : World} {b k : Nat} {cs : List Value} {T : TypeId} {fr : Nat × Nat} {v : Value} (h : w.heap[b]? = some (.cells cs.toArray T fr)) (hv : cs[k]? = some v) :
    w.cell? ⟨b, k, none⟩ = some v := by simp [World.cell?, h, hv]
theorem run_load {P : Program} {w : World} {a : Addr} {v : Value} (h : w.cell? a = some v) : (load a).run P w = .ok v w := by simp [load, Sem.run, h]
theorem run_loadCellsFrom {P : Program} {w : World} {b k : Nat} : ∀ (n i : Nat) (acc : Array Value) (vs : List Value), vs.length = n →
    (∀ j, j < n → w.cell? ⟨b, k + (i + j), none⟩ = vs[j]?) → (loadCellsFrom ⟨b, k, none⟩ i n acc).run P w = .ok (acc ++ vs.toArray) w
  | 0, i, acc, vs, hl, _ => by
    have : vs = [] := List.length_eq_zero_iff.1 hl
    subst this
    simp [loadCellsFrom, pure, Sem.run]
  | n + 1, i, acc, v :: vs, hl, h => by
    unfold loadCellsFrom
    have h0 := h 0 (by omega)
    simp only [Nat.add_zero, List.getElem?_cons_zero] at h0
    rw [add_none, bind_ok (run_load h0)]
    rw [run_loadCellsFrom n (i + 1) (acc.push v) vs (by simpa using hl) (fun j hj => by
      have := h (j + 1) (by omega)
      simp only [List.getElem?_cons_succ] at this
      rw [← this]
      congr 2
      omega)]
    simp
theorem run_loadVar {P : Program} {w : World} {b k : Nat} {t : TypeId} [g : IsAgg P t false] {v : Value} (h : w.cell? ⟨b, k, none⟩ = some v) :
    (loadVar t ⟨b, k, none⟩).run P w = .ok v w := by
  unfold loadVar
  rw [bind_ok (g.pf w)]
  exact run_load h
theorem run_loadVarA {P : Program} {w : World} {b k : Nat} {t : TypeId} [g : IsAgg P t true] {n : Nat} [s : TySize P t n] {vs : List Value} (hl : vs.length = n)
    (h : ∀ j, j < n → w.cell? ⟨b, k + j, none⟩ = vs[j]?) : (loadVar t ⟨b, k, none⟩).run P w = .ok (.agg vs.toArray) w := by
  unfold loadVar
  rw [bind_ok (g.pf w)]
  simp only [if_true]
  rw [bind_ok (s.pf w)]
  have := run_loadCellsFrom (P := P) (w := w) (b := b) (k := k) n 0 #[] vs hl (fun j hj => by rw [Nat.zero_add]; exact h j hj)
  rw [run_bind]
  unfold loadCells
  rw [this]
  simp [pure, Sem.run]
theorem cells_of_heap {w : World} {b k n : Nat} {cs vs : List Value} {T : TypeId} {fr : Nat × Nat} (h : w.heap[b]? = some (.cells cs.toArray T fr)) (hv : (cs.drop k).take n = vs) (hl : vs.length = n) :
    ∀ j, j < n → w.cell? ⟨b, k + j, none⟩ = vs[j]? := fun j hj => by
  subst hv
  simp [World.cell?, h, hj]

section
variable {P : Program} {ops : Array Oper} {e : Env} {o r : List PHeap} {d : Option Tmp} {ty : TypeId} {pos : String} {aft : Array Edge}
theorem Q.fieldAddr {s i off : Nat} [f : Fld P s i off] {x : Operand} {b k : Nat} (hx : ev e x = some (ptr b k)) :
    Quiet P ops ⟨d, .fieldAddr s x i, ty, pos, aft, none⟩ e o r (ptr b (k + off)) := .mk fun a w he _ => by
  simp only [execOp, ev_rel he hx]
  exact run_val (f.pf b k w)
theorem Q.nilCheck {x : Operand} {b k : Nat} (hx : ev e x = some (ptr b k)) : Quiet P ops ⟨d, .nilCheck x, ty, pos, aft, none⟩ e o r (ptr b k) :=
  .mk fun a w he _ => by simp only [execOp, ev_rel he hx]; rfl
theorem Q.ld {t : TypeId} [g : IsAgg P t false] {x : Operand} {b k : Nat} {cs : List Value} {T : TypeId} {v : Value} (hx : ev e x = some (ptr b k)) [hb : HasB b o r cs T] (hv : cs[k]? = some v) :
    Quiet P ops ⟨d, .load t x, ty, pos, aft, none⟩ e o r v := .mk fun a w he hr => by
  simp only [execOp, ev_rel he hx]
  exact run_val (run_loadVar (cell_of_heap (hb.heap hr) hv))
theorem Q.ldA {t : TypeId} [g : IsAgg P t true] {n : Nat} [s : TySize P t n] {x : Operand} {b k : Nat} {cs : List Value} {T : TypeId} (vs : List Value) (hx : ev e x = some (ptr b k))
    [hb : HasB b o r cs T] (hv : (cs.drop k).take n = vs) (hl : vs.length = n) :
    Quiet P ops ⟨d, .load t x, ty, pos, aft, none⟩ e o r (.agg vs.toArray) := .mk fun a w he hr => by
  simp only [execOp, ev_rel he hx]
  exact run_val (run_loadVarA hl (cells_of_heap (hb.heap hr) hv hl))
theorem ResL.cell {t : TypeId} [g : IsAgg P t true] {n : Nat} [s : TySize P t n] {x : Nat} {l : List ResultVar} {us : List Value} {b k : Nat} {cs : List Value} {T : TypeId} (vs : List Value)
    (hx : find e x = some (ptr b k)) [hb : HasB b o r cs T] (hv : (cs.drop k).take n = vs) (hl : vs.length = n) (h : ResL P o r e l us) : ResL P o r e (.cell x t :: l) (.agg vs.toArray :: us) :=
  ⟨_, _, _, rfl, hx, fun w hr => run_loadVarA hl (cells_of_heap (hb.heap hr) hv hl), h⟩
theorem ResL.t {x : Nat} {l : List ResultVar} {us : List Value} {v : Value} (hx : find e x = some v) (h : ResL P o r e l us) : ResL P o r e (.tmp x :: l) (v :: us) := ⟨_, _, rfl, hx, h⟩
theorem ResL.n : ResL P o r e [] [] := rfl
/-- The parts of a literal. -/
inductive Fill (e : Env) (pl : Nat → Option (Nat × Nat)) : List (Nat × Operand) → List Value → List Value → Prop
  | n (cs : List Value) : Fill e pl [] cs cs
  | c {i : Nat} {x : Operand} {rest : List (Nat × Operand)} {cs cs2 : List Value} {v : Value} {us : List Value} (off m : Nat) (hx : ev e x = some v) [hc : Cells v us] (hp : pl i = some (off, m))
    (hm : us.length = m) {cs1 : List Value} [st : SetAt off us cs cs1] (h : Fill e pl rest cs1 cs2) : Fill e pl ((i, x) :: rest) cs cs2
theorem fold_set (us : List Value) : ∀ (cs : List Value) (off i : Nat), off + i + us.length ≤ cs.length →
    (us.zipIdx i).foldl (fun (a : Array Value) (p : Value × Nat) => a.setIfInBounds (off + p.2) p.1) cs.toArray = (cs.take (off + i) ++ us ++ cs.drop (off + i + us.length)).toArray := by
  induction us with
  | nil => intro cs off i h; simp
  | cons u us ih =>
    intro cs off i h
    simp only [List.zipIdx_cons, List.foldl_cons, List.setIfInBounds_toArray]
    rw [ih _ off (i + 1) (by simp at h ⊢; omega)]
    simp only [List.length_cons] at h
    congr 1
    apply List.ext_getElem?
    intro j
    simp only [List.getElem?_append, List.length_append, List.length_take, List.length_set, List.length_cons, List.getElem?_take, List.getElem?_drop, List.getElem?_set]
    have e1 : min (off + (i + 1)) cs.length = off + i + 1 := by omega
    have e2 : min (off + i) cs.length = off + i := by omega
    rw [e1, e2]
    by_cases h1 : j < off + i
    · have h2 : j < off + i + 1 := by omega
      simp only [show j < off + i + 1 + us.length by omega, if_true, h2, show j < off + (i + 1) by omega, show ¬ off + i = j by omega, if_false, show j < off + i + (us.length + 1) by omega, h1]
    · by_cases h2 : j = off + i
      · subst h2
        simp only [show off + i < off + i + 1 + us.length by omega, if_true, show off + i < off + i + 1 by omega, show off + i < off + (i + 1) by omega,
          show off + i < cs.length by omega, show off + i < off + i + (us.length + 1) by omega, Nat.lt_irrefl, if_false, Nat.sub_self, List.getElem?_cons_zero]
      · by_cases h3 : j < off + i + 1 + us.length
        · obtain ⟨m, hm⟩ : ∃ m, j = off + i + 1 + m := ⟨j - (off + i + 1), by omega⟩
          subst hm
          simp only [h3, if_true, show ¬ off + i + 1 + m < off + i + 1 by omega, if_false, show off + i + 1 + m - (off + i + 1) = m by omega,
            show off + i + 1 + m < off + i + (us.length + 1) by omega, show ¬ off + i + 1 + m < off + i by omega, show off + i + 1 + m - (off + i) = m + 1 by omega, List.getElem?_cons_succ]
        · obtain ⟨m, hm⟩ : ∃ m, j = off + i + 1 + us.length + m := ⟨j - (off + i + 1 + us.length), by omega⟩
          subst hm
          simp only [h3, if_false, show ¬ off + i + 1 + us.length + m < off + i + (us.length + 1) by omega,
            show ¬ off + i = off + (i + 1) + us.length + (off + i + 1 + us.length + m - (off + i + 1 + us.length)) by omega]
          congr 1
          omega
theorem Fill.run {pl : Nat → Option (Nat × Nat)} {a : Array Value} (he : ERel e a) : ∀ {l : List (Nat × Operand)} {cs cs2 : List Value}, Fill e pl l cs cs2 →
    Instr.fill pl cs.toArray (l.map fun (i, x) => (i, evA a x)) = some cs2.toArray := by
  intro l cs cs2 h
  induction h with
  | n cs => rfl
  | @c i x rest cs cs2 v us off m hx hc hp hm cs1 st h ih =>
    have hlt : off + m ≤ cs.length := by have := st.pf.2; omega
    have hcs1 := st.pf.1
    rw [hm] at hcs1
    subst hcs1
    simp only [List.map_cons, Instr.fill, hp, ev_rel he hx, hc.pf, List.size_toArray, hm]
    have := fold_set us cs off 0 (by omega)
    simp only [Nat.add_zero, hm] at this
    simp only [ne_eq, not_true_eq_false, gt_iff_lt, Bool.or_eq_true, decide_eq_true_eq, false_or]
    rw [if_neg (by simp; omega)]
    rw [show us.toArray.zipIdx = (us.zipIdx 0).toArray by simp]
    rw [← ih, ← this]
    congr 1
    simp
theorem Q.build {t : TypeId} {zs : List Value} [z : Zero P t zs] {pl : Nat → Option (Nat × Nat)} [p : Places P t pl] {l : List (Nat × Operand)} (cs : List Value) (h : Fill e pl l zs cs) :
    Quiet P ops ⟨d, .build t l.toArray, ty, pos, aft, none⟩ e o r (.agg cs.toArray) := .mk fun a w he _ => by
  simp only [execOp]
  obtain ⟨zv, h1, h2⟩ := z.pf
  have := h.run he
  refine run_val ?_
  simp only [List.map_toArray]
  exact p.pf _ zv _ w h1 (by rw [h2]; exact this)
end
end Go.X

/- New variables, stores into variables, calls. No condition. -/
set_option linter.unusedSimpArgs false
set_option linter.unusedVariables false
namespace Go.X

/-- Where one heap is replaced by another of the same blocks. -/
theorem Sep.swap {h h' : PHeap} {o r : List PHeap} {w w' : World} (s : Sep (h :: o) r w) (hd : ∀ b, h b = none → h' b = none) (hs : sub h' w')
    (hk : ∀ b, h b = none → w'.heap[b]? = w.heap[b]?) (hn : h'.m = none) (hmt : mt w' = mt w) : Sep (h' :: o) r w' := by
  have key : ∀ g, Disj h g → sub g w → sub g w' := fun g dg sg b ob hb => by
    rw [hk b, sg b ob hb]
    rcases dg b with h1 | h1
    · exact h1
    · rw [h1] at hb; cases hb
  have kd : ∀ g, Disj h g → Disj h' g := fun g dg b => by
    rcases dg b with h1 | h1
    · exact .inl (hd b h1)
    · exact .inr h1
  have hp := List.pairwise_cons.1 s.pw
  refine ⟨List.pairwise_cons.2 ⟨fun g hg => kd g (hp.1 g hg), hp.2⟩, ?_, ?_, ?_, ?_, fun g hg m hm => hmt.trans (s.sm g hg m hm)⟩
  · intro x hx g hg
    rcases List.mem_cons.1 hx with rfl | hx
    · exact kd g (s.dr h List.mem_cons_self g hg)
    · exact s.dr x (List.mem_cons_of_mem _ hx) g hg
  · intro x hx
    rcases List.mem_cons.1 hx with rfl | hx
    · exact hs
    · exact key x (hp.1 x hx) (s.so x (List.mem_cons_of_mem _ hx))
  · exact fun g hg => key g (s.dr h List.mem_cons_self g hg) (s.sr g hg)
  · intro x hx
    rcases List.mem_cons.1 hx with rfl | hx
    · exact hn
    · exact s.no x (List.mem_cons_of_mem _ hx)

/-- One block of the list is turned. -/
class Upd (b k : Nat) (vs : List Value) (o : List PHeap) (o' : outParam (List PHeap)) : Prop where
  pf : ∃ cs T o1, o.Perm (blk b cs T :: o1) ∧ (blk b (cs.take k ++ vs ++ cs.drop (k + vs.length)) T :: o1).Perm o' ∧ k + vs.length ≤ cs.length
instance (priority := high) Upd.head {b k : Nat} {vs cs cs' : List Value} {T : TypeId} {o : List PHeap} [s : SetAt k vs cs cs'] : Upd b k vs (blk b cs T :: o) (blk b cs' T :: o) :=
  ⟨cs, T, o, List.Perm.refl _, by rw [s.pf.1], s.pf.2⟩
instance Upd.tail {b k : Nat} {vs : List Value} {g : PHeap} {o o' : List PHeap} [t : Upd b k vs o o'] : Upd b k vs (g :: o) (g :: o') :=
  ⟨let ⟨cs, T, o1, h1, h2, h3⟩ := t.pf
   ⟨cs, T, g :: o1, (h1.cons g).trans (List.Perm.swap _ _ _), (List.Perm.swap _ _ _).trans (h2.cons g), h3⟩⟩

theorem run_store {P : Program} {w : World} {a : Addr} {v : Value} {x : Value} (ho : one v = true) (hc : w.cell? a = some x) (hf : w.frozen? a = false) :
    (store a v).run P w = .ok () (w.setCell a v) := by
  cases v <;> simp [one] at ho <;> simp [store, Sem.run, hc, hf]
theorem run_storeCells {P : Program} {b k : Nat} {T : TypeId} : ∀ (vs : List Value) (i : Nat) (w : World) (cs : List Value), (∀ v ∈ vs, one v = true) →
    w.heap[b]? = some (.cells cs.toArray T (0, 0)) → k + i + vs.length ≤ cs.length →
    ∃ w', (storeCells ⟨b, k, none⟩ vs i).run P w = .ok () w' ∧ w'.heap[b]? = some (.cells (cs.take (k + i) ++ vs ++ cs.drop (k + i + vs.length)).toArray T (0, 0)) ∧
      (∀ x, x ≠ b → w'.heap[x]? = w.heap[x]?) ∧ mt w' = mt w
  | [], i, w, cs, _, hh, hl => ⟨w, rfl, by simpa using hh, fun _ _ => rfl, rfl⟩
  | v :: vs, i, w, cs, ho, hh, hl => by
    simp only [List.length_cons] at hl
    have hlt : k + i < cs.length := by omega
    have hb : b < w.heap.size := (Array.getElem?_eq_some_iff.1 hh).1
    have hcell : w.cell? ⟨b, k + i, none⟩ = some (cs[k + i]'hlt) := by simp [World.cell?, hh, hlt]
    have hfr : w.frozen? ⟨b, k + i, none⟩ = false := by simp [World.frozen?, hh]
    have hh' : (w.setCell ⟨b, k + i, none⟩ v).heap[b]? = some (.cells (cs.set (k + i) v).toArray T (0, 0)) := by
      simp only [World.setCell, Array.getElem?_modify, hh]
      simp
    have hk' : ∀ x, x ≠ b → (w.setCell ⟨b, k + i, none⟩ v).heap[x]? = w.heap[x]? := fun x hx => by
      simp only [World.setCell, Array.getElem?_modify]
      rw [if_neg (Ne.symm hx)]
    obtain ⟨w', h1, h2, h3, h4⟩ := run_storeCells (b := b) (k := k) (T := T) vs (i + 1) (w.setCell ⟨b, k + i, none⟩ v) (cs.set (k + i) v) (fun u hu => ho u (List.mem_cons_of_mem _ hu)) hh' (by rw [List.length_set]; omega)
    refine ⟨w', ?_, ?_, fun x hx => (h3 x hx).trans (hk' x hx), h4.trans rfl⟩
    · unfold storeCells
      rw [add_none, bind_ok (run_store (ho v List.mem_cons_self) hcell hfr)]
      exact h1
    · rw [h2]
      congr 3
      apply List.ext_getElem?
      intro j
      simp only [List.getElem?_append, List.length_append, List.length_take, List.length_set, List.length_cons, List.getElem?_take, List.getElem?_drop, List.getElem?_set]
      have e1 : min (k + (i + 1)) cs.length = k + i + 1 := by omega
      have e2 : min (k + i) cs.length = k + i := by omega
      rw [e1, e2]
      by_cases c1 : j < k + i
      · simp only [show j < k + i + 1 + vs.length by omega, if_true, show j < k + i + 1 by omega, show j < k + (i + 1) by omega, show ¬ k + i = j by omega, if_false,
          show j < k + i + (vs.length + 1) by omega, c1]
      · by_cases c2 : j = k + i
        · subst c2
          simp only [show k + i < k + i + 1 + vs.length by omega, if_true, show k + i < k + i + 1 by omega, show k + i < k + (i + 1) by omega, hlt,
            show k + i < k + i + (vs.length + 1) by omega, Nat.lt_irrefl, if_false, Nat.sub_self, List.getElem?_cons_zero]
        · by_cases c3 : j < k + i + 1 + vs.length
          · obtain ⟨m, hm⟩ : ∃ m, j = k + i + 1 + m := ⟨j - (k + i + 1), by omega⟩
            subst hm
            simp only [c3, if_true, show ¬ k + i + 1 + m < k + i + 1 by omega, if_false, show k + i + 1 + m - (k + i + 1) = m by omega,
              show k + i + 1 + m < k + i + (vs.length + 1) by omega, show ¬ k + i + 1 + m < k + i by omega, show k + i + 1 + m - (k + i) = m + 1 by omega, List.getElem?_cons_succ]
          · obtain ⟨m, hm⟩ : ∃ m, j = k + i + 1 + vs.length + m := ⟨j - (k + i + 1 + vs.length), by omega⟩
            subst hm
            simp only [c3, if_false, show ¬ k + i + 1 + vs.length + m < k + i + (vs.length + 1) by omega,
              show ¬ k + i = k + (i + 1) + vs.length + (k + i + 1 + vs.length + m - (k + i + 1 + vs.length)) by omega]
            congr 1
            omega

section
variable {P : Program} {ops : Array Oper} {e : Env} {o r : List PHeap} {d : Option Tmp} {ty : TypeId} {pos : String} {aft : Array Edge}
theorem blk_none {b x : Nat} {cs : List Value} {T : TypeId} (h : blk b cs T x = none) : x ≠ b := by
  rintro rfl
  simp [blk, sing] at h
theorem none_blk {b x : Nat} {cs : List Value} {T : TypeId} (h : x ≠ b) : blk b cs T x = none := by simp [blk, sing, h]
theorem Stp0.st {t : TypeId} {n : Nat} [s : TySize P t n] {x y : Operand} {b k : Nat} {v : Value} {vs : List Value} {o' : List PHeap} (hx : ev e x = some (ptr b k)) (hy : ev e y = some v)
    [hc : Cells v vs] [ho : Ones vs] (hl : vs.length = n) [u : Upd b k vs o o'] :
    Stp0 P ops ⟨d, .store t x y, ty, pos, aft, none⟩ e o r (fun v o2 => v = undef ∧ o2 = o') := fun a w he hs => by
  obtain ⟨cs, T, o1, p1, p2, hle⟩ := u.pf
  have hs1 := hs.perm p1
  have hh : w.heap[b]? = some (.cells cs.toArray T (0, 0)) := hs1.so _ List.mem_cons_self b _ (sing_self _ _)
  obtain ⟨w', h1, h2, h3, h4⟩ := run_storeCells (P := P) (b := b) (k := k) vs 0 w cs ho.pf hh (by omega)
  have hrun : (Instr.storeAt t (ptr b k) v).run P w = .ok () w' := by
    unfold Instr.storeAt
    have e1 : (Instr.sureAddr (ptr b k)).run P w = .ok ⟨b, k, none⟩ w := rfl
    rw [bind_ok e1]
    unfold storeVar
    rw [bind_ok (s.pf w), hc.pf, if_neg (by simp [hl])]
    exact h1
  unfold Does
  simp only [Region.wanted, if_true, execOp, ev_rel he hx, ev_rel he hy, run_unit hrun]
  refine ⟨o', ⟨trivial, rfl⟩, (Sep.swap hs1 ?_ ?_ ?_ rfl h4).perm p2⟩
  · exact fun x hx => none_blk (blk_none hx)
  · intro x ob hb
    obtain ⟨rfl, rfl⟩ := sing_some hb
    simpa using h2
  · exact fun x hx => h3 x (blk_none hx)
theorem Stp.st {t : TypeId} {n : Nat} [s : TySize P t n] {x y : Operand} {b k : Nat} {v : Value} {vs : List Value} {o' : List PHeap} (hx : ev e x = some (ptr b k)) (hy : ev e y = some v)
    [hc : Cells v vs] [ho : Ones vs] (hl : vs.length = n) [u : Upd b k vs o o'] :
    Stp P ops ⟨d, .store t x y, ty, pos, aft, none⟩ e o r (fun v o2 => v = undef ∧ o2 = o') := fun D a w he hs =>
  (Stp0.st (o' := D :: o') hx hy hl a w he hs).mono fun v w' ⟨o2, ⟨h1, h2⟩, hs'⟩ => ⟨o2, ⟨o', ⟨h1, rfl⟩, by rw [h2]⟩, hs'⟩
theorem Makes.alloc {t : TypeId} {zs : List Value} [z : Zero P t zs] : Makes P ops ⟨d, .alloc t, ty, pos, aft, none⟩ e (.cells zs.toArray t (0, 0)) (fun b => ptr b 0) := fun a w _ => by
  obtain ⟨zv, h1, h2⟩ := z.pf
  refine ⟨rfl, ?_⟩
  simp only [execOp]
  refine run_val ?_
  unfold Instr.alloc
  rw [bind_ok (h1 w)]
  simp only [newVar, newRow, newObj, h2]
  rfl
theorem Makes.box {t : TypeId} {x : Operand} {v : Value} {cs : List Value} (hx : ev e x = some v) [hc : Cells v cs] :
    Makes P ops ⟨d, .box t x, ty, pos, aft, none⟩ e (.cells cs.toArray t (0, 0)) (fun b => ptr b 0) := fun a w he => by
  refine ⟨rfl, ?_⟩
  simp only [execOp, ev_rel he hx]
  refine run_val ?_
  simp only [Instr.box, newVar, newRow, newObj, hc.pf]
  rfl
/-- A call of a function that is known by its number. -/
theorem Stp0.call {g : FuncId} {x : Operand} {l : List Operand} {tys : Array TypeId} {fst vs cap A : List Value} {Hm Hr : List PHeap} {R : Value → List PHeap → Prop} {o1 : List PHeap}
    (hc : ∀ args w, (callFunc g args).run P w = .ok (.enter g args) w) (hx : ev e x = some (.func (.func g) fst.toArray cap.toArray)) (hl : evs e l = some vs) (hA : fst ++ vs ++ cap = A)
    (hS : Spec P g A.toArray Hm Hr R) [t : Takes Hm o o1] [al : AllIn Hr o1 r] :
    Stp0 P ops ⟨d, .call ⟨.value x, l.toArray, tys⟩, ty, pos, aft, none⟩ e o r (fun v o2 => ∃ hs, R v hs ∧ o2 = hs ++ o1) := fun a w he hs => by
  have hrun : (execOp (evA a) (⟨d, .call ⟨.value x, l.toArray, tys⟩, ty, pos, aft, none⟩ : Oper)).run P w = .ok (.enter g A.toArray) w := by
    simp only [execOp, resolve, ev_rel he hx, List.map_toArray, evs_rel he hl]
    have e1 : (Deferred.ofValue (.func (.func g) fst.toArray cap.toArray) vs.toArray).run P w = .ok { target := .fn (.func g) cap.toArray, args := fst.toArray ++ vs.toArray } w := rfl
    rw [bind_ok e1]
    simp only [invoke]
    rw [hc]
    simp [← hA]
  unfold Does
  simp only [Region.wanted, if_true, hrun]
  refine (hS o1 r w (hs.perm t.pf) al.pf).mono ?_
  rintro e' w' ⟨v, hs', rfl, hR, hS'⟩
  exact ⟨v, rfl, hs' ++ o1, ⟨hs', hR, rfl⟩, hS'⟩
theorem Takes.more {hs o o1 : List PHeap} (t : Takes hs o o1) (D : PHeap) : Takes hs (D :: o) (D :: o1) := ⟨(t.pf.cons D).trans List.perm_middle.symm⟩
theorem AllIn.more {hs o r : List PHeap} (t : AllIn hs o r) (D : PHeap) : AllIn hs (D :: o) r := ⟨fun h hh => orMap (t.pf h hh) (List.mem_cons_of_mem _) id⟩
theorem Stp.call {g : FuncId} {x : Operand} {l : List Operand} {tys : Array TypeId} {fst vs cap A : List Value} {Hm Hr : List PHeap} {R : Value → List PHeap → Prop} {o1 : List PHeap}
    (hc : ∀ args w, (callFunc g args).run P w = .ok (.enter g args) w) (hx : ev e x = some (.func (.func g) fst.toArray cap.toArray)) (hl : evs e l = some vs) (hA : fst ++ vs ++ cap = A)
    (hS : Spec P g A.toArray Hm Hr R) [t : Takes Hm o o1] [al : AllIn Hr o1 r] :
    Stp P ops ⟨d, .call ⟨.value x, l.toArray, tys⟩, ty, pos, aft, none⟩ e o r (fun v o2 => ∃ hs, R v hs ∧ o2 = hs ++ o1) := fun D a w he hs =>
  (Stp0.call (t := t.more D) (al := al.more D) hc hx hl hA hS a w he hs).mono fun v w' ⟨o2, ⟨hs2, h1, h2⟩, hs'⟩ => ⟨o2, ⟨hs2 ++ o1, ⟨hs2, h1, rfl⟩, by rw [h2]; exact List.perm_middle⟩, hs'⟩
end

section
variable {c : Cx} {ops : Array Oper} {rest : List Oper} {k : List Item} {e : Env} {o r : List PHeap} {d : Nat} {dd : Option Tmp} {ty : TypeId} {pos : String} {aft : Array Edge}
theorem XO.st {t : TypeId} {n : Nat} [s : TySize c.P t n] {x y : Operand} {b i : Nat} {v : Value} {vs : List Value} {o' : List PHeap} (hx : ev e x = some (ptr b i)) (hy : ev e y = some v)
    [hc : Cells v vs] [ho : Ones vs] (hl : vs.length = n) [u : Upd b i vs o o'] (h : XO c ops rest k e o' r) :
    XO c ops (⟨none, .store t x y, ty, pos, aft, none⟩ :: rest) k e o r := XO.s0 (Stp.st hx hy hl) fun _ _ ⟨_, h2⟩ => by subst h2; exact h
theorem XO.alloc {t : TypeId} {zs : List Value} [z : Zero c.P t zs] (h : ∀ b, XO c ops rest k ((d, some (ptr b 0)) :: e) (blk b zs t :: o) r) :
    XO c ops (⟨some d, .alloc t, ty, pos, aft, none⟩ :: rest) k e o r := XO.m Makes.alloc h
theorem XO.box {t : TypeId} {x : Operand} {v : Value} {cs : List Value} (hx : ev e x = some v) [hc : Cells v cs] (h : ∀ b, XO c ops rest k ((d, some (ptr b 0)) :: e) (blk b cs t :: o) r) :
    XO c ops (⟨some d, .box t x, ty, pos, aft, none⟩ :: rest) k e o r := XO.m (Makes.box hx) h
/-- A call. -/
theorem XO.call {g : FuncId} {x : Operand} {l : List Operand} {tys : Array TypeId} {fst vs cap A : List Value} {Hm Hr : List PHeap} {R : Value → List PHeap → Prop} {o1 : List PHeap}
    (hc : ∀ args w, (callFunc g args).run c.P w = .ok (.enter g args) w) (hx : ev e x = some (.func (.func g) fst.toArray cap.toArray)) (hl : evs e l = some vs) (hA : fst ++ vs ++ cap = A)
    (hS : Spec c.P g A.toArray Hm Hr R) [t : Takes Hm o o1] [al : AllIn Hr o1 (c.B :: r)] (h : ∀ v hs, R v hs → XO c ops rest k ((d, some v) :: e) (hs ++ o1) r) :
    XO c ops (⟨some d, .call ⟨.value x, l.toArray, tys⟩, ty, pos, aft, none⟩ :: rest) k e o r := XO.s (Stp.call hc hx hl hA hS) fun v o2 ⟨hs, hR, h2⟩ => by subst h2; exact h v hs hR
end
end Go.X

/- Slices. No condition. -/
set_option linter.unusedSimpArgs false
set_option linter.unusedVariables false
namespace Go.X

/-! ### an integer that is a natural number -/
class IsNat (n : Int) (i : outParam Nat) : Prop where
  pf : n = i
instance (priority := high) IsNat.cast {i : Nat} : IsNat (i : Int) i := ⟨rfl⟩
instance IsNat.lit {n : Nat} : IsNat (@OfNat.ofNat Int n instOfNat) n := ⟨rfl⟩
instance IsNat.add {m n : Int} {i j : Nat} [a : IsNat m i] [b : IsNat n j] : IsNat (m + n) (i + j) := ⟨by rw [a.pf, b.pf]; rfl⟩
instance IsNat.mul {m n : Int} {i j : Nat} [a : IsNat m i] [b : IsNat n j] : IsNat (m * n) (i * j) := ⟨by rw [a.pf, b.pf]; exact (Int.natCast_mul i j).symm⟩
instance IsNat.div {m n : Int} {i j : Nat} [a : IsNat m i] [b : IsNat n j] : IsNat (m / n) (i / j) := ⟨by rw [a.pf, b.pf]; rfl⟩
instance IsNat.mod {m n : Int} {i j : Nat} [a : IsNat m i] [b : IsNat n j] : IsNat (m % n) (i % j) := ⟨by rw [a.pf, b.pf]; rfl⟩
class Idx (n : Int) (i : outParam Nat) : Prop where
  pf : 0 ≤ n → n = i
instance (priority := high) Idx.nat {n : Int} {i : Nat} [a : IsNat n i] : Idx n i := ⟨fun _ => a.pf⟩
instance (priority := low) Idx.toNat {n : Int} : Idx n n.toNat := ⟨fun h => (Int.toNat_of_nonneg h).symm⟩

/-! ### slices that are read, slices that are owned -/
class Arr (v : Value) {α : outParam Type} (enc : outParam (α → List Value)) (sz : outParam Nat) (h : outParam PHeap) (xs : outParam (List α)) : Prop where
  pf : (∀ x, (enc x).length = sz) ∧ (xs.length ≤ 140737488355328 ∧ ∀ x ∈ xs, ∀ c ∈ enc x, one c = true) ∧ ∃ a c, v = .slice a xs.length c ∧ xs.length ≤ c ∧ (a = none → c = 0) ∧
    (0 < xs.length → ∃ b k cs T fr, a = some ⟨b, k, none⟩ ∧ h b = some (.cells cs T fr) ∧ ∀ i j, i < xs.length → j < sz → cs[k + i * sz + j]? = (xs[i]?.bind fun x => (enc x)[j]?))
class OArr (v : Value) {α : outParam Type} (enc : outParam (α → List Value)) (sz : outParam Nat) (T : outParam TypeId) (h : outParam PHeap) (xs : outParam (List α)) : Prop where
  pf : (∀ x, (enc x).length = sz) ∧ (xs.length ≤ 140737488355328 ∧ ∀ x ∈ xs, ∀ c ∈ enc x, one c = true) ∧ ((v = .slice none 0 0 ∧ xs = [] ∧ h = emp) ∨
    ∃ b c cs, v = .slice (some ⟨b, 0, none⟩) xs.length c ∧ h = blk b cs T ∧ xs.length ≤ c ∧ cs.length = c * sz ∧ cs.take (xs.length * sz) = xs.flatMap enc)
theorem flat_get {α : Type} {enc : α → List Value} {sz : Nat} (he : ∀ x, (enc x).length = sz) : ∀ (xs : List α) (i j : Nat), j < sz →
    (xs.flatMap enc)[i * sz + j]? = xs[i]?.bind fun x => (enc x)[j]?
  | [], i, j, hj => by simp
  | x :: xs, 0, j, hj => by
    simp only [List.flatMap_cons, Nat.zero_mul, Nat.zero_add, List.getElem?_cons_zero, Option.bind_some]
    rw [List.getElem?_append_left (by rw [he]; exact hj)]
  | x :: xs, i + 1, j, hj => by
    simp only [List.flatMap_cons, List.getElem?_cons_succ]
    rw [List.getElem?_append_right (by rw [he, Nat.add_mul]; omega), he, ← flat_get he xs i j hj]
    congr 1
    rw [Nat.add_mul]
    omega
theorem flat_len {α : Type} {enc : α → List Value} {sz : Nat} (he : ∀ x, (enc x).length = sz) : ∀ (xs : List α), (xs.flatMap enc).length = xs.length * sz
  | [] => by simp
  | x :: xs => by rw [List.flatMap_cons, List.length_append, he, flat_len he xs, List.length_cons, Nat.add_mul]; omega
instance OArr.arr {v : Value} {α : Type} {enc : α → List Value} {sz T : Nat} {h : PHeap} {xs : List α} [s : OArr v enc sz T h xs] : Arr v enc sz h xs := ⟨by
  obtain ⟨he, hm, ⟨rfl, rfl, rfl⟩ | ⟨b, c, cs, rfl, rfl, hle, hlen, ht⟩⟩ := s.pf
  · exact ⟨he, hm, none, 0, rfl, by simp, fun _ => rfl, fun h => by simp at h⟩
  · refine ⟨he, hm, _, c, rfl, hle, (fun h => by cases h), fun _ => ⟨b, 0, cs.toArray, T, (0, 0), rfl, sing_self _ _, fun i j hi hj => ?_⟩⟩
    rw [← flat_get he xs i j hj, ← ht]
    have h1 : i * sz + j < xs.length * sz := by
      have : (i + 1) * sz ≤ xs.length * sz := Nat.mul_le_mul_right _ hi
      rw [Nat.add_mul] at this
      omega
    simp [List.getElem?_take, h1]⟩
instance Arr.one {v : Value} {α : Type} {enc : α → List Value} {sz : Nat} {h : PHeap} {xs : List α} [s : Arr v enc sz h xs] : One v := ⟨by
  obtain ⟨_, _, a, c, rfl, _⟩ := s.pf
  exact ⟨rfl, rfl⟩⟩
theorem Arr.le {v : Value} {α : Type} {enc : α → List Value} {sz : Nat} {h : PHeap} {xs : List α} (s : Arr v enc sz h xs) : xs.length ≤ 140737488355328 := s.pf.2.1.1
theorem OArr.nil {α : Type} {enc : α → List Value} {sz T : Nat} (he : ∀ x, (enc x).length = sz) : OArr (.slice none 0 0) enc sz T emp ([] : List α) := ⟨he, by simp, .inl ⟨rfl, rfl, rfl⟩⟩
theorem Arr.nil {α : Type} {enc : α → List Value} {sz : Nat} {h : PHeap} (he : ∀ x, (enc x).length = sz) : Arr (.slice none 0 0) enc sz h ([] : List α) :=
  ⟨he, by simp, none, 0, rfl, by simp, fun _ => rfl, fun h => by simp at h⟩
/-- A larger heap reads the same. -/
def leH (h g : PHeap) : Prop := ∀ b o, h b = some o → g b = some o
theorem Arr.le_heap {v : Value} {α : Type} {enc : α → List Value} {sz : Nat} {h g : PHeap} {xs : List α} (s : Arr v enc sz h xs) (hl : leH h g) : Arr v enc sz g xs := ⟨by
  obtain ⟨he, hm, a, c, hv, hle, hn, hc⟩ := s.pf
  refine ⟨he, hm, a, c, hv, hle, hn, fun hp => ?_⟩
  obtain ⟨b, k, cs, T, fr, ha, hb, hcs⟩ := hc hp
  exact ⟨b, k, cs, T, fr, ha, hl b _ hb, hcs⟩⟩
theorem leH.refl (h : PHeap) : leH h h := fun _ _ h => h

/-! ### what a state may be weakened to -/
class Wk (o o' : List PHeap) : Prop where
  pf : ∃ m l, (List.replicate m emp ++ o).Perm (o' ++ l)
instance (priority := low) Wk.nil (o : List PHeap) : Wk o [] := ⟨0, o, List.Perm.refl _⟩
instance (priority := high) Wk.emp (o o' : List PHeap) [p : Wk o o'] : Wk o (emp :: o') := ⟨let ⟨m, l, h⟩ := p.pf; ⟨m + 1, l, by rw [List.replicate_succ]; exact h.cons X.emp⟩⟩
instance Wk.cons (h : PHeap) (o o1 o' : List PHeap) [t : Take h o o1] [p : Wk o1 o'] : Wk o (h :: o') :=
  ⟨let ⟨m, l, hp⟩ := p.pf
   ⟨m, l, ((t.pf.append_left _).trans List.perm_middle).trans (hp.cons h)⟩⟩
theorem Sep.emp {o r : List PHeap} {w : World} (s : Sep o r w) : ∀ m, Sep (List.replicate m emp ++ o) r w
  | 0 => s
  | m + 1 => by
    have s' := Sep.emp s m
    rw [List.replicate_succ]
    exact ⟨List.pairwise_cons.2 ⟨fun h _ => emp_disj h, s'.pw⟩, fun h hh => by
      rcases List.mem_cons.1 hh with rfl | hh
      · exact fun g _ => emp_disj g
      · exact s'.dr h hh, fun h hh => by
      rcases List.mem_cons.1 hh with rfl | hh
      · intro b o hb; cases hb
      · exact s'.so h hh, s'.sr, fun h hh => by
      rcases List.mem_cons.1 hh with rfl | hh
      · rfl
      · exact s'.no h hh, s'.sm⟩
theorem Wk.sep {o o' r : List PHeap} {w : World} (p : Wk o o') (s : Sep o r w) : Sep o' r w :=
  let ⟨m, _, hp⟩ := p.pf
  ((s.emp m).perm hp).left

theorem Wk.sepD {o o' r : List PHeap} {D : PHeap} {w : World} (p : Wk o o') (s : Sep (D :: o) r w) : Sep (D :: o') r w :=
  let ⟨m, l, hp⟩ := p.pf
  have h1 : (List.replicate m X.emp ++ D :: o).Perm ((D :: o') ++ l) := List.perm_middle.trans (hp.cons D)
  ((s.emp m).perm h1).left
/-! ### the place of an element -/
def pat (v : Value) (sz i off : Nat) : Value := match v with
  | .slice (some a) _ _ => .pointer (some (a.add (i * sz + off)))
  | _ => undef
theorem Arr.at' {v : Value} {α : Type} {enc : α → List Value} {sz : Nat} {h : PHeap} {xs : List α} (s : Arr v enc sz h xs) {i : Nat} (hi : i < xs.length) :
    ∃ b k cs T fr c, v = .slice (some ⟨b, k, none⟩) xs.length c ∧ h b = some (.cells cs T fr) ∧ (∀ off, pat v sz i off = ptr b (k + (i * sz + off))) ∧
      ∀ j, j < sz → cs[k + (i * sz + j)]? = (enc xs[i])[j]? := by
  obtain ⟨he, hm, a, c, rfl, hle, _, hc⟩ := s.pf
  obtain ⟨b, k, cs, T, fr, rfl, hb, hcs⟩ := hc (by omega)
  refine ⟨b, k, cs, T, fr, c, rfl, hb, fun off => by simp [pat, add_none], fun j hj => ?_⟩
  have := hcs i j hi hj
  rw [List.getElem?_eq_getElem hi] at this
  simpa [Nat.add_assoc] using this
theorem getD_of {α : Type} [Inhabited α] {xs : List α} {i : Nat} (hi : i < xs.length) : xs.getD i default = xs[i] := by simp [hi]

section
variable {P : Program} {ops : Array Oper} {e : Env} {o r : List PHeap} {d : Option Tmp} {ty : TypeId} {pos : String} {aft : Array Edge}
variable {α : Type} {enc : α → List Value} {sz : Nat} {h : PHeap} {xs : List α} {v : Value}
theorem Q.len {t : TypeId} {el : TypeId} [u : Und P t (.slice el)] {x : Operand} (hx : ev e x = some v) [s : Arr v enc sz h xs] :
    Quiet P ops ⟨d, .call ⟨.builtin .len, #[x], #[t]⟩, ty, pos, aft, none⟩ e o r (.int .i64 xs.length) := .mk fun a w he _ => by
  obtain ⟨_, _, ad, c, rfl, _⟩ := s.pf
  have hx' := ev_rel he hx
  simp only [execOp, resolve, List.map_toArray, List.map_cons, List.map_nil, hx']
  rw [bind_ok (a := _) (w1 := w) rfl]
  simp only [invoke, builtin]
  refine run_val ?_
  unfold Builtin.len_
  simp only [List.getElem?_toArray, List.getElem?_cons_zero]
  rw [bind_ok (u.pf w)]
  rfl
theorem Q.ix {t el : TypeId} [u : Und P t (.slice el)] [z : TySize P el sz] {x y : Operand} {k : IntKind} {n : Int} {i : Nat} (hx : ev e x = some v) (hy : ev e y = some (.int k n))
    [s : Arr v enc sz h xs] [ix : Idx n i] (h0 : 0 ≤ n) (h1 : n < xs.length) : Quiet P ops ⟨d, .indexAddr t x y, ty, pos, aft, none⟩ e o r (pat v sz i 0) := .mk fun a w he _ => by
  have hn := ix.pf h0
  subst hn
  obtain ⟨b, kk, cs, T, fr, c, hv, _, hp, _⟩ := s.at' (i := i) (by omega)
  rw [hp]
  subst hv
  simp only [execOp, ev_rel he hx, ev_rel he hy]
  refine run_val ?_
  unfold Instr.indexAt
  have e1 : (asIntOf (.int k (i : Int))).run P w = .ok (k, (i : Int)) w := rfl
  rw [bind_ok e1]
  simp only
  rw [bind_ok (u.pf w)]
  simp only
  rw [bind_ok (a := (some (⟨b, kk, none⟩ : Addr), xs.length, el)) (w1 := w) rfl]
  rw [bind_ok (u.pf w)]
  simp only
  rw [if_pos ⟨h0, h1⟩]
  rw [bind_ok (z.pf w)]
  simp [add_none, pure, Sem.run]
theorem Q.fieldP {s' f off n : Nat} [fl : Fld P s' f off] {x : Operand} {i k : Nat} (hx : ev e x = some (pat v sz i k)) [s : Arr v enc sz h xs] (hi : i < xs.length) :
    Quiet P ops ⟨d, .fieldAddr s' x f, ty, pos, aft, none⟩ e o r (pat v sz i (k + off)) := .mk fun a w he _ => by
  obtain ⟨b, kk, cs, T, fr, c, hv, _, hp, _⟩ := s.at' hi
  have hx' := ev_rel he hx
  rw [hp] at hx'
  rw [hp]
  simp only [execOp, hx']
  have := run_val (fl.pf b (kk + (i * sz + k)) w)
  simpa [Nat.add_assoc] using this
theorem Q.ldE [Inhabited α] {t : TypeId} [g : IsAgg P t false] {x : Operand} {i k : Nat} {u : Value} (hx : ev e x = some (pat v sz i k)) [s : Arr v enc sz h xs] [m : InM h o r] (hi : i < xs.length)
    (hu : (enc (xs.getD i default))[k]? = some u) : Quiet P ops ⟨d, .load t x, ty, pos, aft, none⟩ e o r u := .mk fun a w he hr => by
  obtain ⟨b, kk, cs, T, fr, c, hv, hb, hp, hc⟩ := s.at' hi
  have hx' := ev_rel he hx
  rw [hp] at hx'
  simp only [execOp, hx']
  rw [getD_of hi] at hu
  have hk : k < sz := by rw [← s.pf.1 xs[i]]; exact (List.getElem?_eq_some_iff.1 hu).1
  refine run_val (run_loadVar ?_)
  have hh : w.heap[b]? = some (.cells cs T fr) := by
    rcases m.pf with h1 | h1
    · exact hr.1 h h1 b _ hb
    · exact hr.2 h h1 b _ hb
  simp only [World.cell?, hh]
  rw [if_neg (by simp), hc k hk, hu]
theorem Q.ldEA [Inhabited α] {t : TypeId} [g : IsAgg P t true] {n : Nat} [z : TySize P t n] {x : Operand} {i k : Nat} (us : List Value) (hx : ev e x = some (pat v sz i k)) [s : Arr v enc sz h xs] [m : InM h o r]
    (hi : i < xs.length) (hu : ((enc (xs.getD i default)).drop k).take n = us) (hl : us.length = n) : Quiet P ops ⟨d, .load t x, ty, pos, aft, none⟩ e o r (.agg us.toArray) := .mk fun a w he hr => by
  obtain ⟨b, kk, cs, T, fr, c, hv, hb, hp, hc⟩ := s.at' hi
  have hx' := ev_rel he hx
  rw [hp] at hx'
  simp only [execOp, hx']
  rw [getD_of hi] at hu
  refine run_val (run_loadVarA hl ?_)
  have hh : w.heap[b]? = some (.cells cs T fr) := by
    rcases m.pf with h1 | h1
    · exact hr.1 h h1 b _ hb
    · exact hr.2 h h1 b _ hb
  intro j hj
  have hle : k + n ≤ sz := by
    rw [← s.pf.1 xs[i], ← hl, ← hu]
    simp only [List.length_take, List.length_drop]
    by_cases h1 : k ≤ (enc xs[i]).length
    · omega
    · exfalso
      have h2 : us.length = 0 := by rw [← hu]; simp; omega
      omega
  simp only [World.cell?, hh]
  rw [if_neg (by simp)]
  have := hc (k + j) (by omega)
  rw [← hu]
  simp only [List.getElem?_take, List.getElem?_drop, hj, if_true]
  rw [← this]
  congr 1
  omega
end
end Go.X

/- Slices that are written, made, cut, appended to. No condition. -/
set_option linter.unusedSimpArgs false
set_option linter.unusedVariables false
namespace Go.X

class TyBytes (P : Program) (t : TypeId) (n : outParam Nat) : Prop where
  pf : ∃ i, (∀ w, (typeInfo t).run P w = .ok i w) ∧ i.bytes = n
theorem growBy_le (need : Nat) : ∀ (n c : Nat), c ≤ need → Builtin.growBy need n c ≤ 2 ^ n * (need + 192)
  | 0, c, h => by simp [Builtin.growBy]; omega
  | n + 1, c, h => by
    unfold Builtin.growBy
    have h2 : (1 : Nat) ≤ 2 ^ n := Nat.one_le_two_pow
    have h3 : need + 192 ≤ 2 ^ n * (need + 192) := Nat.le_mul_of_pos_left _ (by omega)
    have h4 : 2 ^ (n + 1) * (need + 192) = 2 * (2 ^ n * (need + 192)) := by rw [Nat.pow_succ]; ac_rfl
    split
    · omega
    · by_cases hc : c + (c + 768) / 4 ≤ need
      · have := growBy_le need n _ hc; omega
      · have : ∀ m c', need < c' → Builtin.growBy need m c' = c' := by
          intro m c' hcc
          cases m with
          | zero => rfl
          | succ m => unfold Builtin.growBy; rw [if_pos (by omega)]
        rw [this n _ (by omega)]
        omega
theorem nextcap_le {need cap : Nat} (h : cap < need) : Builtin.nextslicecap need cap ≤ 16 * (need + 192) := by
  unfold Builtin.nextslicecap
  split
  · omega
  · split
    · omega
    · have := growBy_le need 4 cap (by omega)
      simpa using this
theorem run_loadCells {P : Program} {w : World} {b k n : Nat} {vs : List Value} (hl : vs.length = n) (h : ∀ j, j < n → w.cell? ⟨b, k + j, none⟩ = vs[j]?) :
    (loadCells ⟨b, k, none⟩ n).run P w = .ok vs.toArray w := by
  have := run_loadCellsFrom (P := P) (w := w) (b := b) (k := k) n 0 #[] vs hl (fun j hj => by rw [Nat.zero_add]; exact h j hj)
  unfold loadCells
  rw [this]
  simp
section
variable {P : Program} {ops : Array Oper} {e : Env} {o r : List PHeap} {d : Option Tmp} {ty : TypeId} {pos : String} {aft : Array Edge}
variable {α : Type} {enc : α → List Value} {sz : Nat} {h : PHeap} {xs : List α} {v : Value}
theorem mod_div {sz j : Nat} (hs : 0 < sz) : j / sz * sz + j % sz = j := by rw [Nat.mul_comm]; exact Nat.div_add_mod j sz
theorem Arr.cells {w : World} (s : Arr v enc sz h xs) (hw : sub h w) (n : Nat) (hn : n ≤ xs.length) :
    (Builtin.firstCells sz n v).run P w = .ok ((xs.take n).flatMap enc).toArray w := by
  obtain ⟨he, hm, a, c, rfl, hle, hnn, hc⟩ := s.pf
  by_cases hz : n = 0
  · subst hz
    simp only [List.take_zero, List.flatMap_nil]
    cases a with
    | none => rfl
    | some a => simp [Builtin.firstCells, loadCells, loadCellsFrom, pure, Sem.run]
  · obtain ⟨b, k, cs, T, fr, rfl, hb, hcs⟩ := hc (by omega)
    have hh := hw b _ hb
    simp only [Builtin.firstCells]
    refine run_loadCells (by rw [flat_len he, List.length_take, Nat.min_eq_left hn]) ?_
    intro j hj
    have hs : 0 < sz := by
      rcases Nat.eq_zero_or_pos sz with h0 | h0
      · subst h0; simp at hj
      · exact h0
    have h1 : j / sz < n := Nat.div_lt_of_lt_mul (by rw [Nat.mul_comm]; exact hj)
    have h2 : j % sz < sz := Nat.mod_lt _ hs
    have h3 := hcs (j / sz) (j % sz) (by omega) h2
    have h4 := flat_get he (xs.take n) (j / sz) (j % sz) h2
    rw [mod_div hs] at h4
    simp only [World.cell?, hh]
    rw [if_neg (by simp), h4, List.getElem?_take, if_pos h1, ← h3]
    congr 1
    have := mod_div (sz := sz) (j := j) hs
    omega
theorem flat_ones {xs : List α} (ho : ∀ x ∈ xs, ∀ c ∈ enc x, one c = true) : ∀ v ∈ xs.flatMap enc, one v = true := by
  intro v hv
  obtain ⟨x, hx, hv⟩ := List.mem_flatMap.1 hv
  exact ho x hx v hv
theorem run_append {t0 t1 el el1 : TypeId} [u : Und P t0 (.slice el)] [u1 : Und P t1 (.slice el1)] [z : TySize P el sz] {by' : Nat} [tb : TyBytes P el by'] {n m : Nat} {bs b2 : Option Addr} {cap c2 : Nat} {w : World}
    (hby : by' ≤ 128) (hn : n + m ≤ 68719476736) : (Builtin.append_ #[t0, t1] ty #[.slice bs n cap, .slice b2 m c2]).run P w =
      (if n + m ≤ cap then (do
          let new ← Builtin.firstCells sz m (.slice b2 m c2)
          if let some a := bs then storeCells (a.add (n * sz)) new.toList
          pure (.slice bs (n + m) cap) : Sem Value)
        else (do
          let newCap ← choose (.appendCap (n + m) cap el)
          askRoom (newCap * by')
          let old ← Builtin.firstCells sz n (.slice bs n cap)
          let new ← Builtin.firstCells sz m (.slice b2 m c2)
          let rest := Builtin.zeroCells (← zeroValue el).cells (newCap - (n + m))
          pure (.slice (some (← newRow el (old ++ new ++ rest))) (n + m) newCap) : Sem Value)).run P w := by
  obtain ⟨ti, ht1, ht2⟩ := tb.pf
  unfold Builtin.append_
  simp only [List.getElem?_toArray, List.getElem?_cons_zero, List.getElem?_cons_succ]
  rw [bind_ok (u.pf w)]
  simp only
  rw [bind_ok (z.pf w), bind_ok (u1.pf w)]
  simp only [pure_bind, Bool.false_eq_true, if_false, Bool.not_false, if_true]
  have hl : (Builtin.lenOf (.slice b2 m c2)).run P w = .ok m w := rfl
  rw [bind_ok hl]
  split
  · rfl
  · rename_i hgt
    rw [bind_ok (ht1 w)]
    rw [if_neg (by intro hc; have := hc.1; simp [IntKind.max, IntKind.signed, IntKind.bits] at this; omega)]
    rw [bind_ok (ht1 w)]
    have hcap : Builtin.nextslicecap (n + m) cap * ti.bytes ≤ 2 ^ 48 := by
      have := nextcap_le (need := n + m) (cap := cap) (by omega)
      rw [ht2]
      calc _ ≤ (16 * (n + m + 192)) * 128 := Nat.mul_le_mul this hby
        _ ≤ 2 ^ 48 := by omega
    rw [if_neg (by omega)]
    simp only [run_bind]
    cases hch : (choose (.appendCap (n + m) cap el)).run P w with
    | halt hh w1 => rfl
    | ok nc w1 =>
      simp only [ht1, ht2]
theorem run_room {n : Nat} {w : World} : (askRoom n).run P w = .ok () w := by
  unfold askRoom; split <;> rfl
theorem Stp0.append {t0 t1 el el1 : TypeId} [u : Und P t0 (.slice el)] [u1 : Und P t1 (.slice el1)] [z : TySize P el sz] {zs : List Value} [zz : Zero P el zs] {by' : Nat} [tb : TyBytes P el by']
    {x y : Operand} {v2 : Value} {h2 : PHeap} {ys : List α} {o1 : List PHeap} (hx : ev e x = some v) (hy : ev e y = some v2) [s : OArr v enc sz el h xs] [t : Take h o o1] [s2 : Arr v2 enc sz h2 ys] [m : InM h2 o1 r]
    (hzs : zs.length = sz) (hby : Nat.ble by' 128 = true) (hn : xs.length + ys.length ≤ 68719476736) :
    Stp0 P ops ⟨d, .call ⟨.builtin .append, #[x, y], #[t0, t1]⟩, ty, pos, aft, none⟩ e o r (fun v' o2 => ∃ h', OArr v' enc sz el h' (xs ++ ys) ∧ o2 = h' :: o1) := fun a w he hs => by
  have hs1 := hs.perm t.pf
  have hb := Nat.le_of_ble_eq_true hby
  have hx' := ev_rel he hx
  have hy' := ev_rel he hy
  obtain ⟨henc, hm1, hv⟩ := s.pf
  obtain ⟨_, hm2, b2, c2, hv2, hle2, _, _⟩ := s2.pf
  have hsub2 : sub h2 w := by
    rcases m.pf with h1 | h1
    · exact hs1.so h2 (List.mem_cons_of_mem _ h1)
    · exact hs1.sr h2 h1
  obtain ⟨zv, hz1, hz2⟩ := zz.pf
  have happ : ∀ w', sub h2 w' → (Builtin.firstCells sz ys.length v2).run P w' = .ok (ys.flatMap enc).toArray w' := fun w' hw' => by
    have := Arr.cells (P := P) s2 hw' ys.length (Nat.le_refl _)
    rwa [List.take_length] at this
  have hones : ∀ x ∈ xs ++ ys, ∀ c ∈ enc x, one c = true := fun x hx => by
    rcases List.mem_append.1 hx with h1 | h1
    · exact hm1.2 x h1
    · exact hm2.2 x h1
  have hlen : (xs ++ ys).length ≤ 140737488355328 := by rw [List.length_append]; omega
  -- what is left: a value, a world, the new heap
  suffices hmain : ∃ v' w' h', (Builtin.append_ #[t0, t1] ty #[v, v2]).run P w = .ok v' w' ∧ OArr v' enc sz el h' (xs ++ ys) ∧ Sep (h' :: o1) r w' by
    obtain ⟨v', w', h', hrun, hO, hS⟩ := hmain
    unfold Does
    simp only [Region.wanted, if_true, execOp, resolve, List.map_toArray, List.map_cons, List.map_nil, hx', hy']
    rw [bind_ok (a := _) (w1 := w) rfl]
    simp only [invoke, builtin]
    rw [run_val hrun]
    exact ⟨h' :: o1, ⟨h', hO, rfl⟩, hS⟩
  -- the new array
  have grow : ∀ (bs : Option Addr) (cap : Nat), v = .slice bs xs.length cap → ¬ xs.length + ys.length ≤ cap → (∀ w', sub h w' → (Builtin.firstCells sz xs.length v).run P w' = .ok (xs.flatMap enc).toArray w') →
      ∃ v' w' h', (Builtin.append_ #[t0, t1] ty #[v, v2]).run P w = .ok v' w' ∧ OArr v' enc sz el h' (xs ++ ys) ∧ Sep (h' :: o1) r w' := by
    intro bs cap hvv hgt hold
    rw [hvv, hv2, run_append (tb := tb) hb hn, if_neg hgt]
    let w1 : World := { w with drawn := w.drawn + 1 }
    obtain ⟨nc, hnc, hch⟩ : ∃ nc, xs.length + ys.length ≤ nc ∧ (choose (.appendCap (xs.length + ys.length) cap el)).run P w = .ok nc w1 :=
      ⟨_, Nat.le_add_right _ _, rfl⟩
    rw [bind_ok hch, bind_ok run_room]
    rw [← hvv, bind_ok (hold w1 (hs1.so h List.mem_cons_self)), ← hv2, bind_ok (happ w1 hsub2), bind_ok (hz1 w1)]
    simp only [hz2]
    refine ⟨_, _, sing w.heap.size (.cells ((xs.flatMap enc).toArray ++ (ys.flatMap enc).toArray ++ Builtin.zeroCells zs.toArray (nc - (xs.length + ys.length))) el (0, 0)), rfl, ?_, ?_⟩
    · refine ⟨henc, ⟨hlen, hones⟩, .inr ⟨w.heap.size, nc, xs.flatMap enc ++ ys.flatMap enc ++ (Builtin.zeroCells zs.toArray (nc - (xs.length + ys.length))).toList, ?_, ?_, ?_, ?_, ?_⟩⟩
      · rw [List.length_append]
      · unfold blk
        congr 2
        simp
      · rw [List.length_append]; exact hnc
      · simp only [List.length_append, flat_len henc]
        have : (Builtin.zeroCells zs.toArray (nc - (xs.length + ys.length))).toList.length = (nc - (xs.length + ys.length)) * sz := by
          simp [Builtin.zeroCells, hzs]
        rw [this, ← Nat.add_mul, ← Nat.add_mul]
        congr 1
        omega
      · rw [List.flatMap_append]
        have h3 : (xs ++ ys).length * sz = (xs.flatMap enc ++ ys.flatMap enc).length := by
          simp only [List.length_append, flat_len henc, Nat.add_mul]
        rw [h3, List.take_left]
    · have hS := Sep.push (w := w1) (⟨hs1.pw, hs1.dr, hs1.so, hs1.sr, hs1.no, hs1.sm⟩ : Sep (h :: o1) r w1) (.cells ((xs.flatMap enc).toArray ++ (ys.flatMap enc).toArray ++ Builtin.zeroCells zs.toArray (nc - (xs.length + ys.length))) el (0, 0))
      have hp : (sing w1.heap.size (.cells ((xs.flatMap enc).toArray ++ (ys.flatMap enc).toArray ++ Builtin.zeroCells zs.toArray (nc - (xs.length + ys.length))) el (0, 0)) :: h :: o1).Perm
          (h :: sing w1.heap.size (.cells ((xs.flatMap enc).toArray ++ (ys.flatMap enc).toArray ++ Builtin.zeroCells zs.toArray (nc - (xs.length + ys.length))) el (0, 0)) :: o1) := List.Perm.swap _ _ _
      exact (hS.perm hp).tail
  have hcells : ∀ w', sub h w' → (Builtin.firstCells sz xs.length v).run P w' = .ok (xs.flatMap enc).toArray w' := fun w' hw' => by
    have := Arr.cells (P := P) (OArr.arr (s := s)) hw' xs.length (Nat.le_refl _)
    rwa [List.take_length] at this
  rcases hv with ⟨hv, hxs, hh⟩ | ⟨b, c, cs, hv, hh, hle, hcl, htk⟩
  · by_cases hfit : xs.length + ys.length ≤ 0
    · have hy0 : ys = [] := List.length_eq_zero_iff.1 (by omega)
      refine ⟨v, w, h, ?_, ?_, hs1⟩
      · rw [hv, hv2]
        have := run_append (P := P) (ty := ty) (u := u) (u1 := u1) (z := z) (tb := tb) (n := 0) (m := ys.length) (bs := none) (b2 := b2) (cap := 0) (c2 := c2) (w := w) hb (by omega)
        rw [this, if_pos (by omega), ← hv2, bind_ok (happ w hsub2)]
        simp only [hy0, List.length_nil]
        rfl
      · subst hy0; rw [List.append_nil]; exact s
    · exact grow none 0 (by rw [hv, hxs]; rfl) hfit hcells
  · by_cases hfit : xs.length + ys.length ≤ c
    · -- there is room
      have hroom : xs.length * sz + (ys.flatMap enc).length ≤ cs.length := by
        rw [flat_len henc, hcl, ← Nat.add_mul]
        exact Nat.mul_le_mul_right _ hfit
      have hheap : w.heap[b]? = some (.cells cs.toArray el (0, 0)) := by
        refine hs1.so h List.mem_cons_self b _ ?_
        rw [hh]; exact sing_self _ _
      obtain ⟨w', h1, h2', h3, h4⟩ := run_storeCells (P := P) (b := b) (k := xs.length * sz) (T := el) (ys.flatMap enc) 0 w cs (flat_ones hm2.2) hheap (by simpa using hroom)
      simp only [Nat.add_zero] at h2'
      refine ⟨.slice (some ⟨b, 0, none⟩) (xs.length + ys.length) c, w', blk b (cs.take (xs.length * sz) ++ ys.flatMap enc ++ cs.drop (xs.length * sz + (ys.flatMap enc).length)) el, ?_, ?_, ?_⟩
      · rw [hv, hv2]
        rw [run_append (tb := tb) hb hn, if_pos hfit, ← hv2, bind_ok (happ w hsub2)]
        simp only [add_none, Nat.zero_add]
        rw [bind_ok h1]
        rfl
      · refine ⟨henc, ⟨hlen, hones⟩, .inr ⟨b, c, _, by rw [List.length_append], rfl, by rw [List.length_append]; exact hfit, ?_, ?_⟩⟩
        · simp only [List.length_append, List.length_take, List.length_drop]
          omega
        · rw [htk, List.flatMap_append]
          have h4 : (xs ++ ys).length * sz = (xs.flatMap enc ++ ys.flatMap enc).length := by
            simp only [List.length_append, flat_len henc, Nat.add_mul]
          rw [h4, List.take_left]
      · subst hh
        refine Sep.swap hs1 (fun x hx => none_blk (blk_none hx)) ?_ (fun x hx => h3 x (blk_none hx)) rfl h4
        intro x ob hb'
        obtain ⟨rfl, rfl⟩ := sing_some hb'
        exact h2'
    · exact grow (some ⟨b, 0, none⟩) c hv hfit hcells
theorem Take.more {h : PHeap} {o o1 : List PHeap} (t : Take h o o1) (D : PHeap) : Take h (D :: o) (D :: o1) := Take.tail h D o o1
theorem InM.more {h : PHeap} {o r : List PHeap} (t : InM h o r) (D : PHeap) : InM h (D :: o) r := ⟨orMap t.pf (List.mem_cons_of_mem _) (fun h => h)⟩
theorem Stp.append {t0 t1 el el1 : TypeId} [u : Und P t0 (.slice el)] [u1 : Und P t1 (.slice el1)] [z : TySize P el sz] {zs : List Value} [zz : Zero P el zs] {by' : Nat} [tb : TyBytes P el by']
    {x y : Operand} {v2 : Value} {h2 : PHeap} {ys : List α} {o1 : List PHeap} (hx : ev e x = some v) (hy : ev e y = some v2) [s : OArr v enc sz el h xs] [t : Take h o o1] [s2 : Arr v2 enc sz h2 ys] [m : InM h2 o1 r]
    (hzs : zs.length = sz) (hby : Nat.ble by' 128 = true) (hn : xs.length + ys.length ≤ 68719476736) :
    Stp P ops ⟨d, .call ⟨.builtin .append, #[x, y], #[t0, t1]⟩, ty, pos, aft, none⟩ e o r (fun v' o2 => ∃ h', OArr v' enc sz el h' (xs ++ ys) ∧ o2 = h' :: o1) := fun D a w he hs =>
  (Stp0.append (t := t.more D) (m := m.more D) hx hy hzs hby hn a w he hs).mono fun v w' ⟨o2, ⟨h', h1, h2⟩, hs'⟩ => ⟨o2, ⟨h' :: o1, ⟨h', h1, rfl⟩, by rw [h2]; exact List.Perm.swap _ _ _⟩, hs'⟩
end
end Go.X
