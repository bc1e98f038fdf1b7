/- A part of the proof: a small program logic, plain laws and contracts of functions, each proved by a walk through its operations. No condition but those that stand in each theorem. -/
import Derived.Test.YtohdobhnbhcjhaaA2
import Derived.KernelRfl
import Derived.MapKept
import Derived.Test.YtohdobhnbhcjhaaProg
import Derived.WideKeyRuns
/- Broken balances. No condition. -/
set_option linter.unusedVariables false
namespace Go.X
def lostAt (c : MCase) (i : Nat) (n : Nat) : Int := c.vals.getD i 0 - sumV c c.vals i n
def isBroken (c : MCase) (i : Nat) : Prop := (0 : Int) < (sonsN c i).length ∧ (lostAt c i (sonsN c i).length < (c.nodes.getD i default).low ∨ (c.nodes.getD i default).high < lostAt c i (sonsN c i).length)
instance (c : MCase) (i : Nat) : Decidable (isBroken c i) := by unfold isBroken; infer_instance
def brokenTo (c : MCase) : Nat → List Nat
  | 0 => []
  | i + 1 => if isBroken c i then brokenTo c i ++ [i] else brokenTo c i
def brokenG (c : MCase) : List Int × Int := if mcheck c ≠ 0 then ([], mcheck c) else (ints (brokenTo c c.nodes.length), 0)
theorem brokenTo_len (c : MCase) : ∀ n, (brokenTo c n).length ≤ n
  | 0 => by simp [brokenTo]
  | n + 1 => by
    have := brokenTo_len c n
    rw [brokenTo]
    split
    · rw [List.length_append]; simp; omega
    · omega
theorem brokenTo_nil {c : MCase} : ∀ {n}, (∀ i, i < n → ¬ isBroken c i) → brokenTo c n = []
  | 0, _ => rfl
  | n + 1, h => by rw [brokenTo, if_neg (h n (by omega)), brokenTo_nil fun i hi => h i (by omega)]
theorem brokenTo_no {c : MCase} : ∀ {n}, brokenTo c n = [] → ∀ i, i < n → ¬ isBroken c i
  | n + 1, h, i, hi => by
    rw [brokenTo] at h
    split at h
    · simp at h
    · rename_i hb
      by_cases hin : i = n
      · rw [hin]; exact hb
      · exact brokenTo_no h i (by omega)
theorem sons_same {c d : MCase} (h : d.nodes = c.nodes) (i : Nat) : sonsN d i = sonsN c i := by
  have e : ∀ n, sonsTo d i n = sonsTo c i n := fun n => by
    induction n with
    | zero => rfl
    | succ n ih => rw [sonsTo, sonsTo, ih, h]
  unfold sonsN
  rw [h, e]
theorem sol_broken {c : MCase} {set v : List Int} (s : Sol c set v) : brokenTo ⟨c.nodes, v⟩ c.nodes.length = [] := brokenTo_nil fun i hi hb => by
  have es : sonsN ⟨c.nodes, v⟩ i = sonsN c i := sons_same (c := c) (d := ⟨c.nodes, v⟩) rfl i
  unfold isBroken lostAt sumV at hb
  dsimp only at hb
  rw [es] at hb
  have := s.bal i hi (by omega)
  unfold sumV at this
  omega
theorem broken_sol {c : MCase} (ok : MOk c) (h : brokenTo c c.nodes.length = []) : Sol c [] c.vals :=
  ⟨ok.vl, fun i hi => (ok.node i hi).2.1, fun _ _ _ => rfl, fun i hi hp => by
    have hb := brokenTo_no h i hi
    unfold isBroken lostAt at hb
    omega⟩
/-- The same tree with other values. -/
theorem MOk.with {c : MCase} (ok : MOk c) {v : List Int} (hl : v.length = c.nodes.length) (hv : ∀ i, i < c.nodes.length → 0 ≤ v.getD i 0 ∧ v.getD i 0 ≤ 1000000000) : MOk ⟨c.nodes, v⟩ :=
  ⟨ok.n1, ok.n2, hl, fun i hi => by
    obtain ⟨a, _, b, d, e⟩ := ok.node i hi
    exact ⟨a, hv i hi, b, d, e⟩⟩
theorem Sol.with {c : MCase} {set v : List Int} {w : List Int} (s : Sol c set v) {set2 : List Int} (h : ∀ i, i < c.nodes.length → ¬ (i : Int) ∈ set2 → v.getD i 0 = w.getD i 0) : Sol ⟨c.nodes, w⟩ set2 v :=
  ⟨s.len, s.rng, h, fun i hi hp => by
    have es : sonsN ⟨c.nodes, w⟩ i = sonsN c i := sons_same (c := c) (d := ⟨c.nodes, w⟩) rfl i
    unfold sumV
    rw [es] at hp ⊢
    exact s.bal i hi hp⟩
theorem set_getDd {l : List Int} {k i : Nat} {x : Int} (hk : k < l.length) : (l.set k x).getD i default = if k = i then x else l.getD i default := set_getD0 hk
end Go.X

/- The statement MeterRepairs, in plain lists. No condition. -/
set_option linter.unusedVariables false
namespace Go.X
theorem mem_ints {i : Nat} {l : List Nat} : (i : Int) ∈ ints l ↔ i ∈ l := by
  unfold ints
  rw [List.mem_map]
  constructor
  · rintro ⟨k, hk, e⟩
    rw [show i = k by omega]; exact hk
  · exact fun h => ⟨i, h, rfl⟩
theorem inc_ge : ∀ {l : List Nat} {b : Nat}, Inc b l → ∀ x ∈ l, b ≤ x
  | y :: l, b, h, x, hx => by
    rcases List.mem_cons.1 hx with rfl | hx
    · exact h.1
    · have := inc_ge h.2 x hx; have := h.1; omega
theorem inc_at : ∀ {l : List Nat} {b i : Nat}, Inc b l → i + 1 < l.length → l.getD i 0 < l.getD (i + 1) 0
  | [x], b, i, _, hi => by simp at hi
  | x :: y :: l, b, 0, h, _ => by
    show x < y
    have := h.2.1; omega
  | x :: y :: l, b, i + 1, h, hi => by
    show (y :: l).getD i 0 < (y :: l).getD (i + 1) 0
    exact inc_at h.2 (by simpa using hi)
theorem inc_snoc : ∀ {l : List Nat} {b x : Nat}, Inc b l → (∀ y ∈ l, y < x) → b ≤ x → Inc b (l ++ [x])
  | [], b, x, _, _, hb => ⟨hb, trivial⟩
  | y :: l, b, x, h, hy, hb => ⟨h.1, inc_snoc h.2 (fun z hz => hy z (List.mem_cons_of_mem _ hz)) (by have := hy y List.mem_cons_self; omega)⟩
theorem listed_inc {c : MCase} (ok : MOk c) {l : List Nat} (hi : Inc 0 l) (hlt : ∀ x ∈ l, x < c.nodes.length) : listedG c (ints l) = 0 := by
  unfold listedG
  rw [if_neg (by rw [mok_check ok]; decide), if_pos]
  refine allTo_true fun i hil => ?_
  rw [ints_len] at hil
  rw [Bool.not_eq_true', decide_eq_false_iff_not]
  unfold badAt
  have h1 : (ints l).getD i 0 = ((l.getD i 0 : Nat) : Int) := ints_at hil
  have h2 := hlt _ (getD_mem0 hil)
  rw [h1, inA_one]
  rintro (h | ⟨h, h3⟩)
  · omega
  · rw [show ((i : Int) - 1).toNat = i - 1 by omega, show (ints l).getD (i - 1) 0 = ((l.getD (i - 1) 0 : Nat) : Int) from ints_at (by omega)] at h3
    have := inc_at (i := i - 1) hi (by omega)
    rw [show i - 1 + 1 = i by omega] at this
    omega
theorem explains_inc {c : MCase} (ok : MOk c) {l : List Nat} (hi : Inc 0 l) (hlt : ∀ x ∈ l, x < c.nodes.length) : explainsG c (ints l) = (okN c (ints l) 0, 0) := by
  unfold explainsG
  rw [if_neg (by rw [listed_inc ok hi hlt]; decide)]
theorem repair_inc {c : MCase} (ok : MOk c) {l : List Nat} (hi : Inc 0 l) (hlt : ∀ x ∈ l, x < c.nodes.length) : repairG c (ints l) = if okN c (ints l) 0 = true then (repairL c (ints l), 0) else ([], 4) := by
  unfold repairG
  rw [if_neg (by rw [listed_inc ok hi hlt]; decide)]
  by_cases h : okN c (ints l) 0 = true
  · rw [if_neg (fun hn => hn h), if_pos h]
  · rw [if_pos h, if_neg h]
theorem leastAt_mem {c : MCase} {s : Nat} {x : List Nat} : x ∈ leastAt c s ↔ x ∈ combos s c.nodes.length 0 ∧ expl c x = true := by
  unfold leastAt
  rw [keepTo_all, List.mem_filter]
theorem leastS_law {c : MCase} : ∀ k s t, s ≤ t → t < s + k → 0 < (leastAt c t).length → ∃ t0, s ≤ t0 ∧ t0 ≤ t ∧ leastS c k s = leastAt c t0 ∧ 0 < (leastAt c t0).length ∧ ∀ t', s ≤ t' → t' < t0 → leastAt c t' = []
  | 0, s, t, h1, h2, _ => by omega
  | k + 1, s, t, h1, h2, h3 => by
    rw [leastS]
    by_cases hs : 0 < (leastAt c s).length
    · rw [if_pos hs]
      exact ⟨s, Nat.le_refl _, h1, rfl, hs, fun t' a b => by omega⟩
    · rw [if_neg hs]
      have hst : s ≠ t := fun h => hs (h ▸ h3)
      obtain ⟨t0, a1, a2, a3, a4, a5⟩ := leastS_law k (s + 1) t (by omega) (by omega) h3
      refine ⟨t0, by omega, a2, a3, a4, fun t' b1 b2 => ?_⟩
      by_cases hts : t' = s
      · rw [hts]; exact List.eq_nil_of_length_eq_zero (by omega)
      · exact a5 t' (by omega) b2
/-- What Least returns, if a set explains the case. -/
theorem least_law {c : MCase} (ok : MOk c) {l : List Nat} (hi : Inc 0 l) (hlt : ∀ x ∈ l, x < c.nodes.length) (hx : expl c l = true) (hlen : l.length ≤ c.nodes.length) :
    ∃ t0, t0 ≤ l.length ∧ leastG c = (leastAt c t0, 0) ∧ 0 < (leastAt c t0).length ∧ ∀ t', t' < t0 → leastAt c t' = [] := by
  have hm : l ∈ leastAt c l.length := leastAt_mem.2 ⟨combos_all _ _ _ hi (fun x h => by have := hlt x h; omega), hx⟩
  obtain ⟨t0, a1, a2, a3, a4, a5⟩ := leastS_law (c := c) (c.nodes.length + 1) 0 l.length (Nat.zero_le _) (by omega) (List.length_pos_of_mem hm)
  refine ⟨t0, a2, ?_, a4, fun t' h => a5 t' (Nat.zero_le _) h⟩
  unfold leastG
  rw [if_neg (by rw [mok_check ok]; decide), a3, if_pos a4]
theorem least_len {c : MCase} {s : Nat} {x : List Nat} (h : x ∈ leastAt c s) : x.length = s := (combos_each _ _ _ _ (leastAt_mem.1 h).1).1
theorem inc_len : ∀ {l : List Nat} {b n : Nat}, Inc b l → (∀ x ∈ l, x < n) → l.length ≤ n - b
  | [], _, _, _, _ => by simp
  | x :: l, b, n, h, hx => by
    have h1 := inc_len (n := n) h.2 (fun y hy => hx y (List.mem_cons_of_mem _ hy))
    have h2 := hx x List.mem_cons_self
    have h3 := h.1
    rw [List.length_cons]; omega
/-- No explaining set is smaller. -/
theorem least_small {c : MCase} {t0 : Nat} (hno : ∀ t', t' < t0 → leastAt c t' = []) {l : List Nat} (hi : Inc 0 l) (hlt : ∀ x ∈ l, x < c.nodes.length) (hx : expl c l = true) : t0 ≤ l.length := by
  rcases Nat.lt_or_ge l.length t0 with h | h
  · have hm : l ∈ leastAt c l.length := leastAt_mem.2 ⟨combos_all _ _ _ hi (fun x h => by have := hlt x h; omega), hx⟩
    rw [hno _ h] at hm; cases hm
  · exact h
theorem ok_mono {c : MCase} (ok : MOk c) {S W : List Nat} (hs : ∀ x ∈ S, x ∈ W) (h : okN c (ints S) 0 = true) : okN c (ints W) 0 = true := by
  refine sol_ok ok ((rep_sol ok (ok_all ok h)).wide fun x hx => ?_)
  unfold ints at hx ⊢
  obtain ⟨k, hk, rfl⟩ := List.mem_map.1 hx
  exact List.mem_map.2 ⟨k, hs k hk, rfl⟩
theorem inc_range : ∀ n b, Inc b ((List.range n).map (b + ·))
  | 0, b => trivial
  | n + 1, b => by
    rw [List.range_succ, List.map_append]
    refine inc_snoc (inc_range n b) (fun y hy => ?_) (Nat.le_add_right b n)
    obtain ⟨k, hk, rfl⟩ := List.mem_map.1 hy
    have := List.mem_range.1 hk
    exact Nat.add_lt_add_left this b
/-- All nodes together explain whatever was right with other values. -/
theorem range_expl {c : MCase} (ok : MOk c) {v : List Int} (hl : v.length = c.nodes.length) (s : Sol ⟨c.nodes, v⟩ [] v) : Inc 0 (List.range c.nodes.length) ∧ expl c (List.range c.nodes.length) = true := by
  have h1 : Inc 0 (List.range c.nodes.length) := by
    have := inc_range c.nodes.length 0
    simpa using this
  refine ⟨h1, ?_⟩
  have s2 : Sol c (ints (List.range c.nodes.length)) v := Sol.with (c := ⟨c.nodes, v⟩) (w := c.vals) s (fun i hi hn => absurd (mem_ints.2 (List.mem_range.2 hi)) hn)
  exact sol_ok ok s2
/-- A repair with less at one node of the set cannot be completed behind it. -/
theorem less_no {c : MCase} (ok : MOk c) {S R : List Nat} (h0 : okN c (ints S) 0 = true) {k : Nat} (hk : k < c.nodes.length) (hkS : k ∈ S) {D : List Int} (okd : MOk ⟨c.nodes, D⟩)
    (hD1 : ∀ j, j < k → D.getD j 0 = (repairL c (ints S)).getD j 0) (hD2 : D.getD k 0 = (repairL c (ints S)).getD k 0 - 1) (hD3 : ∀ j, k < j → j < c.nodes.length → D.getD j 0 = c.vals.getD j 0)
    (hR : ∀ x, x ∈ R ↔ x ∈ S ∧ k < x) : okN ⟨c.nodes, D⟩ (ints R) 0 = false := by
  rw [Bool.eq_false_iff]
  intro h
  have s := rep_sol okd (ok_all okd h)
  have rs := rep_sol ok (ok_all ok h0)
  have hown : ∀ i, i < c.nodes.length → ¬ i ∈ R → (repairL ⟨c.nodes, D⟩ (ints R)).getD i 0 = D.getD i 0 := fun i hi hn => s.own i hi (fun hm => hn (mem_ints.1 hm))
  have s2 : Sol c (ints S) (repairL ⟨c.nodes, D⟩ (ints R)) := Sol.with (c := ⟨c.nodes, D⟩) (w := c.vals) s (fun i hi hn => by
    have hnS : ¬ i ∈ S := fun hm => hn (mem_ints.2 hm)
    rw [hown i hi (fun hm => hnS ((hR i).1 hm).1)]
    rcases Nat.lt_trichotomy i k with h1 | h1 | h1
    · rw [hD1 i h1]
      exact rs.own i hi (fun hm => hn hm)
    · rw [h1] at hnS; exact absurd hkS hnS
    · exact hD3 i h1 hi)
  have hl := rep_least ok s2 hk (fun j hj => by rw [hown j (by omega) (fun hm => by have := ((hR j).1 hm).2; omega), hD1 j hj])
  rw [hown k hk (fun hm => by have := ((hR k).1 hm).2; omega), hD2] at hl
  omega
end Go.X

/- Sorting by insertion; lists in order; the statement MeterNamed, in plain lists. No condition. -/
set_option linter.unusedVariables false
namespace Go.X
/-! ### insertion -/
def Ord (l : List Int) (i : Nat) : Prop := ∀ p q, p < q → q < i → l.getD p 0 ≤ l.getD q 0
/-- Elements 0 .. i are in order but for the one at j, which is less than those behind it. -/
structure Mid (l : List Int) (i j : Nat) : Prop where
  others : ∀ p q, p < q → q ≤ i → p ≠ j → q ≠ j → l.getD p 0 ≤ l.getD q 0
  behind : ∀ q, j < q → q ≤ i → l.getD j 0 ≤ l.getD q 0
theorem Mid.start {l : List Int} {i : Nat} (o : Ord l i) : Mid l i i := ⟨fun p q h1 h2 h3 h4 => o p q h1 (by omega), fun q h1 h2 => by omega⟩
theorem Mid.done {l : List Int} {i j : Nat} (m : Mid l i j) (h : j = 0 ∨ l.getD (j - 1) 0 ≤ l.getD j 0) (hj : j ≤ i) : Ord l (i + 1) := fun p q h1 h2 => by
  by_cases hp : p = j
  · subst hp; exact m.behind q h1 (by omega)
  · by_cases hq : q = j
    · subst hq
      rcases h with h | h
      · omega
      · by_cases hp2 : p = q - 1
        · rw [hp2]; exact h
        · have := m.others p (q - 1) (by omega) (by omega) hp (by omega)
          omega
    · exact m.others p q h1 (by omega) hp hq
def swap2 (l : List Int) (j : Nat) : List Int := (l.set (j + 1) (l.getD j 0)).set j (l.getD (j + 1) 0)
theorem swap2_at {l : List Int} {j k : Nat} (hj : j + 1 < l.length) : (swap2 l j).getD k 0 = if k = j then l.getD (j + 1) 0 else if k = j + 1 then l.getD j 0 else l.getD k 0 := by
  unfold swap2
  rw [set_getD0 (by rw [List.length_set]; omega), set_getD0 hj]
  by_cases h1 : k = j
  · rw [if_pos (show j = k from h1.symm), if_pos h1]
  · rw [if_neg (show ¬ j = k from fun h => h1 h.symm), if_neg h1]
    by_cases h2 : k = j + 1
    · rw [if_pos (show j + 1 = k from h2.symm), if_pos h2]
    · rw [if_neg (show ¬ j + 1 = k from fun h => h2 h.symm), if_neg h2]
theorem swap2_len {l : List Int} {j : Nat} : (swap2 l j).length = l.length := by simp [swap2]
theorem Mid.swap {l : List Int} {i j : Nat} (m : Mid l i (j + 1)) (hi : i < l.length) (hj : j + 1 ≤ i) (h : l.getD (j + 1) 0 < l.getD j 0) : Mid (swap2 l j) i j := by
  have hg := fun k => swap2_at (l := l) (j := j) (k := k) (by omega)
  refine ⟨fun p q h1 h2 h3 h4 => ?_, fun q h1 h2 => ?_⟩
  · rw [hg, hg, if_neg h3, if_neg h4]
    by_cases hp : p = j + 1
    · rw [if_pos hp, if_neg (by omega)]
      exact m.others j q (by omega) h2 (by omega) (by omega)
    · rw [if_neg hp]
      by_cases hq : q = j + 1
      · rw [if_pos hq]; exact m.others p j (by omega) (by omega) hp (by omega)
      · rw [if_neg hq]; exact m.others p q h1 h2 hp hq
  · rw [hg, hg, if_pos rfl, if_neg (by omega)]
    by_cases hq : q = j + 1
    · rw [if_pos hq]; omega
    · rw [if_neg hq]; exact m.behind q (by omega) h2
theorem swap2_count {l : List Int} {j : Nat} (hj : j + 1 < l.length) (a : Int) : (swap2 l j).count a = l.count a := by
  have hp : (swap2 l j).Perm l := by
    unfold swap2
    rw [List.getD_eq_getElem?_getD, List.getElem?_eq_getElem (show j < l.length by omega), List.getD_eq_getElem?_getD, List.getElem?_eq_getElem hj, Option.getD_some, Option.getD_some]
    exact List.set_set_perm (by omega) (by omega)
  exact hp.count_eq a
/-! ### lists in lexicographic order -/
def cmpL : List Int → List Int → Int
  | [], [] => 0
  | [], _ :: _ => -1
  | _ :: _, [] => 1
  | a :: l, b :: m => if a < b then -1 else if b < a then 1 else cmpL l m
def lexLt (x y : List Nat) : Prop := cmpL (ints x) (ints y) = -1
theorem combos_lex : ∀ (s a b : Nat), (combos s a b).Pairwise lexLt
  | 0, a, b => by
    have : combos 0 a b = [[]] := by cases a <;> rfl
    rw [this]; exact List.pairwise_singleton _ _
  | s + 1, 0, b => List.Pairwise.nil
  | s + 1, a + 1, b => by
    rw [combos, List.pairwise_append]
    refine ⟨?_, combos_lex (s + 1) a (b + 1), fun x hx y hy => ?_⟩
    · rw [List.pairwise_map]
      refine pairMap (combos_lex s a (b + 1)) fun {x y} h => ?_
      show (if ((b : Nat) : Int) < b then (-1 : Int) else if ((b : Nat) : Int) < b then 1 else cmpL (ints x) (ints y)) = -1
      rw [if_neg (by omega), if_neg (by omega)]; exact h
    · obtain ⟨x', hx', rfl⟩ := List.mem_map.1 hx
      obtain ⟨h1, h2⟩ := combos_each (s + 1) a (b + 1) y hy
      match y, h1, h2 with
      | c :: y', _, h2 =>
        have := (h2 c List.mem_cons_self).1
        show (if ((b : Nat) : Int) < c then (-1 : Int) else if ((c : Nat) : Int) < b then 1 else cmpL (ints x') (ints y')) = -1
        rw [if_pos (by omega)]
theorem leastAt_lex (c : MCase) (s : Nat) : (leastAt c s).Pairwise lexLt := by
  unfold leastAt
  rw [keepTo_all]
  exact (combos_lex s c.nodes.length 0).filter _
theorem leastAt_at {c : MCase} {s i j : Nat} (h : i < j) (hj : j < (leastAt c s).length) : cmpL (ints ((leastAt c s).getD i [])) (ints ((leastAt c s).getD j [])) = -1 := by
  have := List.pairwise_iff_getElem.1 (leastAt_lex c s) i j (by omega) hj h
  rw [List.getD_eq_getElem?_getD, List.getD_eq_getElem?_getD, List.getElem?_eq_getElem hj, List.getElem?_eq_getElem (show i < (leastAt c s).length by omega)]
  exact this
/-- Compare, from index k on. -/
theorem cmpL_drop {a b : List Int} : ∀ {k}, k ≤ a.length → a.take k = b.take k → k ≤ b.length → cmpL a b = cmpL (a.drop k) (b.drop k)
  | 0, _, _, _ => by simp
  | k + 1, h1, h2, h3 => by
    match a, b, h1, h2, h3 with
    | x :: a, y :: b, h1, h2, h3 =>
      rw [List.take_succ_cons, List.take_succ_cons, List.cons.injEq] at h2
      obtain ⟨rfl, h2⟩ := h2
      rw [cmpL, if_neg (by omega), if_neg (by omega), List.drop_succ_cons, List.drop_succ_cons]
      exact cmpL_drop (by simpa using h1) h2 (by simpa using h3)
/-! ### sets after sorting -/
theorem ord_inc : ∀ {l : List Nat} {b : Nat}, (∀ p, p + 1 < l.length → l.getD p 0 < l.getD (p + 1) 0) → (∀ x ∈ l, b ≤ x) → Inc b l
  | [], _, _, _ => trivial
  | x :: l, b, h, hb => ⟨hb x List.mem_cons_self, ord_inc (fun p hp => h (p + 1) (by simpa using hp)) (fun y hy => by
      obtain ⟨q, hq, rfl⟩ := mem_getD0 hy
      have key : ∀ q, q < l.length → x + 1 ≤ l.getD q 0 := fun q => by
        induction q with
        | zero => intro hq; have := h 0 (by simpa using hq); exact this
        | succ q ih =>
          intro hq
          have h1 := ih (by omega)
          have h2 : l.getD q 0 < l.getD (q + 1) 0 := h (q + 1) (by simpa using hq)
          omega
      exact key q hq)⟩
theorem ints_count {l : List Nat} {k : Nat} : (ints l).count (k : Int) = l.count k := by
  induction l with
  | nil => rfl
  | cons x l ih =>
    show ((x : Int) :: ints l).count (k : Int) = _
    rw [List.count_cons, List.count_cons, ih]
    congr 1
    by_cases h : x = k
    · subst h; simp
    · rw [if_neg (by simp; omega), if_neg (by simpa using h)]
/-- A sorted list of different numbers. -/
theorem sorted_set {L : List Nat} (hn : ∀ k, L.count k ≤ 1) {ys : List Int} (hc : ∀ a, ys.count a = (ints L).count a) (ho : Ord ys ys.length) : ∃ S : List Nat, ys = ints S ∧ Inc 0 S ∧ (∀ x, x ∈ S ↔ x ∈ L) ∧ S.length = L.length := by
  have hmem : ∀ y ∈ ys, ∃ k : Nat, y = (k : Int) := fun y hy => by
    have h1 : 0 < ys.count y := List.count_pos_iff.2 hy
    rw [hc] at h1
    have := List.count_pos_iff.1 h1
    unfold ints at this
    obtain ⟨k, _, e⟩ := List.mem_map.1 this
    exact ⟨k, e.symm⟩
  have hS : ys = ints (ys.map Int.toNat) := by
    unfold ints
    rw [List.map_map]
    refine (List.map_id ys).symm.trans (List.map_congr_left fun y hy => ?_)
    obtain ⟨k, rfl⟩ := hmem y hy
    rfl
  generalize hgen : ys.map Int.toNat = S at hS
  subst hS
  have hcS : ∀ k, S.count k = L.count k := fun k => by have := hc (k : Int); rwa [ints_count, ints_count] at this
  refine ⟨S, rfl, ord_inc (fun p hp => ?_) (fun x _ => Nat.zero_le _), fun x => ?_, ?_⟩
  · have h1 := ho p (p + 1) (by omega) (by rw [ints_len]; exact hp)
    have e1 : (ints S).getD p 0 = ((S.getD p 0 : Nat) : Int) := ints_at (by omega)
    have e2 : (ints S).getD (p + 1) 0 = ((S.getD (p + 1) 0 : Nat) : Int) := ints_at hp
    rw [e1, e2] at h1
    rcases Nat.lt_or_ge (S.getD p 0) (S.getD (p + 1) 0) with h | h
    · exact h
    · exfalso
      have he : S.getD p 0 = S.getD (p + 1) 0 := by omega
      have hlt : p < S.length := by omega
      have hnd : S.Nodup := by
        rw [List.nodup_iff_count]
        intro a; rw [hcS]; exact hn a
      rw [List.getD_eq_getElem?_getD, List.getD_eq_getElem?_getD, List.getElem?_eq_getElem hlt, List.getElem?_eq_getElem hp, Option.getD_some, Option.getD_some] at he
      exact List.pairwise_iff_getElem.1 hnd p (p + 1) hlt hp (by omega) he
  · rw [← List.count_pos_iff, ← List.count_pos_iff, hcS]
  · have hp : S.Perm L := List.perm_iff_count.2 hcS
    exact hp.length_eq
end Go.X

/- The statement MeterNamed, in plain lists. No condition. -/
set_option linter.unusedVariables false
namespace Go.X
theorem take_getL {l : List Int} {i : Nat} (hi : i < l.length) : l.drop i = l.getD i 0 :: l.drop (i + 1) := by
  rw [List.getD_eq_getElem?_getD, List.getElem?_eq_getElem hi, Option.getD_some, List.drop_eq_getElem_cons hi]
theorem cmpL_at {a b : List Int} {i : Nat} (ha : i < a.length) (hb : i < b.length) (ht : a.take i = b.take i) : cmpL a b = if a.getD i 0 < b.getD i 0 then -1 else if b.getD i 0 < a.getD i 0 then 1 else cmpL (a.drop (i + 1)) (b.drop (i + 1)) := by
  rw [cmpL_drop (k := i) (by omega) ht (by omega), take_getL ha, take_getL hb, cmpL]
theorem take_next {a b : List Int} {i : Nat} (ha : i < a.length) (hb : i < b.length) (ht : a.take i = b.take i) (he : a.getD i 0 = b.getD i 0) : a.take (i + 1) = b.take (i + 1) := by
  rw [List.getD_eq_getElem?_getD, List.getElem?_eq_getElem ha, List.getD_eq_getElem?_getD, List.getElem?_eq_getElem hb, Option.getD_some, Option.getD_some] at he
  rw [← List.take_append_getElem ha, ← List.take_append_getElem hb, ht, he]
theorem leastAt_zero {c : MCase} (h : 0 < (leastAt c 0).length) : leastAt c 0 = [[]] := by
  have e : combos 0 c.nodes.length 0 = [[]] := by cases c.nodes.length <;> rfl
  unfold leastAt at h ⊢
  rw [keepTo_all, e] at h ⊢
  rw [List.filter_cons] at h ⊢
  split at h
  · rename_i hx; rw [if_pos hx]; rfl
  · cases h
theorem expl_nil {c : MCase} (ok : MOk c) (h : brokenTo c c.nodes.length = []) : expl c [] = true := sol_ok ok (broken_sol ok h)
theorem nil_expl {c : MCase} (ok : MOk c) (h : expl c [] = true) : brokenTo c c.nodes.length = [] := by
  have s := rep_sol ok (set := ints []) (ok_all ok h)
  have e : repairL c (ints []) = c.vals := by
    refine List.ext_getElem (by rw [s.len, ok.vl]) fun i h1 h2 => ?_
    have := s.own i (by rw [← s.len]; exact h1) (fun hm => by cases hm)
    rw [List.getD_eq_getElem?_getD, List.getElem?_eq_getElem h1, List.getD_eq_getElem?_getD, List.getElem?_eq_getElem h2] at this
    simpa using this
  have hb := sol_broken s
  rw [e] at hb
  exact hb
/-- What MeterNamed says of the least sets. -/
theorem named_law {c : MCase} (ok : MOk c) {v : List Int} (sv : Sol ⟨c.nodes, v⟩ [] v) {S : List Nat} (hi : Inc 0 S) (hlt : ∀ x ∈ S, x < c.nodes.length) (hown : ∀ i, i < c.nodes.length → ¬ i ∈ S → v.getD i 0 = c.vals.getD i 0) :
    okN c (ints S) 0 = true ∧ ∃ t0, t0 ≤ S.length ∧ leastG c = (leastAt c t0, 0) ∧ 0 < (leastAt c t0).length ∧ (brokenTo c c.nodes.length = [] → t0 = 0 ∧ leastAt c 0 = [[]]) ∧ (brokenTo c c.nodes.length ≠ [] → 1 ≤ t0) ∧ S ∈ leastAt c S.length := by
  have s : Sol c (ints S) v := Sol.with (c := ⟨c.nodes, v⟩) (w := c.vals) sv (fun i h1 h2 => hown i h1 (fun hm => h2 (mem_ints.2 hm)))
  have h0 := sol_ok ok s
  obtain ⟨t0, a1, a2, a3, a4⟩ := least_law ok hi hlt h0 (by have := inc_len hi hlt; omega)
  refine ⟨h0, t0, a1, a2, a3, fun hb => ?_, fun hb => ?_, leastAt_mem.2 ⟨combos_all _ _ _ hi (fun x h => by have := hlt x h; omega), h0⟩⟩
  · have h1 := least_small a4 (l := []) trivial (fun x h => by cases h) (expl_nil ok hb)
    have h2 : t0 = 0 := by simpa using h1
    subst h2
    exact ⟨rfl, leastAt_zero a3⟩
  · rcases Nat.eq_zero_or_pos t0 with hz | hp
    · subst hz
      have := leastAt_zero a3
      have hm : [] ∈ leastAt c 0 := by rw [this]; exact List.mem_cons_self
      exact absurd (nil_expl ok (leastAt_mem.1 hm).2) hb
    · exact hp
end Go.X

/- Combinations increase; values that were changed. No condition. -/
set_option linter.unusedVariables false
namespace Go.X
theorem inc_lower : ∀ {l : List Nat} {b b2 : Nat}, Inc b l → b2 ≤ b → Inc b2 l
  | [], _, _, _, _ => trivial
  | x :: l, b, b2, h, hb => ⟨by have := h.1; omega, h.2⟩
theorem combos_inc : ∀ (s a b : Nat), ∀ x ∈ combos s a b, Inc b x
  | 0, a, b, x, hx => by
    have : x = [] := by cases a <;> simpa [combos] using hx
    subst this
    trivial
  | s + 1, 0, b, x, hx => by simp [combos] at hx
  | s + 1, a + 1, b, x, hx => by
    rw [combos] at hx
    rcases List.mem_append.1 hx with h | h
    · obtain ⟨y, hy, rfl⟩ := List.mem_map.1 h
      exact ⟨Nat.le_refl _, combos_inc s a (b + 1) y hy⟩
    · exact inc_lower (combos_inc (s + 1) a (b + 1) x h) (by omega)
structure Chg (n : Nat) (w V : List Int) (L : List Nat) : Prop where
  own : ∀ i, i < n → ¬ i ∈ L → w.getD i 0 = V.getD i 0
  lt : ∀ x ∈ L, x < n
  one : ∀ k, L.count k ≤ 1
theorem Chg.start (n : Nat) (w : List Int) : Chg n w w [] := ⟨fun i _ _ => rfl, (fun x hx => by cases hx), fun k => Nat.zero_le _⟩
theorem Chg.again {n : Nat} {w V : List Int} {L : List Nat} (h : Chg n w V L) {k : Nat} {x : Int} (hk : k < V.length) (hm : k ∈ L) : Chg n w (V.set k x) L := ⟨fun i hi hn => by
  rw [set_getD0 hk, if_neg (fun e : k = i => hn (e ▸ hm))]; exact h.own i hi hn, h.lt, h.one⟩
theorem Chg.more {n : Nat} {w V : List Int} {L : List Nat} (h : Chg n w V L) {k : Nat} {x : Int} (hk : k < V.length) (hkn : k < n) (hm : ¬ k ∈ L) : Chg n w (V.set k x) (L ++ [k]) := ⟨fun i hi hn => by
  rw [List.mem_append, List.mem_singleton] at hn
  rw [set_getD0 hk, if_neg (fun e : k = i => hn (.inr e.symm))]; exact h.own i hi (fun hl => hn (.inl hl)), fun x hx => by
  rcases List.mem_append.1 hx with h1 | h1
  · exact h.lt x h1
  · rw [List.mem_singleton] at h1; omega, fun j => by
  rw [List.count_append, List.count_singleton]
  have := h.one j
  by_cases hj : k = j
  · subst hj
    rw [List.count_eq_zero.2 hm]; simp
  · simp [hj]; omega⟩
/-- A row of the least sets. -/
theorem row_least {c : MCase} (ok : MOk c) {t i : Nat} (hi : i < (leastAt c t).length) : ((leastAt c t).getD i []).length = t ∧ Inc 0 ((leastAt c t).getD i []) ∧ (∀ x ∈ (leastAt c t).getD i [], x < c.nodes.length) ∧ okN c (ints ((leastAt c t).getD i [])) 0 = true := by
  have hm := getD_memL hi
  obtain ⟨h1, h2⟩ := leastAt_mem.1 hm
  exact ⟨least_len hm, combos_inc _ _ _ _ h1, fun x hx => by have := (combos_each _ _ _ _ h1).2 x hx; omega, h2⟩
theorem leastAt_small {c : MCase} (ok : MOk c) (t : Nat) : (leastAt c t).length ≤ 16384 := by
  unfold leastAt
  rw [keepTo_all]
  exact Nat.le_trans (List.length_filter_le ..) (combos_len _ _ ok.n2)
end Go.X

/- The document's bills are the program's. No condition. -/
set_option linter.unusedVariables false
namespace Go.X
def inF (n a b : Int) : Bool := decide (a ≤ n) && decide (n ≤ b)
theorem inF_iff {n a b : Int} : inF n a b = true ↔ a ≤ n ∧ n ≤ b := by
  unfold inF; rw [Bool.and_eq_true, decide_eq_true_eq, decide_eq_true_eq]
def pminT (t : MTariff) : Nat → Int
  | 0 => -1
  | i + 1 => (t.tiers.getD i default).min
def ppctT (t : MTariff) : Nat → Int
  | 0 => 0
  | i + 1 => (t.tiers.getD i default).pct
theorem pm_ok {t : MTariff} : ∀ {i : Nat}, tiersOk t i = true → -1 ≤ pminT t i ∧ pminT t i ≤ 50000 ∧ 0 ≤ ppctT t i
  | 0, _ => ⟨Int.le_refl _, by rw [pminT]; omega, Int.le_refl _⟩
  | i + 1, h => by
    have h1 := allTo_at h (Nat.lt_succ_self i)
    rw [Bool.not_eq_true', decide_eq_false_iff_not] at h1
    unfold badTier at h1
    simp only [not_or, Classical.not_not] at h1
    have a := inA_one.1 h1.1.1
    have b := inA_one.1 h1.1.2
    rw [pminT, ppctT]; omega
theorem tier_ref {t : MTariff} {i : Nat} (h : tiersOk t i = true) : (¬ inF (t.tiers.getD i default).min (pminT t i + 1) 50000 = true ∨ ¬ inF (t.tiers.getD i default).pct (ppctT t i) 100 = true) ↔ badTier t i := by
  have p := pm_ok h
  unfold badTier
  rw [inF_iff, inF_iff, inA_one, inA_one]
  cases i with
  | zero =>
    rw [pminT, ppctT]
    constructor
    · intro h; left; omega
    · intro h; omega
  | succ i =>
    rw [show (((i + 1 : Nat) : Int) - 1).toNat = i by omega]
    rw [pminT, ppctT] at p ⊢
    omega
theorem right_price {t : MTariff} (h1 : ¬ (t.price.length : Int) ≠ 24) (h2 : ¬ (8 : Int) < t.tiers.length) {i : Nat} (hi : i < t.price.length) (h : ¬ inF (t.price.getD i default) 0 1000 = true) : rightG t = 6 := by
  rw [rightG, if_neg h1, if_neg h2, if_pos]
  refine .inl (.inl fun h3 => h (inF_iff.2 (inA_iff.1 h3 _ ?_)))
  rw [List.getD_eq_getElem?_getD, List.getElem?_eq_getElem hi]; exact List.getElem_mem hi
theorem right_tier {t : MTariff} (h1 : ¬ (t.price.length : Int) ≠ 24) (h2 : ¬ (8 : Int) < t.tiers.length) {i : Nat} (hi : i < t.tiers.length) (h : badTier t i) : rightG t = 6 := by
  rw [rightG, if_neg h1, if_neg h2]
  split
  · rfl
  · rw [if_neg]
    rw [tiersOk, allTo_false (s := i) (by omega) (by rw [Bool.not_eq_false', decide_eq_true_eq]; exact h)]; decide
theorem right_rest {t : MTariff} (h1 : ¬ (t.price.length : Int) ≠ 24) (h2 : ¬ (8 : Int) < t.tiers.length) (h : ¬ inF t.base 0 1000000000 = true ∨ ¬ inF t.credit 0 100 = true) : rightG t = 6 := by
  rw [rightG, if_neg h1, if_neg h2, if_pos]
  rw [inF_iff, inF_iff] at h
  rcases h with h | h
  · exact .inl (.inr fun h3 => h (inA_one.1 h3))
  · exact .inr fun h3 => h (inA_one.1 h3)
theorem right_all {t : MTariff} (h1 : ¬ (t.price.length : Int) ≠ 24) (h2 : ¬ (8 : Int) < t.tiers.length) (hp : ∀ j, j < t.price.length → 0 ≤ t.price.getD j 0 ∧ t.price.getD j 0 ≤ 1000) (ht : tiersOk t t.tiers.length = true)
    (h : ¬ (¬ inF t.base 0 1000000000 = true ∨ ¬ inF t.credit 0 100 = true)) : rightG t = 0 := by
  simp only [not_or, Classical.not_not] at h
  rw [rightG, if_neg h1, if_neg h2, if_neg, if_pos ht]
  rw [inA_one.2 (inF_iff.1 h.1), inA_one.2 (inF_iff.1 h.2), inA_iff.2 fun x hx => ?_]
  · simp
  · obtain ⟨j, hj, rfl⟩ := List.mem_iff_getElem.1 hx
    have := hp j hj
    rwa [List.getD_eq_getElem?_getD, List.getElem?_eq_getElem hj] at this
/-! ### a bill -/
theorem ref_rng {t : MTariff} (k : TOk11 t) {v : List Int} {n : Nat} (hv : ∀ j, j < n → 0 ≤ v.getD j 0 ∧ v.getD j 0 ≤ 100000) : (0 ≤ energyTo v n ∧ energyTo v n ≤ n * 100000) ∧ 0 ≤ costTo t.price v n ∧ costTo t.price v n ≤ n * 100000000 := by
  have c : ∀ j, j < n → 0 ≤ v.getD j 0 * t.price.getD (j % 24) 0 ∧ v.getD j 0 * t.price.getD (j % 24) 0 ≤ 100000000 := fun j hj => by
    have h1 := price_at k j
    have h2 := hv j hj
    exact ⟨Int.mul_nonneg h2.1 h1.1, Int.le_trans (Int.mul_le_mul h2.2 h1.2 h1.1 (by omega)) (by decide)⟩
  exact ⟨⟨sum_nonneg fun j hj => (hv j hj).1, sum_le fun j hj => (hv j hj).2⟩, sum_nonneg fun j hj => (c j hj).1, sum_le fun j hj => (c j hj).2⟩
theorem ref_one {t : MTariff} (k : TOk11 t) {x : Int} (hx : 0 ≤ x ∧ x ≤ 100000) (i : Nat) : 0 ≤ x * t.price.getD (i % 24) 0 ∧ x * t.price.getD (i % 24) 0 ≤ 100000000 := by
  have h1 := price_at k i
  exact ⟨Int.mul_nonneg hx.1 h1.1, Int.le_trans (Int.mul_le_mul hx.2 h1.2 h1.1 (by omega)) (by decide)⟩
theorem ref_vals {v : List Int} (hv : ∀ j, j < v.length → 0 ≤ v.getD j 0 ∧ v.getD j 0 ≤ 100000) : ∀ x ∈ v, 0 ≤ x ∧ x ≤ 100000 := fun x hx => by
  obtain ⟨j, hj, rfl⟩ := List.mem_iff_getElem.1 hx
  have := hv j hj
  rwa [List.getD_eq_getElem?_getD, List.getElem?_eq_getElem hj] at this
theorem make_bad_value {t : MTariff} {u : MUse} (h0 : ¬ rightG t ≠ 0) (h1 : ¬ (1000 : Int) < u.values.length) {i : Nat} (hi : i < u.values.length) (h : ¬ inF (u.values.getD i default) 0 100000 = true) : makeG t u = (default, 6) := by
  rw [makeG, if_neg h0, if_neg h1, if_pos]
  refine .inl fun h3 => h (inF_iff.2 (inA_iff.1 h3 _ ?_))
  rw [List.getD_eq_getElem?_getD, List.getElem?_eq_getElem hi]; exact List.getElem_mem hi
theorem make_bad_out {t : MTariff} {u : MUse} (h0 : ¬ rightG t ≠ 0) (h1 : ¬ (1000 : Int) < u.values.length) (h : ¬ inF u.out 0 50000 = true) : makeG t u = (default, 6) := by
  rw [makeG, if_neg h0, if_neg h1, if_pos]
  exact .inr fun h3 => h (inF_iff.2 (inA_one.1 h3))
def pctR (t : MTariff) (out : Int) : Nat → Int
  | 0 => 0
  | n + 1 => if (t.tiers.getD n default).min ≤ out then min (t.tiers.getD n default).pct t.credit else pctR t out n
theorem pctR_eq {t : MTariff} (k : TOk11 t) (out : Int) : ∀ n, pctR t out n = min (pctTo t out n) t.credit
  | 0 => by have := k.credit; rw [pctR, pctTo]; omega
  | n + 1 => by
    rw [pctR, pctTo]
    split
    · rfl
    · exact pctR_eq k out n
theorem pctR_all {t : MTariff} (k : TOk11 t) (out : Int) : pctR t out t.tiers.length = percentL t out := pctR_eq k out _
theorem credit_up {t : MTariff} {u : MUse} (h0 : 0 ≤ amountL t u * percentL t u.out) (h : 50 ≤ amountL t u * percentL t u.out % 100) : amountL t u * percentL t u.out / 100 + 1 = creditL t u := by unfold creditL; omega
theorem credit_down {t : MTariff} {u : MUse} (h0 : 0 ≤ amountL t u * percentL t u.out) (h : ¬ 50 ≤ amountL t u * percentL t u.out % 100) : amountL t u * percentL t u.out / 100 = creditL t u := by unfold creditL; omega
end Go.X

/- copy into a part of a slice. No condition. -/
set_option linter.unusedSimpArgs false
set_option linter.unusedVariables false
namespace Go.X
section
variable {P : Program} {ops : Array Oper} {e : Env} {o r : List PHeap} {d : Option Tmp} {ty : TypeId} {pos : String} {aft : Array Edge}
variable {α : Type} {enc : α → List Value} {sz : Nat} {h : PHeap} {xs : List α} {v : Value}
theorem Stp0.copyC {t0 t1 el T : TypeId} [u : Und P t0 (.slice el)] [z : TySize P el sz] {x y : Operand} {vd v2 : Value} {h2 : PHeap} {ys : List α} {i j : Nat} {o1 : List PHeap} (hx : ev e x = some vd) (hd : vd = cutv v sz i j) (hy : ev e y = some v2)
    [s : OArr v enc sz T h xs] [tk : Take h o o1] [s2 : Arr v2 enc sz h2 ys] [m : InM h2 o r] (hij : i ≤ j) (hi : j ≤ xs.length) :
    Stp0 P ops ⟨d, .call ⟨.builtin .copy, #[x, y], #[t0, t1]⟩, ty, pos, aft, none⟩ e o r (fun v' o2 => ∃ h', v' = .int .i64 ((min ys.length (j - i) : Nat) : Int) ∧ OArr v enc sz T h' (splice xs (ys.take (j - i)) i) ∧ o2 = h' :: o1) := fun a w he hs => by
  subst hd
  have hs1 := hs.perm tk.pf
  have hsub2 : sub h2 w := m.pf.elim (hs.so _) (hs.sr _)
  have hx' := ev_rel he hx
  have hy' := ev_rel he hy
  obtain ⟨henc2, hm2, a2, c2, hv2, hle2, hnn2, hc2⟩ := s2.pf
  have hexec : ∀ w', (Builtin.copy_ #[t0, t1] ty #[cutv v sz i j, v2]).run P w = .ok (.int .i64 ((min ys.length (j - i) : Nat) : Int)) w' →
      (execOp (evA a) (⟨d, .call ⟨.builtin .copy, #[x, y], #[t0, t1]⟩, ty, pos, aft, none⟩ : Oper)).run P w = .ok (.value (.int .i64 ((min ys.length (j - i) : Nat) : Int))) w' := by
    intro w' hw'
    simp only [execOp, resolve, List.map_toArray, List.map_cons, List.map_nil, hx', hy']
    exact run_val hw'
  obtain ⟨henc, hm, ⟨rfl, rfl, rfl⟩ | ⟨b, c, cs, rfl, rfl, hle, hlen, ht⟩⟩ := s.pf
  · unfold Does
    rw [if_pos (by simp [Region.wanted]), hexec w (by
      have hj0 : j = 0 := by simpa using hi
      subst hj0
      have hi0 : i = 0 := by omega
      subst hi0
      have := run_copy (t0 := t0) (t1 := t1) (ty := ty) (el := el) (s2 := s2) (w := w) (w' := w) (P := P) hsub2 (ad := none) (m := 0) (c := 0) rfl
      simpa [cutv] using this)]
    refine ⟨emp :: o1, ⟨emp, rfl, ?_, rfl⟩, hs1⟩
    have hj0 : j = 0 := by simpa using hi
    subst hj0
    have hi0 : i = 0 := by omega
    subst hi0
    simp [splice]
    exact s
  · have hn' : min ys.length (j - i) ≤ j - i := Nat.min_le_right _ _
    have hsp : splice xs (ys.take (j - i)) i = xs.take i ++ ys.take (min ys.length (j - i)) ++ xs.drop (i + min ys.length (j - i)) := by
      unfold splice
      have e : min (ys.take (j - i)).length (xs.length - i) = min ys.length (j - i) := by rw [List.length_take]; omega
      rw [e, List.take_take, Nat.min_eq_left (by omega)]
    rw [hsp]
    have hny : min ys.length (j - i) ≤ ys.length := Nat.min_le_left _ _
    generalize hne : min ys.length (j - i) = n' at *
    have hZ : ((ys.take n').flatMap enc).length = n' * sz := by rw [flat_len henc, List.length_take, Nat.min_eq_left hny]
    have hmul1 : i * sz + n' * sz ≤ xs.length * sz := by rw [← Nat.add_mul]; exact Nat.mul_le_mul_right _ (by omega)
    have hmul2 : xs.length * sz ≤ c * sz := Nat.mul_le_mul_right _ hle
    have hh : w.heap[b]? = some (.cells cs.toArray T (0, 0)) := hs1.so _ List.mem_cons_self b _ (sing_self _ _)
    have hones : ∀ v ∈ (ys.take n').flatMap enc, one v = true := fun v hv => by
      obtain ⟨y, hy1, hy2⟩ := List.mem_flatMap.1 hv
      exact hm2.2 y (List.mem_of_mem_take hy1) v hy2
    obtain ⟨w', h1, h2, h3, h4⟩ := run_storeCells (P := P) (b := b) (k := i * sz) (T := T) ((ys.take n').flatMap enc) 0 w cs hones hh (by omega)
    have hst : ((match (if c = i then some (⟨b, 0, none⟩ : Addr) else (some (⟨b, 0, none⟩ : Addr)).map (·.add (i * sz))) with | some a => storeCells a ((ys.take n').flatMap enc) 0 | none => pure () : Sem Unit)).run P w = .ok () w' := by
      by_cases hci : c = i
      · rw [if_pos hci]
        have hn0 : n' = 0 := by omega
        subst hn0
        simp only [List.take_zero, List.flatMap_nil] at h1 ⊢
        exact h1
      · rw [if_neg hci]
        simp only [Option.map_some, add_none, Nat.zero_add]
        exact h1
    unfold Does
    rw [if_pos (by simp [Region.wanted]), hexec w' (by
      have := run_copy (t0 := t0) (t1 := t1) (ty := ty) (el := el) (s2 := s2) (w := w) (w' := w') (P := P) hsub2 (ad := (if c = i then some (⟨b, 0, none⟩ : Addr) else (some (⟨b, 0, none⟩ : Addr)).map (·.add (i * sz)))) (m := j - i) (c := c - i) (by rw [hne]; exact hst)
      rw [hne] at this
      exact this)]
    simp only [Nat.add_zero, hZ] at h2
    refine ⟨blk b (cs.take (i * sz) ++ (ys.take n').flatMap enc ++ cs.drop (i * sz + n' * sz)) T :: o1, ⟨_, rfl, ?_, rfl⟩, Sep.swap hs1 ?_ ?_ ?_ rfl h4⟩
    · have hlen' : (xs.take i ++ ys.take n' ++ xs.drop (i + n')).length = xs.length := by
        simp only [List.length_append, List.length_take, List.length_drop]; omega
      refine ⟨henc, ⟨by rw [hlen']; exact hm.1, fun y hy cc hcc => ?_⟩, .inr ⟨b, c, _, by rw [hlen'], rfl, by rw [hlen']; exact hle, ?_, ?_⟩⟩
      · rcases List.mem_append.1 hy with hy | hy
        · rcases List.mem_append.1 hy with hy | hy
          · exact hm.2 y (List.mem_of_mem_take hy) cc hcc
          · exact hm2.2 y (List.mem_of_mem_take hy) cc hcc
        · exact hm.2 y (List.mem_of_mem_drop hy) cc hcc
      · simp only [List.length_append, List.length_take, List.length_drop, hZ]; omega
      · rw [hlen']
        rw [List.flatMap_append, List.flatMap_append, flat_take henc xs, flat_drop henc xs, ← ht, Nat.add_mul]
        rw [List.take_append, List.take_append]
        simp only [List.length_append, List.length_take, hZ]
        rw [List.take_of_length_le (l := cs.take (i * sz)) (by rw [List.length_take]; omega), List.take_of_length_le (l := (ys.take n').flatMap enc) (by rw [hZ]; omega)]
        congr 1
        · congr 1
          rw [List.take_take, Nat.min_eq_left (by omega)]
        · rw [List.drop_take]
          congr 1
          omega
    · exact fun x hx => none_blk (blk_none hx)
    · intro x ob hb
      obtain ⟨rfl, rfl⟩ := sing_some hb
      exact h2
    · exact fun x hx => h3 x (blk_none hx)
theorem Stp.copyC {t0 t1 el T : TypeId} [u : Und P t0 (.slice el)] [z : TySize P el sz] {x y : Operand} {vd v2 : Value} {h2 : PHeap} {ys : List α} {i j : Nat} {o1 : List PHeap} (hx : ev e x = some vd) (hd : vd = cutv v sz i j) (hy : ev e y = some v2)
    [s : OArr v enc sz T h xs] [tk : Take h o o1] [s2 : Arr v2 enc sz h2 ys] [m : InM h2 o r] (hij : i ≤ j) (hi : j ≤ xs.length) :
    Stp P ops ⟨d, .call ⟨.builtin .copy, #[x, y], #[t0, t1]⟩, ty, pos, aft, none⟩ e o r (fun v' o2 => ∃ h', v' = .int .i64 ((min ys.length (j - i) : Nat) : Int) ∧ OArr v enc sz T h' (splice xs (ys.take (j - i)) i) ∧ o2 = h' :: o1) := fun D a w he hs =>
  (Stp0.copyC (tk := tk.more D) (m := m.more D) hx hd hy hij hi a w he hs).mono fun v w' ⟨o2, ⟨h', h1, h2, h3⟩, hs'⟩ => ⟨o2, ⟨h' :: o1, ⟨h', h1, h2, rfl⟩, by rw [h3]; exact List.Perm.swap _ _ _⟩, hs'⟩
end
section
variable {c : Cx} {ops : Array Oper} {rest : List Oper} {k : List Item} {e : Env} {o r : List PHeap} {d : Nat} {ty : TypeId} {pos : String} {aft : Array Edge}
variable {α : Type} {enc : α → List Value} {sz : Nat} {h : PHeap} {xs : List α} {v : Value}
theorem XO.copyC {t0 t1 el T : TypeId} [u : Und c.P t0 (.slice el)] [z : TySize c.P el sz] {x y : Operand} {vd v2 : Value} {h2 : PHeap} {ys : List α} {i j : Nat} {o1 : List PHeap} (hx : ev e x = some vd) (hd : vd = cutv v sz i j) (hy : ev e y = some v2)
    [s : OArr v enc sz T h xs] [tk : Take h o o1] [s2 : Arr v2 enc sz h2 ys] [m : InM h2 o (c.B :: r)] (hij : i ≤ j) (hi : j ≤ xs.length)
    (hn : ∀ h', OArr v enc sz T h' (splice xs (ys.take (j - i)) i) → XO c ops rest k ((d, some (.int .i64 ((min ys.length (j - i) : Nat) : Int))) :: e) (h' :: o1) r) :
    XO c ops (⟨some d, .call ⟨.builtin .copy, #[x, y], #[t0, t1]⟩, ty, pos, aft, none⟩ :: rest) k e o r :=
  XO.s (Stp.copyC hx hd hy hij hi) fun v' o2 ⟨h', h1, h2, h3⟩ => by subst h1 h3; exact hn h' h2
variable {fl : List Nat} {f : List PHeap} {i0 : Nat} {bb : Bool} {tt uu : Plan}
theorem XT.copyC {t0 t1 el T : TypeId} [u : Und c.P t0 (.slice el)] [z : TySize c.P el sz] {x y : Operand} {vd v2 : Value} {h2 : PHeap} {ys : List α} {i j : Nat} {o1 : List PHeap}
    (hi0 : ops[i0]? = some ⟨some d, .call ⟨.builtin .copy, #[x, y], #[t0, t1]⟩, ty, pos, aft, none⟩) (hok : okOper c.N ⟨some d, .call ⟨.builtin .copy, #[x, y], #[t0, t1]⟩, ty, pos, aft, none⟩ = true)
    (hx : ev e x = some vd) (hd : vd = cutv v sz i j) (hy : ev e y = some v2)
    [s : OArr v enc sz T h xs] [tk : Take h o o1] [s2 : Arr v2 enc sz h2 ys] [m : InM h2 o (c.B :: r)] (hij : i ≤ j) (hi : j ≤ xs.length)
    (hn : ∀ h', OArr v enc sz T h' (splice xs (ys.take (j - i)) i) → Keeps bb f (h' :: o1) ∧ XT c ops fl f k r tt ((d, some (.int .i64 ((min ys.length (j - i) : Nat) : Int))) :: e) (h' :: o1)) (hu : XT c ops fl f k r uu e o) :
    XT c ops fl f k r (.br i0 bb tt uu) e o :=
  XT.s hi0 hok (Stp.copyC hx hd hy hij hi) (fun v' o2 ⟨h', h1, h2, h3⟩ => by subst h1 h3; exact hn h' h2) hu
end
end Go.X

/- Slices of 16-bit numbers. No condition. -/
set_option linter.unusedSimpArgs false
set_option linter.unusedVariables false
namespace Go.X
open Go.ChangeShapes Go.WideShapes Go.Deep
def encU16 (n : UInt16) : List Value := [.int .u16 n.toNat]
section
variable {H : Type} {enc : TypeId × Value → H} {P : Program} {W : World} {base : Nat} {v : Value} {d : DataW H} {ps : List MemPlace}
theorem arr_u16s {held : Bool} {t e : TypeId} {fuel : Nat} {cs : List Value} {x : DataW H × List MemPlace} (ht : P.underlying t = some (.slice e)) (he : P.underlying e = some (.int .u16)) (hc : P.cellsOf e = 1)
    (h : DataW.trod enc P W 0 (fun _ => true) held fuel t cs = some x) (hw : ∀ elems spare, x.1 = .slice elems spare → elems.length + spare.length ≤ 140737488355328) : ∃ v xs, cs = [v] ∧ Arr v encU16 1 (heapOf W) xs := by
  rcases open_ints ht he hc h with ⟨rfl, _⟩ | ⟨a, len, cap, zs, rfl, _, hl, hm, hz, hx, hcell, hwz⟩
  · exact ⟨_, [], rfl, Arr.nil (fun _ => rfl)⟩
  · have hz' : zs.length = cap := by simpa using hz
    have hb : len ≤ 140737488355328 := by
      have := hw _ _ (by rw [hx])
      simp [lits] at this
      omega
    refine ⟨_, (zs.take len).map fun n => UInt16.ofNat n.toNat, rfl, arr_one (fun x => ⟨_, rfl, rfl⟩) (by simp; omega) hl hb fun i hi u hu => ?_⟩
    have hi2 : i < zs.length := by simp at hi; omega
    rw [hcell i hi2]
    simp only [encU16, List.cons.injEq, and_true] at hu
    rw [← hu]
    have hb := range_u16 hwz i
    have e : zs[i]?.getD 0 = zs[i] := by simp [hi2]
    rw [e] at hb
    simp only [List.getElem_map, List.getElem_take, List.getD_eq_getElem?_getD, e, UInt16.toNat_ofNat']
    congr 2
    omega
theorem open_u16s {t e : TypeId} (ht : P.underlying t = some (.slice e)) (he : P.underlying e = some (.int .u16)) (hc : P.cellsOf e = 1) (hb : 0 < P.bytesOf e) (hv : Value.okWide P W .any base t v)
    (h : DataW.Trod enc P W 0 (fun _ => true) true t v d ps) (hw : ∀ n ∈ d.weights P t, n ≤ reachBytes) : ∃ xs : List UInt16, Arr v encU16 1 (heapOf W) xs := by
  obtain ⟨fuel, hf⟩ := h
  rw [slice_cells ht hv] at hf
  obtain ⟨v', xs, hcs, hA⟩ := arr_u16s ht he hc hf (slice_weight ht hb hw)
  simp only [List.cons.injEq, and_true] at hcs
  subst hcs
  exact ⟨xs, hA⟩
end
end Go.X

/- min of three. No condition. -/
set_option linter.unusedVariables false
namespace Go.X
section
variable {P : Program} {ops : Array Oper} {e : Env} {o r : List PHeap} {d : Option Tmp} {ty : TypeId} {pos : String} {aft : Array Edge}
theorem run_min3 {l m n : Int} {k : IntKind} {ty' : Array TypeId} {w : World} {cs : Array Bool} :
    (builtin .min ty' ty cs #[.int k l, .int k m, .int k n]).run P w = .ok (.value (.int k (min (min l m) n))) w := by
  simp only [builtin]
  refine run_val ?_
  have h1 : Builtin.min_ ty' ty #[.int k l, .int k m, .int k n] = (pure (.int k (if n < (if m < l then m else l) then n else (if m < l then m else l))) : Sem Value) := by
    simp [Builtin.min_, Builtin.min2]
  rw [h1]
  have h2 : (if n < (if m < l then m else l) then n else (if m < l then m else l)) = min (min l m) n := by omega
  rw [h2]; rfl
theorem Q.min3 {x y z : Operand} {tys : Array TypeId} {k : IntKind} {l m n : Int} (hx : ev e x = some (.int k l)) (hy : ev e y = some (.int k m)) (hz : ev e z = some (.int k n)) :
    Quiet P ops ⟨d, .call ⟨.builtin .min, #[x, y, z], tys⟩, ty, pos, aft, none⟩ e o r (.int k (Min.min (Min.min l m) n)) := .mk fun a w he _ => by
  simp only [execOp, resolve, List.map_toArray, List.map_cons, List.map_nil, ev_rel he hx, ev_rel he hy, ev_rel he hz]
  rw [bind_ok (a := _) (w1 := w) rfl]
  simp only [invoke]
  exact run_min3
end
end Go.X

/- A byte of a string. No condition. -/
set_option linter.unusedVariables false
namespace Go.X
section
variable {P : Program} {ops : Array Oper} {e : Env} {o r : List PHeap} {d : Option Tmp} {ty : TypeId} {pos : String} {aft : Array Edge}
theorem Q.indexS {t : TypeId} [u : Und P t .string] {x y : Operand} {k : IntKind} {n : Int} {s : ByteArray} {b : UInt8} (hx : ev e x = some (.string s)) (hy : ev e y = some (.int k n))
    (h0 : 0 ≤ n) (hv : s[n.toNat]? = some b) : Quiet P ops ⟨d, .index t x y, ty, pos, aft, none⟩ e o r (.int .u8 b.toNat) := .mk fun a w he _ => by
  simp only [execOp, ev_rel he hx, ev_rel he hy]
  refine run_val ?_
  unfold Instr.index
  have e1 : (asIntOf (.int k n)).run P w = .ok (k, n) w := rfl
  rw [bind_ok e1]
  simp only
  rw [bind_ok (u.pf w)]
  simp only
  rw [if_pos h0, hv]
  rfl
end
end Go.X

/- Pointers to elements, functions compared with nil. No condition. -/
set_option linter.unusedVariables false
namespace Go.X
section
variable {α : Type} {P : Program} {ops : Array Oper} {e : Env} {o r : List PHeap} {d : Option Tmp} {ty : TypeId} {pos : String} {aft : Array Edge} {v : Value} {enc : α → List Value} {sz : Nat} {h : PHeap} {xs : List α}
theorem Q.nilCheckE {x : Operand} {i k : Nat} (hx : ev e x = some (pat v sz i k)) [s : Arr v enc sz h xs] (hi : i < xs.length) : Quiet P ops ⟨d, .nilCheck x, ty, pos, aft, none⟩ e o r (pat v sz i k) :=
  .mk fun a w he _ => by
    obtain ⟨b, kk, cs, T, fr, c, hv, hb, hp, hc⟩ := s.at' (i := i) hi
    have hx' := ev_rel he hx
    rw [hp] at hx' ⊢
    simp only [execOp, hx']; rfl
theorem run_neqFn {t : TypeId} {a : Bool} {x y : Value} {q : Array TypeId} {q2 : Array TypeId} {q3 : Bool} [u : Und P t (.func q q2 q3)] (hxy : (x = .nilFunc ∧ y = .nilFunc ∧ a = true) ∨ ((∃ f vs us, x = .func f vs us) ∧ y = .nilFunc ∧ a = false)) (w : World) :
    (Op.equal t x y).run P w = .ok a w := by
  unfold Op.equal Op.maxDepth
  unfold Op.equalIn
  rw [bind_ok (u.pf w)]
  rcases hxy with ⟨rfl, rfl, rfl⟩ | ⟨⟨f, vs, us, rfl⟩, rfl, rfl⟩ <;> rfl
theorem Q.neqNilF {t t' : TypeId} {q : Array TypeId} {q2 : Array TypeId} {q3 : Bool} [u : Und P t (.func q q2 q3)] {x : Operand} {f : Fn} {vs us : Array Value} (hx : ev e x = some (.func f vs us)) :
    Quiet P ops ⟨d, .binOp .neq t x (.const .nilFunc) t', ty, pos, aft, none⟩ e o r (.bool true) :=
  .mk fun a w he _ => by
    have e1 : evA a (.const .nilFunc) = .nilFunc := rfl
    simp only [execOp, ev_rel he hx, e1]
    refine run_val ?_
    have h1 : (eqGuard .neq t x (.const .nilFunc) (.func f vs us) .nilFunc).run P w = .ok () w := rfl
    rw [bind_ok h1]
    unfold binOp
    simp only
    rw [bind_ok (run_neqFn (a := false) (.inr ⟨⟨_, _, _, rfl⟩, rfl, rfl⟩) w)]
    rfl
theorem Q.neqNilN {t t' : TypeId} {q : Array TypeId} {q2 : Array TypeId} {q3 : Bool} [u : Und P t (.func q q2 q3)] {x : Operand} (hx : ev e x = some .nilFunc) :
    Quiet P ops ⟨d, .binOp .neq t x (.const .nilFunc) t', ty, pos, aft, none⟩ e o r (.bool false) :=
  .mk fun a w he _ => by
    have e1 : evA a (.const .nilFunc) = .nilFunc := rfl
    simp only [execOp, ev_rel he hx, e1]
    refine run_val ?_
    have h1 : (eqGuard .neq t x (.const .nilFunc) .nilFunc .nilFunc).run P w = .ok () w := rfl
    rw [bind_ok h1]
    unfold binOp
    simp only
    rw [bind_ok (run_neqFn (a := true) (.inl ⟨rfl, rfl, rfl⟩) w)]
    rfl
end
end Go.X

/- Maps. No condition. -/
set_option linter.unusedSimpArgs false
set_option linter.unusedVariables false
namespace Go.X
section
variable {κ : Type}
def entsK (enc : κ → Value) : Nat → List (κ × Value) → List MapEntry
  | _, [] => []
  | i, (k, v) :: r => { key := enc k, val := v, born := i } :: entsK enc (i + 1) r
def look [DecidableEq κ] (x : κ) : List (κ × Value) → Nat → Option (Nat × Value)
  | [], _ => none
  | (k, v) :: r, i => if x = k then some (i, v) else look x r (i + 1)
/-- What a map has at a key. -/
def getM [DecidableEq κ] (x : κ) : List (κ × Value) → Option Value
  | [] => none
  | (k, v) :: r => if x = k then some v else getM x r
def putM [DecidableEq κ] (x : κ) (u : Value) : List (κ × Value) → List (κ × Value)
  | [] => [(x, u)]
  | (k, v) :: r => if x = k then (x, u) :: r else (k, v) :: putM x u r
theorem look_get [DecidableEq κ] (x : κ) : ∀ (es : List (κ × Value)) (i : Nat), (look x es i).map Prod.snd = getM x es
  | [], _ => rfl
  | (k, v) :: r, i => by
    rw [look, getM]
    split
    · rfl
    · exact look_get x r (i + 1)
theorem look_none [DecidableEq κ] {x : κ} : ∀ {es : List (κ × Value)} {i : Nat} (u : Value), look x es i = none → putM x u es = es ++ [(x, u)]
  | [], _, _, _ => rfl
  | (k, v) :: r, i, u, h => by
    rw [look] at h
    split at h
    · cases h
    · rename_i hk
      rw [putM, if_neg hk, look_none u h, List.cons_append]
theorem look_some [DecidableEq κ] {x : κ} {enc : κ → Value} {u : Value} : ∀ {es : List (κ × Value)} {i b n : Nat} {v : Value}, look x es i = some (n, v) →
    ∃ j, n = i + j ∧ j < es.length ∧ ((entsK enc b es)[j]?).map (·.key) = some (enc x) ∧ (entsK enc b es).modify j (fun e => { e with key := enc x, val := u }) = entsK enc b (putM x u es) ∧ (putM x u es).length = es.length
  | [], _, _, _, _, h => by cases h
  | (k, v') :: r, i, b, n, v, h => by
    rw [look] at h
    split at h
    · rename_i hk
      simp only [Option.some.injEq, Prod.mk.injEq] at h
      subst hk
      refine ⟨0, by omega, by simp, rfl, ?_, by rw [putM, if_pos rfl]; rfl⟩
      rw [putM, if_pos rfl]
      rfl
    · rename_i hk
      obtain ⟨j, h1, h2, h3, h4, h5⟩ := look_some (enc := enc) (u := u) (b := b + 1) h
      refine ⟨j + 1, by omega, by simp; omega, by simpa [entsK] using h3, ?_, by rw [putM, if_neg hk]; simp [h5]⟩
      rw [putM, if_neg hk, entsK, entsK, List.modify_succ_cons, h4]
theorem entsK_len (enc : κ → Value) : ∀ (es : List (κ × Value)) (i : Nat), (entsK enc i es).length = es.length
  | [], _ => rfl
  | (k, v) :: r, i => by rw [entsK, List.length_cons, entsK_len enc r, List.length_cons]
theorem entsK_snoc (enc : κ → Value) (x : κ) (u : Value) : ∀ (es : List (κ × Value)) (i : Nat), entsK enc i (es ++ [(x, u)]) = entsK enc i es ++ [{ key := enc x, val := u, born := i + es.length }]
  | [], i => by simp [entsK]
  | (k, v) :: r, i => by
    rw [List.cons_append, entsK, entsK_snoc enc x u r, entsK, List.cons_append, List.length_cons, show i + 1 + r.length = i + (r.length + 1) by omega]
def mapO (enc : κ → Value) (es : List (κ × Value)) : Obj := .map (entsK enc 0 es).toArray es.length
def mapH (b : Nat) (enc : κ → Value) (es : List (κ × Value)) : PHeap := sing b (mapO enc es)
class KeyT [DecidableEq κ] (P : Program) (t : TypeId) (enc : κ → Value) : Prop where
  chk : ∀ (b : Bool) x w, (Instr.checkKey b 10000 t (enc x)).run P w = .ok () w
  fnd : ∀ x (es : List (κ × Value)) i w, (Instr.findKey t (enc x) (entsK enc i es)).run P w = .ok (look x es 0) w
  same : ∀ x, Instr.sameBits 10000 (enc x) (enc x) = true
end
/-! ### keys -/
def encK1 (x : Int) : Value := .int .i64 x
def encK2 (x : Int × Int) : Value := .agg #[.int .i64 x.1, .int .i64 x.2]
theorem findNow_int {x : Int} : ∀ (es : List (Int × Value)) (b i : Nat), Instr.findNow (.int .i64) (encK1 x) (entsK encK1 b es) i = some (look x es i)
  | [], _, _ => rfl
  | (k, v) :: r, b, i => by
    rw [entsK, Instr.findNow, look]
    simp only [encK1, Instr.sameNow, if_true]
    by_cases h : x = k
    · subst h
      simp
    · rw [if_neg h]
      have : (x == k) = false := by simp [h]
      simp only [this]
      exact findNow_int r (b + 1) (i + 1)
theorem KeyT.int {P : Program} {t : TypeId} (u : P.underlying t = some (.int .i64)) : KeyT P t encK1 where
  chk b x w := MapKept.run_checkKey u (by simp [encK1, MapKept.IsKey]) b 9999
  fnd x es i w := MapKept.run_findKey u (findNow_int es i 0)
  same x := by simp [encK1, Instr.sameBits]
section
variable {P : Program} {t el : TypeId} {ki : IntKind}
theorem for2 {β : Type} {f : Nat → β → Sem (ForInStep β)} {b0 b1 b2 : β} {w : World} (h0 : (f 0 b0).run P w = .ok (.yield b1) w) (h1 : (f 1 b1).run P w = .ok (.yield b2) w) : (forIn (m := Sem) [0, 1] b0 f).run P w = .ok b2 w := by
  rw [List.forIn_cons, bind_ok h0]
  simp only
  rw [List.forIn_cons, bind_ok h1]
  simp only
  rfl
theorem for2a {β : Type} {f : Nat → β → Sem (ForInStep β)} {b0 b1 : β} {w : World} (h0 : (f 0 b0).run P w = .ok (.done b1) w) : (forIn (m := Sem) [0, 1] b0 f).run P w = .ok b1 w := by
  rw [List.forIn_cons, bind_ok h0]
  rfl
theorem for2b {β : Type} {f : Nat → β → Sem (ForInStep β)} {b0 b1 b2 : β} {w : World} (h0 : (f 0 b0).run P w = .ok (.yield b1) w) (h1 : (f 1 b1).run P w = .ok (.done b2) w) : (forIn (m := Sem) [0, 1] b0 f).run P w = .ok b2 w := by
  rw [List.forIn_cons, bind_ok h0]
  simp only
  rw [List.forIn_cons, bind_ok h1]
  rfl
theorem run_eqPair (u : Und P t (.array 2 el)) (ht : IsAgg P el false) (s : TySize P el 1) (ui : Und P el (.int ki)) (x y : Int × Int) (d : Nat) (w : World) :
    (Op.equalIn (d + 2) t (encK2 x) (encK2 y)).run P w = .ok (decide (x = y)) w := by
  unfold Op.equalIn encK2
  rw [bind_ok (u.pf w)]
  simp only
  rw [bind_ok (s.pf w)]
  simp only [Std.Legacy.Range.forIn_eq_forIn_range', Std.Legacy.Range.size, Nat.sub_zero, Nat.add_one_sub_one, Nat.div_one]
  obtain ⟨x1, x2⟩ := x
  obtain ⟨y1, y2⟩ := y
  show ((forIn (m := Sem) [0, 1] _ _) >>= _).run P w = _
  have p0 : ∀ (a b : Int), (part el #[Value.int .i64 a, .int .i64 b] (0 * 1)).run P w = .ok (.int .i64 a) w := fun a b => run_part (ht := ht) rfl w
  have p1 : ∀ (a b : Int), (part el #[Value.int .i64 a, .int .i64 b] (1 * 1)).run P w = .ok (.int .i64 b) w := fun a b => run_part (ht := ht) rfl w
  by_cases h1 : x1 = y1
  · subst h1
    by_cases h2 : x2 = y2
    · subst h2
      rw [bind_ok (a := (none, ())) (w1 := w) (for2 (b1 := (none, ())) ?_ ?_)]
      · simp only [decide_true]; rfl
      · rw [bind_ok (p0 _ _), bind_ok (p0 _ _), bind_ok (run_eqInt (u := ui) w)]
        simp only [beq_self_eq_true, Bool.not_true, Bool.false_eq_true, if_false]; rfl
      · rw [bind_ok (p1 _ _), bind_ok (p1 _ _), bind_ok (run_eqInt (u := ui) w)]
        simp only [beq_self_eq_true, Bool.not_true, Bool.false_eq_true, if_false]; rfl
    · rw [bind_ok (a := (some false, ())) (w1 := w) (for2b (b1 := (none, ())) ?_ ?_)]
      · simp only [Prod.mk.injEq, h2, and_false, decide_false]; rfl
      · rw [bind_ok (p0 _ _), bind_ok (p0 _ _), bind_ok (run_eqInt (u := ui) w)]
        simp only [beq_self_eq_true, Bool.not_true, Bool.false_eq_true, if_false]; rfl
      · rw [bind_ok (p1 _ _), bind_ok (p1 _ _), bind_ok (run_eqInt (u := ui) w)]
        have : (x2 == y2) = false := by simp [h2]
        simp only [this, Bool.not_false, if_true]; rfl
  · rw [bind_ok (a := (some false, ())) (w1 := w) (for2a ?_)]
    · simp only [Prod.mk.injEq, h1, false_and, decide_false]; rfl
    · rw [bind_ok (p0 _ _), bind_ok (p0 _ _), bind_ok (run_eqInt (u := ui) w)]
      have : (x1 == y1) = false := by simp [h1]
      simp only [this, Bool.not_false, if_true]; rfl
theorem run_chkPair (u : Und P t (.array 2 el)) (ht : IsAgg P el false) (s : TySize P el 1) (ui : Und P el (.int ki)) (x : Int × Int) (b : Bool) (d : Nat) (w : World) :
    (Instr.checkKey b (d + 2) t (encK2 x)).run P w = .ok () w := by
  have ci : ∀ m : Int, (Instr.checkKey b (d + 1) el (.int .i64 m)).run P w = .ok () w := fun m => by
    unfold Instr.checkKey
    rw [bind_ok (ui.pf w)]
    rfl
  unfold Instr.checkKey encK2
  rw [bind_ok (u.pf w)]
  simp only [Std.Legacy.Range.forIn_eq_forIn_range', Std.Legacy.Range.size, Nat.sub_zero, Nat.add_one_sub_one, Nat.div_one]
  obtain ⟨x1, x2⟩ := x
  have p0 : ∀ (a b : Int), (part el #[Value.int .i64 a, .int .i64 b] (0 * 1)).run P w = .ok (.int .i64 a) w := fun a b => run_part (ht := ht) rfl w
  have p1 : ∀ (a b : Int), (part el #[Value.int .i64 a, .int .i64 b] (1 * 1)).run P w = .ok (.int .i64 b) w := fun a b => run_part (ht := ht) rfl w
  show ((forIn (m := Sem) [0, 1] _ _) >>= _).run P w = _
  rw [bind_ok (a := PUnit.unit) (w1 := w) (for2 (b1 := PUnit.unit) ?_ ?_)]
  · rfl
  · rw [bind_ok (s.pf w), bind_ok (p0 _ _), bind_ok (ci _)]; rfl
  · rw [bind_ok (s.pf w), bind_ok (p1 _ _), bind_ok (ci _)]; rfl
theorem ask_pair (u : Und P t (.array 2 el)) (ht : IsAgg P el false) (s : TySize P el 1) (ui : Und P el (.int ki)) (x : Int × Int) (w : World) : ∀ (es : List ((Int × Int) × Value)) (b i : Nat),
    (Instr.findAsking t (encK2 x) (entsK encK2 b es) i).run P w = .ok (look x es i) w
  | [], _, _ => rfl
  | (k, v) :: r, b, i => by
    rw [entsK, Instr.findAsking, look]
    have he : (Op.equal t (encK2 x) (encK2 k)).run P w = .ok (decide (x = k)) w := run_eqPair (d := 9998) u ht s ui x k w
    dsimp only
    rw [bind_ok he]
    by_cases h : x = k
    · rw [if_pos h, if_pos (by simpa using h)]; rfl
    · rw [if_neg h, if_neg (by simpa using h)]
      exact ask_pair u ht s ui x w r (b + 1) (i + 1)
theorem KeyT.pair (hu : P.underlying t = some (.array 2 el)) (u : Und P t (.array 2 el)) (ht : IsAgg P el false) (s : TySize P el 1) (ui : Und P el (.int ki)) : KeyT P t encK2 where
  chk b x w := run_chkPair u ht s ui x b 9998 w
  fnd x es i w := by
    refine (run_findKey_eq (P := P) w (k := t) (by rw [hu]) (encK2 x) (entsK encK2 i es)).trans ?_
    exact ask_pair u ht s ui x w es i 0
  same x := by simp [encK2, Instr.sameBits]
end
/-! ### operations -/
section
variable {P : Program} {ops : Array Oper} {e : Env} {o r : List PHeap} {d : Option Tmp} {ty : TypeId} {pos : String} {aft : Array Edge} {κ : Type} {enc : κ → Value}
theorem Makes.map {t : TypeId} : Makes P ops ⟨d, .makeMap t none, ty, pos, aft, none⟩ e (mapO enc []) (fun b => .map (some b)) := fun a w _ => by
  refine ⟨rfl, ?_⟩
  simp only [execOp]
  refine run_val ?_
  rfl
class HasM (b : Nat) (o r : List PHeap) {κ : outParam Type} (enc : outParam (κ → Value)) (es : outParam (List (κ × Value))) : Prop where
  pf : InM (mapH b enc es) o r
instance (priority := high) HasM.head {b : Nat} {es : List (κ × Value)} {o r : List PHeap} : HasM b (mapH b enc es :: o) r enc es := ⟨⟨.inl List.mem_cons_self⟩⟩
instance HasM.tail {b : Nat} {κ' : Type} {enc' : κ' → Value} {es : List (κ' × Value)} {g : PHeap} {o r : List PHeap} [t : HasM b o r enc' es] : HasM b (g :: o) r enc' es := ⟨⟨orMap t.pf.pf (List.mem_cons_of_mem _) id⟩⟩
instance (priority := low) HasM.readH {b : Nat} {es : List (κ × Value)} {r : List PHeap} : HasM b [] (mapH b enc es :: r) enc es := ⟨⟨.inr List.mem_cons_self⟩⟩
instance (priority := low) HasM.readT {b : Nat} {κ' : Type} {enc' : κ' → Value} {es : List (κ' × Value)} {g : PHeap} {r : List PHeap} [t : HasM b [] r enc' es] : HasM b [] (g :: r) enc' es := ⟨⟨.inr (List.mem_cons_of_mem _ (t.pf.pf.resolve_left (fun h => by cases h)))⟩⟩
theorem HasM.heap {b : Nat} {es : List (κ × Value)} (h : HasM b o r enc es) {w : World} (hr : Rd o r w) : w.heap[b]? = some (mapO enc es) := by
  rcases h.pf.pf with h1 | h1
  · exact hr.1 _ h1 b _ (sing_self _ _)
  · exact hr.2 _ h1 b _ (sing_self _ _)
theorem run_lookup [DecidableEq κ] {t kt et : TypeId} (u : Und P t (.map kt et)) [k : KeyT P kt enc] {z : Value} (hz : ∀ w, (zeroValue et).run P w = .ok z w) {b : Nat} {es : List (κ × Value)} {w : World} (hb : w.heap[b]? = some (mapO enc es)) (x : κ) (c : Bool) :
    (Instr.lookup t (.map (some b)) (enc x) c).run P w = .ok (if c = true then .tuple #[(getM x es).getD z, .bool (getM x es).isSome] else (getM x es).getD z) w := by
  unfold Instr.lookup
  rw [bind_ok (u.pf w)]
  simp only
  have e1 : (getObj b).run P w = .ok (.map (entsK enc 0 es).toArray es.length) w := MapKept.run_getObj_map hb
  rw [bind_ok e1]
  simp only
  rw [bind_ok (a := (entsK enc 0 es).toArray) (w1 := w) rfl]
  rw [bind_ok (k.chk _ x w)]
  have hf := k.fnd x es 0 w
  have hg := look_get x es 0
  rw [bind_ok hf]
  cases hl : look x es 0 with
  | none =>
    rw [hl] at hg
    have hg : none = getM x es := hg
    simp only
    rw [bind_ok (hz w), bind_ok (a := (z, false)) (w1 := w) rfl, ← hg]
    cases c <;> rfl
  | some p =>
    obtain ⟨i, v⟩ := p
    rw [hl] at hg
    have hg : some v = getM x es := hg
    simp only
    rw [bind_ok (a := (v, true)) (w1 := w) rfl, ← hg]
    cases c <;> rfl
theorem Q.lookup [DecidableEq κ] {t kt et : TypeId} [u : Und P t (.map kt et)] [k : KeyT P kt enc] (z : Value) (hz : ∀ w, (zeroValue et).run P w = .ok z w) {b : Nat} {es : List (κ × Value)} {m i : Operand} (x : κ) (hm : ev e m = some (.map (some b))) (hi : ev e i = some (enc x)) [h : HasM b o r enc es] :
    Quiet P ops ⟨d, .lookup t m i false, ty, pos, aft, none⟩ e o r ((getM x es).getD z) := .mk fun a w he hr => by
  simp only [execOp, ev_rel he hm, ev_rel he hi]
  exact run_val (run_lookup (k := k) u hz (h.heap hr) x false)
theorem Q.lookup2 [DecidableEq κ] {t kt et : TypeId} [u : Und P t (.map kt et)] [k : KeyT P kt enc] (z : Value) (hz : ∀ w, (zeroValue et).run P w = .ok z w) {b : Nat} {es : List (κ × Value)} {m i : Operand} (x : κ) (hm : ev e m = some (.map (some b))) (hi : ev e i = some (enc x)) [h : HasM b o r enc es] :
    Quiet P ops ⟨d, .lookup t m i true, ty, pos, aft, none⟩ e o r (.tuple #[(getM x es).getD z, .bool (getM x es).isSome]) := .mk fun a w he hr => by
  simp only [execOp, ev_rel he hm, ev_rel he hi]
  exact run_val (run_lookup (k := k) u hz (h.heap hr) x true)
class TakeM (b : Nat) (o : List PHeap) {κ : outParam Type} (enc : outParam (κ → Value)) (es : outParam (List (κ × Value))) (o1 : outParam (List PHeap)) : Prop where
  pf : o.Perm (mapH b enc es :: o1)
instance (priority := high) TakeM.head {b : Nat} {es : List (κ × Value)} {o : List PHeap} : TakeM b (mapH b enc es :: o) enc es o := ⟨List.Perm.refl _⟩
instance TakeM.tail {b : Nat} {κ' : Type} {enc' : κ' → Value} {es : List (κ' × Value)} {g : PHeap} {o o1 : List PHeap} [t : TakeM b o enc' es o1] : TakeM b (g :: o) enc' es (g :: o1) := ⟨(t.pf.cons g).trans (List.Perm.swap _ _ _)⟩
theorem run_mapUpdate [DecidableEq κ] {t kt et : TypeId} (u : Und P t (.map kt et)) [k : KeyT P kt enc] {b : Nat} {es : List (κ × Value)} {w : World} (hb : w.heap[b]? = some (mapO enc es)) (x : κ) (v : Value) :
    (Instr.mapUpdate t (.map (some b)) (enc x) v).run P w = .ok () { w with heap := w.heap.setIfInBounds b (mapO enc (putM x v es)) } := by
  unfold Instr.mapUpdate
  rw [bind_ok (u.pf w)]
  simp only
  have e1 : (getObj b).run P w = .ok (.map (entsK enc 0 es).toArray es.length) w := MapKept.run_getObj_map hb
  rw [bind_ok e1]
  simp only
  rw [bind_ok (k.chk _ x w)]
  have hf := k.fnd x es 0 w
  rw [bind_ok hf]
  cases hl : look x es 0 with
  | none =>
    simp only
    rw [MapKept.run_setObj_map _ hb]
    simp only [List.push_toArray, mapO, look_none v hl, entsK_snoc, List.length_append, List.length_cons, List.length_nil, Nat.zero_add]
  | some p =>
    obtain ⟨i, v'⟩ := p
    obtain ⟨j, h1, h2, h3, h4, h5⟩ := look_some (enc := enc) (u := v) (b := 0) hl
    obtain rfl : i = j := by omega
    simp only
    have hks : (Instr.keyThatStays ((((entsK enc 0 es).toArray[i]?).map (·.key)).getD (enc x)) (enc x)).run P w = .ok (enc x) w := by
      rw [List.getElem?_toArray, h3]
      unfold Instr.keyThatStays
      rw [Option.getD_some, if_pos (k.same x)]
      rfl
    rw [bind_ok hks, MapKept.run_setObj_map _ hb]
    simp only [List.modify_toArray, h4, mapO, h5]
theorem mapH_none {b x : Nat} {es : List (κ × Value)} (h : mapH b enc es x = none) : x ≠ b := by
  rintro rfl
  simp [mapH, sing] at h
theorem none_mapH {b x : Nat} {es : List (κ × Value)} (h : x ≠ b) : mapH b enc es x = none := by simp [mapH, sing, h]
theorem Stp0.mapUpdate [DecidableEq κ] {t kt et : TypeId} [u : Und P t (.map kt et)] [k : KeyT P kt enc] {b : Nat} {es : List (κ × Value)} {m i y : Operand} {v : Value} {o1 : List PHeap} (x : κ) (hm : ev e m = some (.map (some b))) (hi : ev e i = some (enc x)) (hy : ev e y = some v) [tk : TakeM b o enc es o1] :
    Stp0 P ops ⟨d, .mapUpdate t m i y, ty, pos, aft, none⟩ e o r (fun v' o2 => v' = undef ∧ o2 = mapH b enc (putM x v es) :: o1) := fun a w he hs => by
  have hs1 := hs.perm tk.pf
  have hh : w.heap[b]? = some (mapO enc es) := hs1.so _ List.mem_cons_self b _ (sing_self _ _)
  have hlt : b < w.heap.size := (Array.getElem?_eq_some_iff.1 hh).1
  unfold Does
  simp only [Region.wanted, if_true, execOp, ev_rel he hm, ev_rel he hi, ev_rel he hy, run_unit (run_mapUpdate (k := k) u hh x v)]
  refine ⟨_, ⟨trivial, rfl⟩, Sep.swap hs1 ?_ ?_ ?_ rfl rfl⟩
  · exact fun x hx => none_mapH (mapH_none hx)
  · intro x' ob hb
    obtain ⟨rfl, rfl⟩ := sing_some hb
    simp [hlt]
  · intro x' hx
    have := mapH_none hx
    simp [Ne.symm this]
theorem Stp.mapUpdate [DecidableEq κ] {t kt et : TypeId} [u : Und P t (.map kt et)] [k : KeyT P kt enc] {b : Nat} {es : List (κ × Value)} {m i y : Operand} {v : Value} {o1 : List PHeap} (x : κ) (hm : ev e m = some (.map (some b))) (hi : ev e i = some (enc x)) (hy : ev e y = some v) [tk : TakeM b o enc es o1] :
    Stp P ops ⟨d, .mapUpdate t m i y, ty, pos, aft, none⟩ e o r (fun v' o2 => v' = undef ∧ o2 = mapH b enc (putM x v es) :: o1) := fun D a w he hs =>
  (Stp0.mapUpdate (tk := ⟨(tk.pf.cons D).trans (List.Perm.swap _ _ _)⟩) x hm hi hy a w he hs).mono fun v' w' ⟨o2, ⟨h1, h2⟩, hs'⟩ => ⟨o2, ⟨mapH b enc (putM x v es) :: o1, ⟨h1, rfl⟩, by rw [h2]; exact List.Perm.swap _ _ _⟩, hs'⟩
end
section
variable {c : Cx} {ops : Array Oper} {rest : List Oper} {k : List Item} {e : Env} {o r : List PHeap} {d : Nat} {ty : TypeId} {pos : String} {aft : Array Edge} {κ : Type}
theorem XO.map {t : TypeId} (enc : κ → Value) (h : ∀ b, XO c ops rest k ((d, some (.map (some b))) :: e) (mapH b enc [] :: o) r) :
    XO c ops (⟨some d, .makeMap t none, ty, pos, aft, none⟩ :: rest) k e o r := XO.m (Makes.map (enc := enc)) h
theorem XO.mapUpdate [DecidableEq κ] {enc : κ → Value} {t kt et : TypeId} [u : Und c.P t (.map kt et)] [ky : KeyT c.P kt enc] {b : Nat} {es : List (κ × Value)} {m i y : Operand} {v : Value} {o1 : List PHeap} (x : κ) (hm : ev e m = some (.map (some b))) (hi : ev e i = some (enc x)) (hy : ev e y = some v) [tk : TakeM b o enc es o1]
    (h : XO c ops rest k e (mapH b enc (putM x v es) :: o1) r) : XO c ops (⟨none, .mapUpdate t m i y, ty, pos, aft, none⟩ :: rest) k e o r :=
  XO.s0 (Stp.mapUpdate (k := ky) (tk := tk) x hm hi hy) fun _ _ ⟨_, h2⟩ => by subst h2; exact h
variable {fl : List Nat} {f : List PHeap} {i0 : Nat} {bb : Bool} {tt uu : Plan}
theorem XT.mapUpdate [DecidableEq κ] {enc : κ → Value} {t kt et : TypeId} [u : Und c.P t (.map kt et)] [ky : KeyT c.P kt enc] {b : Nat} {es : List (κ × Value)} {m i y : Operand} {v : Value} {o1 : List PHeap} (hi0 : ops[i0]? = some ⟨none, .mapUpdate t m i y, ty, pos, aft, none⟩) (hok : okOper c.N ⟨none, .mapUpdate t m i y, ty, pos, aft, none⟩ = true)
    (x : κ) (hm : ev e m = some (.map (some b))) (hi : ev e i = some (enc x)) (hy : ev e y = some v) [tk : TakeM b o enc es o1]
    (hn : Keeps bb f (mapH b enc (putM x v es) :: o1) ∧ XT c ops fl f k r tt e (mapH b enc (putM x v es) :: o1)) (hu : XT c ops fl f k r uu e o) : XT c ops fl f k r (.br i0 bb tt uu) e o :=
  XT.s0 hi0 hok (Stp.mapUpdate (k := ky) (tk := tk) x hm hi hy) (fun _ _ ⟨_, h2⟩ => by subst h2; exact hn) hu
end
end Go.X

/- Exclusive or; pairs of numbers compared. No condition. -/
set_option linter.unusedSimpArgs false
set_option linter.unusedVariables false
namespace Go.X
def xorI (k : IntKind) (m n : Int) : Int := k.wrap ((BitVec.ofInt k.bits m ^^^ BitVec.ofInt k.bits n).toNat : Int)
def u64 (n : Int) : Int := IntKind.wrap .u64 n
instance One.map {m : Option Nat} : One (.map m) := ⟨rfl, rfl⟩
def encP (x : Int × Int) : List Value := [.int .i64 x.1, .int .i64 x.2]
section
variable {P : Program} {ops : Array Oper} {e : Env} {o r : List PHeap} {d : Option Tmp} {ty : TypeId} {pos : String} {aft : Array Edge}
theorem Q.xorW {t t2 : TypeId} {x y : Operand} {k : IntKind} {m n : Int} (hx : ev e x = some (.int k m)) (hy : ev e y = some (.int k n)) :
    Quiet P ops ⟨d, .binOp .xor t x y t2, ty, pos, aft, none⟩ e o r (.int k (xorI k m n)) := Q.bin hx hy fun w => by
  have e1 : binOp .xor t (.int k m) (.int k n) = Op.intBits .xor k m n := by simp [binOp]
  rw [e1]
  rfl
theorem Q.eqlP {t t2 el : TypeId} {ki : IntKind} {x y : Operand} {a1 a2 b1 b2 : Int} (hx : ev e x = some (.agg #[.int .i64 a1, .int .i64 a2])) (hy : ev e y = some (.agg #[.int .i64 b1, .int .i64 b2])) (u : Und P t (.array 2 el)) (ht : IsAgg P el false) (s : TySize P el 1) (ui : Und P el (.int ki)) (hg : P.eqGuardType P.depth t = false) :
    Quiet P ops ⟨d, .binOp .eql t x y t2, ty, pos, aft, none⟩ e o r (.bool (decide ((a1, a2) = (b1, b2)))) := .mk fun s' w he _ => by
  simp only [execOp, ev_rel he hx, ev_rel he hy]
  refine run_val ?_
  rw [bind_ok (run_guardAgg hg (.inl rfl) w)]
  unfold binOp
  simp only
  have h1 : (Op.equal t (.agg #[.int .i64 a1, .int .i64 a2]) (.agg #[.int .i64 b1, .int .i64 b2])).run P w = .ok (decide ((a1, a2) = (b1, b2))) w := run_eqPair (d := 9998) u ht s ui (a1, a2) (b1, b2) w
  rw [bind_ok h1]
  rfl
theorem Q.neqP {t t2 el : TypeId} {ki : IntKind} {x y : Operand} {a1 a2 b1 b2 : Int} (hx : ev e x = some (.agg #[.int .i64 a1, .int .i64 a2])) (hy : ev e y = some (.agg #[.int .i64 b1, .int .i64 b2])) (u : Und P t (.array 2 el)) (ht : IsAgg P el false) (s : TySize P el 1) (ui : Und P el (.int ki)) (hg : P.eqGuardType P.depth t = false) :
    Quiet P ops ⟨d, .binOp .neq t x y t2, ty, pos, aft, none⟩ e o r (.bool (!decide ((a1, a2) = (b1, b2)))) := .mk fun s' w he _ => by
  simp only [execOp, ev_rel he hx, ev_rel he hy]
  refine run_val ?_
  rw [bind_ok (run_guardAgg hg (.inr rfl) w)]
  unfold binOp
  simp only
  have h1 : (Op.equal t (.agg #[.int .i64 a1, .int .i64 a2]) (.agg #[.int .i64 b1, .int .i64 b2])).run P w = .ok (decide ((a1, a2) = (b1, b2))) w := run_eqPair (d := 9998) u ht s ui (a1, a2) (b1, b2) w
  rw [bind_ok h1]
  rfl
end
end Go.X

/- Chains of signed readings, in plain numbers and lists. No condition. -/
set_option linter.unusedVariables false
namespace Go.X
structure MRd where
  meter : Int
  hour : Int
  value : Int
deriving DecidableEq
instance : Inhabited MRd := ⟨⟨0, 0, 0⟩⟩
structure MLink where
  rd : MRd
  sign : Int
deriving DecidableEq
instance : Inhabited MLink := ⟨⟨default, 0⟩⟩
def mixP (x y : Int) : Int :=
  xorI .u64 (IntKind.wrap .u64 (xorI .u64 (IntKind.wrap .u64 (xorI .u64 x y * 11400714819323198485)) (shrI .u64 (IntKind.wrap .u64 (xorI .u64 x y * 11400714819323198485)) 29) * 13787848793156543929))
    (shrI .u64 (IntKind.wrap .u64 (xorI .u64 (IntKind.wrap .u64 (xorI .u64 x y * 11400714819323198485)) (shrI .u64 (IntKind.wrap .u64 (xorI .u64 x y * 11400714819323198485)) 29) * 13787848793156543929)) 32)
def sigP (key last : Int) (r : MRd) : Int := mixP (mixP (mixP (mixP last (u64 r.meter)) (u64 r.hour)) (u64 r.value)) key
def keyR (r : MRd) : Int × Int := (r.meter, r.hour)
def seenL (rs : List MRd) : List ((Int × Int) × Value) := rs.map fun r => (keyR r, Value.bool true)
def badRd (r : MRd) : Prop := ¬ inA 63 [r.meter] = true ∨ ¬ inA 1000000000 [r.hour, r.value] = true
instance (r : MRd) : Decidable (badRd r) := by unfold badRd; infer_instance
def dupR (rs : List MRd) (r : MRd) : Bool := rs.any fun x => decide (keyR r = keyR x)
def errR (rs : List MRd) (r : MRd) : Int := if badRd r then 6 else if dupR rs r = true then 110 else 0
theorem get_seen (rs : List MRd) (r : MRd) : (getM (keyR r) (seenL rs)).getD (.bool false) = .bool (dupR rs r) := by
  induction rs with
  | nil => rfl
  | cons x rs ih =>
    unfold seenL dupR at *
    rw [List.map_cons, getM, List.any_cons]
    by_cases h : keyR r = keyR x
    · rw [if_pos h]; simp [h]
    · rw [if_neg h, ih]; simp [h]
theorem put_seen {rs : List MRd} {r : MRd} (h : dupR rs r = false) : putM (keyR r) (.bool true) (seenL rs) = seenL (rs ++ [r]) := by
  induction rs with
  | nil => rfl
  | cons x rs ih =>
    unfold seenL dupR at *
    rw [List.any_cons, Bool.or_eq_false_iff, decide_eq_false_iff_not] at h
    rw [List.map_cons, putM, if_neg h.1, ih h.2]; rfl
def lastS (key : Int) (l : List MRd) : Nat → Int
  | 0 => mixP key 1
  | i + 1 => sigP key (lastS key l i) (l.getD i default)
def errAt (l : List MRd) (i : Nat) : Int := errR (l.take i) (l.getD i default)
def linkAt (key : Int) (l : List MRd) (i : Nat) : MLink := ⟨l.getD i default, lastS key l (i + 1)⟩
def links (key : Int) (l : List MRd) (n : Nat) : List MLink := (List.range n).map (linkAt key l)
theorem links_snoc (key : Int) (l : List MRd) (n : Nat) : links key l (n + 1) = links key l n ++ [linkAt key l n] := by
  rw [links, links, List.range_succ, List.map_append]; rfl
theorem links_len (key : Int) (l : List MRd) (n : Nat) : (links key l n).length = n := by rw [links, List.length_map, List.length_range]
/-- The first number that is not zero. -/
def scanTo (f : Nat → Int) : Nat → Option Nat
  | 0 => none
  | n + 1 => match scanTo f n with
    | some i => some i
    | none => if f n ≠ 0 then some n else none
theorem scan_all {f : Nat → Int} : ∀ {n : Nat}, (∀ j, j < n → f j = 0) → scanTo f n = none
  | 0, _ => rfl
  | n + 1, h => by
    rw [scanTo, scan_all fun j hj => h j (by omega)]
    simp [h n (by omega)]
theorem scan_here {f : Nat → Int} {i : Nat} (h : ∀ j, j < i → f j = 0) (hf : f i ≠ 0) : ∀ {n : Nat}, i < n → scanTo f n = some i
  | 0, hi => by omega
  | n + 1, hi => by
    rcases Nat.lt_or_ge i n with h2 | h2
    · rw [scanTo, scan_here h hf h2]
    · obtain rfl : i = n := by omega
      rw [scanTo, scan_all h]
      simp [hf]
theorem scan_none {f : Nat → Int} : ∀ {n : Nat}, scanTo f n = none → ∀ j, j < n → f j = 0
  | 0, _, j, hj => by omega
  | n + 1, h, j, hj => by
    rw [scanTo] at h
    split at h
    · cases h
    · rename_i h2
      split at h
      · cases h
      · rename_i h3
        rcases Nat.lt_or_ge j n with h4 | h4
        · exact scan_none h2 j h4
        · obtain rfl : j = n := by omega
          exact Decidable.of_not_not h3
def signG (key : Int) (l : List MRd) : List MLink × Int :=
  if (4096 : Int) < l.length then ([], 2) else match scanTo (errAt l) l.length with
    | some i => ([], errAt l i)
    | none => (links key l l.length, 0)
def rdsL (ls : List MLink) : List MRd := ls.map (·.rd)
theorem rds_at {ls : List MLink} {i : Nat} (hi : i < ls.length) : (rdsL ls).getD i default = (ls.getD i default).rd := by
  rw [rdsL, List.getD_eq_getElem?_getD, List.getElem?_map, List.getD_eq_getElem?_getD, List.getElem?_eq_getElem hi]; rfl
def chkF (key : Int) (ls : List MLink) (sg : Bool) (i : Nat) : Int :=
  if errAt (rdsL ls) i ≠ 0 then errAt (rdsL ls) i else if sg = true ∧ lastS key (rdsL ls) (i + 1) ≠ (ls.getD i default).sign then 7 else 0
def checkG (key : Int) (ls : List MLink) (sg : Bool) : Int × Int :=
  if (4096 : Int) < ls.length then (0, 2) else match scanTo (chkF key ls sg) ls.length with
    | some i => ((i : Int), chkF key ls sg i)
    | none => ((ls.length : Int), 0)
def meterV (rs : List MRd) (m : Int) (j : Nat) : Int := if (rs.getD j default).meter = m then (rs.getD j default).value else 0
def sumM (rs : List MRd) (m : Int) (n : Nat) : Int := sumTo (meterV rs m) n
def hasM (rs : List MRd) (m : Int) : Bool := rs.any fun r => decide (r.meter = m)
def tabTo (rs : List MRd) : Nat → List (Int × Int)
  | 0 => []
  | m + 1 => if hasM rs m = true then tabTo rs m ++ [((m : Int), sumM rs m rs.length)] else tabTo rs m
def tableG (ls : List MLink) : List (Int × Int) × Int := if (checkG 0 ls false).2 ≠ 0 then ([], (checkG 0 ls false).2) else (tabTo (rdsL ls) 64, 0)
def msumTo (rs : List MRd) : Nat → List (Int × Value)
  | 0 => []
  | i + 1 => putM (rs.getD i default).meter (.int .i64 (sumM rs (rs.getD i default).meter i + (rs.getD i default).value)) (msumTo rs i)
theorem getM_putM {κ : Type} [DecidableEq κ] (x y : κ) (u : Value) : ∀ es : List (κ × Value), getM y (putM x u es) = if y = x then some u else getM y es
  | [] => by simp only [putM, getM]
  | (k, v) :: r => by
    rw [putM]
    by_cases h : x = k
    · subst h
      rw [if_pos rfl, getM, getM]
      split <;> rfl
    · rw [if_neg h, getM, getM, getM_putM x y u r]
      by_cases h2 : y = k
      · subst h2
        rw [if_pos rfl, if_pos rfl, if_neg (Ne.symm h)]
      · rw [if_neg h2, if_neg h2]
theorem take_snocR {l : List MRd} {i : Nat} (hi : i < l.length) : l.take (i + 1) = l.take i ++ [l.getD i default] := by
  rw [List.take_add_one, List.getElem?_eq_getElem hi, List.getD_eq_getElem?_getD, List.getElem?_eq_getElem hi]; rfl
theorem hasM_snoc (l : List MRd) (r : MRd) (m : Int) : hasM (l ++ [r]) m = (hasM l m || decide (r.meter = m)) := by
  rw [hasM, List.any_append, List.any_cons, List.any_nil, Bool.or_false]; rfl
theorem get_msum (rs : List MRd) (m : Int) : ∀ i, i ≤ rs.length → getM m (msumTo rs i) = if hasM (rs.take i) m = true then some (.int .i64 (sumM rs m i)) else none
  | 0, _ => by rw [msumTo, getM, List.take_zero]; rfl
  | i + 1, hi => by
    rw [msumTo, getM_putM, get_msum rs m i (by omega), take_snocR (by omega), hasM_snoc]
    have e : sumM rs m (i + 1) = sumM rs m i + meterV rs m i := rfl
    by_cases h : m = (rs.getD i default).meter
    · rw [if_pos h, if_pos (by simp [h])]
      subst h
      rw [e, meterV, if_pos rfl]
    · rw [if_neg h, e, meterV, if_neg (Ne.symm h), Int.add_zero]
      have : decide ((rs.getD i default).meter = m) = false := decide_eq_false (Ne.symm h)
      rw [this, Bool.or_false]
theorem sum_zeroR {f : Nat → Int} : ∀ {n : Nat}, (∀ j, j < n → f j = 0) → sumTo f n = 0
  | 0, _ => rfl
  | n + 1, h => by rw [sumTo, sum_zeroR fun j hj => h j (by omega), h n (by omega)]; rfl
theorem sum_absent {rs : List MRd} {m : Int} {n : Nat} (hn : n ≤ rs.length) (h : hasM (rs.take n) m = false) : sumM rs m n = 0 := by
  refine sum_zeroR fun j hj => ?_
  rw [meterV, if_neg]
  intro hm
  rw [hasM, List.any_eq_false] at h
  refine h (rs.getD j default) ?_ (by rw [decide_eq_true_eq]; exact hm)
  rw [List.getD_eq_getElem?_getD, List.getElem?_eq_getElem (by omega)]
  exact List.mem_take_iff_getElem.2 ⟨j, by omega, rfl⟩
theorem get_msum0 {rs : List MRd} {m : Int} {i : Nat} (hi : i ≤ rs.length) : (getM m (msumTo rs i)).getD (.int .i64 0) = .int .i64 (sumM rs m i) := by
  rw [get_msum rs m i hi]
  split
  · rfl
  · rename_i h
    rw [sum_absent hi (by simpa using h)]; rfl
theorem has_some {rs : List MRd} {m : Int} : (getM m (msumTo rs rs.length)).isSome = hasM rs m := by
  rw [get_msum rs m _ (Nat.le_refl _), List.take_length]
  cases hasM rs m <;> rfl
end Go.X

/- Structs that hold structs of numbers, compared. No condition. -/
set_option linter.unusedSimpArgs false
set_option linter.unusedVariables false
namespace Go.X
/-- The fields of a struct, some of which are structs of numbers. -/
inductive EqG (P : Program) (d : Nat) (xs ys : Array Value) : List Field → Bool → Prop
  | n : EqG P d xs ys [] true
  | c {f : Field} {fs : List Field} {k k' : IntKind} {m n : Int} {r : Bool} (hn : (f.name == "_") = false) (ht : IsAgg P f.type false) (u : Und P f.type (.int k')) (hx : xs[f.offset]? = some (.int k m)) (hy : ys[f.offset]? = some (.int k n)) (hr : EqG P d xs ys fs r) : EqG P d xs ys (f :: fs) (decide (m = n) && r)
  | s {f : Field} {fs gs : List Field} {n : Nat} {us vs : Array Value} {r q : Bool} (hn : (f.name == "_") = false) (ht : IsAgg P f.type true) (z : TySize P f.type n) (u : Und P f.type (.struct gs.toArray)) (hs : P.stoodInHeld f.type = false)
      (hx : xs.extract f.offset (f.offset + n) = us) (hy : ys.extract f.offset (f.offset + n) = vs) (hq : EqF P (d + 1) us vs gs q) (hr : EqG P d xs ys fs r) : EqG P d xs ys (f :: fs) (q && r)
theorem run_partA {P : Program} {t : TypeId} {n : Nat} [ht : IsAgg P t true] [z : TySize P t n] {xs us : Array Value} {i : Nat} (h : xs.extract i (i + n) = us) (w : World) : (part t xs i).run P w = .ok (.agg us) w := by
  unfold part
  rw [bind_ok (ht.pf w)]
  simp only [if_true]
  rw [bind_ok (z.pf w), h]
  rfl
theorem eqG_loop {P : Program} {d : Nat} {xs ys : Array Value} {fs : List Field} {r : Bool} (h : EqG P d xs ys fs r) (w : World) :
    (forIn (m := Sem) fs ((none, ()) : Option Bool × Unit) fun f __s =>
                  if f.name ≠ "_" then do
                    let __do_lift ← part f.type xs f.offset
                    let __do_lift_1 ← part f.type ys f.offset
                    let __do_lift ← Op.equalIn (d + 2) f.type __do_lift __do_lift_1
                    if (!__do_lift) = true then pure (ForInStep.done (some false, ()))
                      else pure (ForInStep.yield (none, ()))
                  else pure (ForInStep.yield (none, ()))).run P w = .ok (if r = true then (none, ()) else (some false, ())) w := by
  induction h with
  | n => rfl
  | @c f fs k k' m n r hn ht u hx hy hr ih =>
    rw [List.forIn_cons, if_pos (by intro h; rw [h] at hn; simp at hn)]
    by_cases hmn : m = n
    · subst hmn
      rw [bind_ok (a := ForInStep.yield (none, ())) (w1 := w)]
      · simp only
        rw [ih]; simp
      · rw [bind_ok (run_part (ht := ht) hx w), bind_ok (run_part (ht := ht) hy w), bind_ok (run_eqInt (u := u) w)]
        simp only [beq_self_eq_true, Bool.not_true, Bool.false_eq_true, if_false]
        rfl
    · rw [bind_ok (a := ForInStep.done (some false, ())) (w1 := w)]
      · simp only [hmn, decide_false, Bool.false_and, Bool.false_eq_true, if_false]
        rfl
      · rw [bind_ok (run_part (ht := ht) hx w), bind_ok (run_part (ht := ht) hy w), bind_ok (run_eqInt (u := u) w)]
        have : (m == n) = false := by simp [hmn]
        simp only [this, Bool.not_false, if_true]
        rfl
  | @s f fs gs n us vs r q hn ht z u hs hx hy hq hr ih =>
    rw [List.forIn_cons, if_pos (by intro h; rw [h] at hn; simp at hn)]
    have he := run_eqStruct (d := d) u hs hq w
    cases q with
    | true =>
      rw [bind_ok (a := ForInStep.yield (none, ())) (w1 := w)]
      · simp only
        rw [ih]; simp
      · rw [bind_ok (run_partA (ht := ht) (z := z) hx w), bind_ok (run_partA (ht := ht) (z := z) hy w), bind_ok he]
        simp only [Bool.not_true, Bool.false_eq_true, if_false]
        rfl
    | false =>
      rw [bind_ok (a := ForInStep.done (some false, ())) (w1 := w)]
      · simp only [Bool.false_and, Bool.false_eq_true, if_false]
        rfl
      · rw [bind_ok (run_partA (ht := ht) (z := z) hx w), bind_ok (run_partA (ht := ht) (z := z) hy w), bind_ok he]
        simp only [Bool.not_false, if_true]
        rfl
theorem run_eqStructG {P : Program} {t : TypeId} {fs : List Field} (u : Und P t (.struct fs.toArray)) (hs : P.stoodInHeld t = false) {xs ys : Array Value} {d : Nat} {r : Bool} (h : EqG P d xs ys fs r) (w : World) :
    (Op.equalIn (d + 3) t (.agg xs) (.agg ys)).run P w = .ok r w := by
  unfold Op.equalIn
  rw [bind_ok (u.pf w)]
  simp only
  have hp : (program).run P w = .ok P w := rfl
  rw [bind_ok hp, if_neg (by rw [hs]; decide)]
  have hl := eqG_loop h w
  rw [bind_ok (a := (if r = true then (none, ()) else (some false, ()))) (w1 := w)]
  · cases r <;> rfl
  · simp only [List.forIn_toArray]
    exact hl
section
variable {P : Program} {ops : Array Oper} {e : Env} {o r : List PHeap} {d : Option Tmp} {ty : TypeId} {pos : String} {aft : Array Edge}
theorem Q.eqlG {t t2 : TypeId} {x y : Operand} {fs : List Field} {us vs : List Value} {b : Bool} (hx : ev e x = some (.agg us.toArray)) (hy : ev e y = some (.agg vs.toArray)) (u : Und P t (.struct fs.toArray)) (hs : P.stoodInHeld t = false) (hg : P.eqGuardType P.depth t = false)
    (h : EqG P 9997 us.toArray vs.toArray fs b) : Quiet P ops ⟨d, .binOp .eql t x y t2, ty, pos, aft, none⟩ e o r (.bool b) := .mk fun a w he _ => by
  simp only [execOp, ev_rel he hx, ev_rel he hy]
  refine run_val ?_
  rw [bind_ok (run_guardAgg hg (.inl rfl) w)]
  unfold binOp
  simp only
  have h1 : (Op.equal t (.agg us.toArray) (.agg vs.toArray)).run P w = .ok b w := run_eqStructG (d := 9997) u hs h w
  rw [bind_ok h1]
  rfl
theorem Q.neqG {t t2 : TypeId} {x y : Operand} {fs : List Field} {us vs : List Value} {b : Bool} (hx : ev e x = some (.agg us.toArray)) (hy : ev e y = some (.agg vs.toArray)) (u : Und P t (.struct fs.toArray)) (hs : P.stoodInHeld t = false) (hg : P.eqGuardType P.depth t = false)
    (h : EqG P 9997 us.toArray vs.toArray fs b) : Quiet P ops ⟨d, .binOp .neq t x y t2, ty, pos, aft, none⟩ e o r (.bool (!b)) := .mk fun a w he _ => by
  simp only [execOp, ev_rel he hx, ev_rel he hy]
  refine run_val ?_
  rw [bind_ok (run_guardAgg hg (.inr rfl) w)]
  unfold binOp
  simp only
  have h1 : (Op.equal t (.agg us.toArray) (.agg vs.toArray)).run P w = .ok b w := run_eqStructG (d := 9997) u hs h w
  rw [bind_ok h1]
  rfl
end
end Go.X

/- Chains that were changed: what Verify says of them. No condition. -/
set_option linter.unusedVariables false
namespace Go.X
structure RdsOk (rs : List MRd) : Prop where
  rng : ∀ i, i < rs.length → ¬ badRd (rs.getD i default)
  inj : ∀ a b, a < rs.length → b < rs.length → keyR (rs.getD a default) = keyR (rs.getD b default) → a = b
theorem RdsOk.err {rs : List MRd} (h : RdsOk rs) {i : Nat} (hi : i < rs.length) : errAt rs i = 0 := by
  unfold errAt errR
  rw [if_neg (h.rng i hi), if_neg]
  intro hd
  unfold dupR at hd
  rw [List.any_eq_true] at hd
  obtain ⟨x, hx, he⟩ := hd
  rw [decide_eq_true_eq] at he
  obtain ⟨k, hk, rfl⟩ := List.mem_take_iff_getElem.1 hx
  have : rs[k] = rs.getD k default := by rw [List.getD_eq_getElem?_getD, List.getElem?_eq_getElem (by omega)]; rfl
  rw [this] at he
  have := h.inj i k hi (by omega) he
  omega
theorem sign_fine {key : Int} {rs : List MRd} (h : RdsOk rs) (hn : rs.length ≤ 4096) : signG key rs = (links key rs rs.length, 0) := by
  rw [signG, if_neg (by omega), scan_all (fun j hj => h.err hj)]
theorem links_at {key : Int} {rs : List MRd} {n i : Nat} (hi : i < n) : (links key rs n).getD i default = linkAt key rs i := by
  rw [links, List.getD_eq_getElem?_getD, List.getElem?_map, List.getElem?_range hi]; rfl
theorem rds_links (key : Int) (rs : List MRd) : rdsL (links key rs rs.length) = rs := by
  refine List.ext_getElem (by rw [rdsL, List.length_map, links_len]) fun i h1 h2 => ?_
  simp only [rdsL, links, List.getElem_map, List.getElem_range, linkAt]
  rw [List.getD_eq_getElem?_getD, List.getElem?_eq_getElem h2]; rfl
theorem rdsL_len (ls : List MLink) : (rdsL ls).length = ls.length := by rw [rdsL, List.length_map]
theorem chk_link {key : Int} {L : List MLink} (h : RdsOk (rdsL L)) {i : Nat} (hi : i < L.length) : chkF key L true i = if L.getD i default = linkAt key (rdsL L) i then 0 else 7 := by
  unfold chkF
  rw [if_neg (by rw [h.err (by rw [rdsL_len]; exact hi)]; decide)]
  have hr := rds_at hi
  unfold linkAt
  rw [hr]
  cases hx : L.getD i default with
  | mk rd sg =>
    simp only [MLink.mk.injEq, true_and]
    by_cases hs : lastS key (rdsL L) (i + 1) = sg
    · rw [if_neg (fun h => h hs), if_pos hs.symm]
    · rw [if_pos hs, if_neg (fun h => hs h.symm)]
theorem verify_first {key : Int} {L : List MLink} (h : RdsOk (rdsL L)) (hn : L.length ≤ 4096) {i : Nat} (hi : i < L.length) (he : ∀ j, j < i → L.getD j default = linkAt key (rdsL L) j) (hne : ¬ L.getD i default = linkAt key (rdsL L) i) : checkG key L true = ((i : Int), 7) := by
  have e1 : chkF key L true i = 7 := by rw [chk_link h hi, if_neg hne]
  rw [checkG, if_neg (by omega), scan_here (fun j hj => by rw [chk_link h (by omega), if_pos (he j hj)]) (by rw [e1]; decide) hi]
  (try dsimp only)
  rw [e1]
theorem verify_all {key : Int} {L : List MLink} (h : RdsOk (rdsL L)) (hn : L.length ≤ 4096) (he : ∀ j, j < L.length → L.getD j default = linkAt key (rdsL L) j) : checkG key L true = ((L.length : Int), 0) := by
  rw [checkG, if_neg (by omega), scan_all (fun j hj => by rw [chk_link h hj, if_pos (he j hj)])]
theorem verify_own {key : Int} {rs : List MRd} (h : RdsOk rs) (hn : rs.length ≤ 4096) : checkG key (links key rs rs.length) true = ((rs.length : Int), 0) := by
  have := verify_all (key := key) (L := links key rs rs.length) (by rw [rds_links]; exact h) (by rw [links_len]; exact hn) (fun j hj => by rw [links_len] at hj; rw [rds_links, links_at hj])
  rwa [links_len] at this
/-! ### changes -/
theorem RdsOk.of {rs qs : List MRd} (h : RdsOk rs) (f : Nat → Nat) (hf : ∀ a, a < qs.length → f a < rs.length ∧ qs.getD a default = rs.getD (f a) default) (hi : ∀ a b, a < qs.length → b < qs.length → f a = f b → a = b) : RdsOk qs where
  rng i hi' := by rw [(hf i hi').2]; exact h.rng _ (hf i hi').1
  inj a b ha hb he := by
    rw [(hf a ha).2, (hf b hb).2] at he
    exact hi a b ha hb (h.inj _ _ (hf a ha).1 (hf b hb).1 he)
theorem getD_setL {L : List MLink} {i a : Nat} {x : MLink} (hi : i < L.length) : (L.set i x).getD a default = if a = i then x else L.getD a default := by
  rw [List.getD_eq_getElem?_getD, List.getElem?_set]
  by_cases h : i = a
  · subst h
    rw [if_pos rfl, if_pos hi, if_pos rfl]; rfl
  · rw [if_neg h, if_neg (Ne.symm h), List.getD_eq_getElem?_getD]
theorem ok_swap {L : List MLink} (h : RdsOk (rdsL L)) {i k : Nat} (hi : i < L.length) (hk : k < L.length) : RdsOk (rdsL ((L.set i (L.getD k default)).set k (L.getD i default))) := by
  have hl : ((L.set i (L.getD k default)).set k (L.getD i default)).length = L.length := by rw [List.length_set, List.length_set]
  refine h.of (fun a => if a = k then i else if a = i then k else a) (fun a ha => ?_) (fun a b ha hb => ?_)
  · rw [rdsL_len, hl] at ha
    rw [rdsL_len]
    refine ⟨?_, ?_⟩
    · (try dsimp only)
      split
      · exact hi
      · split
        · exact hk
        · exact ha
    · rw [rds_at (by rw [hl]; exact ha), getD_setL (by rw [List.length_set]; exact hk), getD_setL hi]
      (try dsimp only)
      split
      · rw [rds_at hi]
      · split
        · rw [rds_at hk]
        · rw [rds_at ha]
  · intro he
    (try dsimp only at he)
    split at he <;> split at he <;> (try split at he) <;> (try split at he) <;> omega
theorem getD_erase {L : List MLink} {i a : Nat} (hi : i < L.length) (ha : a + 1 < L.length) : (L.take i ++ L.drop (i + 1)).getD a default = L.getD (if a < i then a else a + 1) default := by
  rw [List.getD_eq_getElem?_getD, List.getElem?_append]
  have hl : (L.take i).length = i := by rw [List.length_take]; omega
  rw [hl]
  by_cases h : a < i
  · rw [if_pos h, if_pos h, List.getElem?_take, if_pos h, List.getD_eq_getElem?_getD]
  · rw [if_neg h, if_neg h, List.getElem?_drop, List.getD_eq_getElem?_getD]
    congr 2
    omega
theorem erase_len {L : List MLink} {i : Nat} (hi : i < L.length) : (L.take i ++ L.drop (i + 1)).length = L.length - 1 := by
  rw [List.length_append, List.length_take, List.length_drop]; omega
theorem ok_erase {L : List MLink} (h : RdsOk (rdsL L)) {i : Nat} (hi : i < L.length) : RdsOk (rdsL (L.take i ++ L.drop (i + 1))) := by
  have hl := erase_len hi
  refine h.of (fun a => if a < i then a else a + 1) (fun a ha => ?_) (fun a b ha hb => ?_)
  · rw [rdsL_len, hl] at ha
    rw [rdsL_len]
    have hb : (if a < i then a else a + 1) < L.length := by split <;> omega
    refine ⟨hb, ?_⟩
    rw [rds_at (by rw [hl]; exact ha), getD_erase hi (by omega), rds_at hb]
  · intro he
    (try dsimp only at he)
    split at he <;> split at he <;> omega
theorem ok_sign {L : List MLink} {i : Nat} {s : Int} (hi : i < L.length) (h : RdsOk (rdsL L)) : RdsOk (rdsL (L.set i ⟨(L.getD i default).rd, s⟩)) := by
  have hl : (L.set i ⟨(L.getD i default).rd, s⟩).length = L.length := List.length_set ..
  refine h.of (fun a => a) (fun a ha => ?_) (fun a b _ _ he => he)
  rw [rdsL_len, hl] at ha
  rw [rdsL_len]
  refine ⟨ha, ?_⟩
  rw [rds_at (by rw [hl]; exact ha), getD_setL hi, rds_at ha]
  split
  · rename_i h2; subst h2; rfl
  · rfl
theorem ok_value {L : List MLink} {i : Nat} {s : Int} (hi : i < L.length) (h : RdsOk (rdsL L)) (hv : (L.getD i default).rd.value ≤ 1000) : RdsOk (rdsL (L.set i ⟨⟨(L.getD i default).rd.meter, (L.getD i default).rd.hour, (L.getD i default).rd.value + 1⟩, s⟩)) := by
  obtain ⟨x, hx⟩ : ∃ x : MLink, x = ⟨⟨(L.getD i default).rd.meter, (L.getD i default).rd.hour, (L.getD i default).rd.value + 1⟩, s⟩ := ⟨_, rfl⟩
  rw [← hx]
  have hl : (L.set i x).length = L.length := List.length_set ..
  have hk : ∀ a, a < L.length → keyR ((rdsL (L.set i x)).getD a default) = keyR ((rdsL L).getD a default) := fun a ha => by
    rw [rds_at (by rw [hl]; exact ha), getD_setL hi, rds_at ha]
    split
    · rename_i h2; subst h2; rw [hx]; rfl
    · rfl
  refine ⟨fun a ha => ?_, fun a b ha hb he => ?_⟩
  · rw [rdsL_len, hl] at ha
    rw [rds_at (by rw [hl]; exact ha), getD_setL hi]
    have h0 := h.rng a (by rw [rdsL_len]; exact ha)
    rw [rds_at ha] at h0
    split
    · rename_i h2
      subst h2
      rw [hx]
      unfold badRd at h0 ⊢
      rw [inA_one, inA_two] at h0 ⊢
      dsimp only at h0 ⊢
      omega
    · exact h0
  · rw [rdsL_len, hl] at ha hb
    rw [hk a ha, hk b hb] at he
    exact h.inj a b (by rw [rdsL_len]; exact ha) (by rw [rdsL_len]; exact hb) he
end Go.X

/- A part of a slice that is taken out in place: append onto a cut of itself, and clear. No condition. -/
set_option linter.unusedSimpArgs false
set_option linter.unusedVariables false
namespace Go.X
section
variable {P : Program} {ops : Array Oper} {e : Env} {o r : List PHeap} {d : Option Tmp} {ty : TypeId} {pos : String} {aft : Array Edge}
variable {α : Type} {enc : α → List Value} {sz : Nat} {h : PHeap} {xs : List α} {v : Value}
/-- What stands in the array when 'ys' is laid at 'i'. -/
theorem lay {b c i : Nat} {cs : List Value} {T : TypeId} {ys : List α} (henc : ∀ x, (enc x).length = sz) (hm : xs.length ≤ 140737488355328 ∧ ∀ x ∈ xs, ∀ cc ∈ enc x, one cc = true) (hy : ∀ y ∈ ys, ∀ cc ∈ enc y, one cc = true) (hle : xs.length ≤ c) (hlen : cs.length = c * sz) (ht : cs.take (xs.length * sz) = xs.flatMap enc) (hi : i + ys.length ≤ xs.length) :
    OArr (.slice (some ⟨b, 0, none⟩) xs.length c) enc sz T (blk b (cs.take (i * sz) ++ ys.flatMap enc ++ cs.drop (i * sz + ys.length * sz)) T) (xs.take i ++ ys ++ xs.drop (i + ys.length)) := by
  have hZ : (ys.flatMap enc).length = ys.length * sz := flat_len henc ys
  have hmul1 : i * sz + ys.length * sz ≤ xs.length * sz := by rw [← Nat.add_mul]; exact Nat.mul_le_mul_right _ (by omega)
  have hmul2 : xs.length * sz ≤ c * sz := Nat.mul_le_mul_right _ hle
  have hlen' : (xs.take i ++ ys ++ xs.drop (i + ys.length)).length = xs.length := by
    simp only [List.length_append, List.length_take, List.length_drop]; omega
  refine ⟨henc, ⟨by rw [hlen']; exact hm.1, fun y hy' cc hcc => ?_⟩, .inr ⟨b, c, _, by rw [hlen'], rfl, by rw [hlen']; exact hle, ?_, ?_⟩⟩
  · rcases List.mem_append.1 hy' with h1 | h1
    · rcases List.mem_append.1 h1 with h2 | h2
      · exact hm.2 y (List.mem_of_mem_take h2) cc hcc
      · exact hy y h2 cc hcc
    · exact hm.2 y (List.mem_of_mem_drop h1) cc hcc
  · simp only [List.length_append, List.length_take, List.length_drop, hZ]; omega
  · rw [hlen']
    rw [List.flatMap_append, List.flatMap_append, flat_take henc xs, flat_drop henc xs, ← ht, Nat.add_mul]
    rw [List.take_append, List.take_append]
    simp only [List.length_append, List.length_take, hZ]
    rw [List.take_of_length_le (l := cs.take (i * sz)) (by rw [List.length_take]; omega), List.take_of_length_le (l := ys.flatMap enc) (by rw [hZ]; omega)]
    congr 1
    · congr 1
      rw [List.take_take, Nat.min_eq_left (by omega)]
    · rw [List.drop_take]
      congr 1
      omega
theorem Stp0.appendC {t0 t1 el el1 T : TypeId} [u : Und P t0 (.slice el)] [u1 : Und P t1 (.slice el1)] [z : TySize P el sz] {by' : Nat} [tb : TyBytes P el by'] {x y : Operand} {vd v2 : Value} {i j : Nat} {o1 : List PHeap} (hx : ev e x = some vd) (hd : vd = cutv v sz 0 i) (hy : ev e y = some v2) (hd2 : v2 = cutv v sz j xs.length)
    [s : OArr v enc sz T h xs] [tk : Take h o o1] (hij : i ≤ j) (hj : j ≤ xs.length) (hp : 0 < xs.length) (hby : Nat.ble by' 128 = true) (hn : xs.length ≤ 68719476736) :
    Stp0 P ops ⟨d, .call ⟨.builtin .append, #[x, y], #[t0, t1]⟩, ty, pos, aft, none⟩ e o r (fun v' o2 => ∃ h', v' = cutv v sz 0 (i + (xs.length - j)) ∧ OArr v enc sz T h' (xs.take i ++ xs.drop j ++ xs.drop (i + (xs.length - j))) ∧ o2 = h' :: o1) := fun a w he hs => by
  subst hd hd2
  have hs1 := hs.perm tk.pf
  have hb := Nat.le_of_ble_eq_true hby
  have hx' := ev_rel he hx
  have hy' := ev_rel he hy
  have sA : Arr v enc sz h xs := OArr.arr (s := s)
  have sC := Arr.cut sA (i := j) (j := xs.length) hj (Nat.le_refl _)
  have hall : (xs.drop j).take (xs.length - j) = xs.drop j := List.take_of_length_le (by rw [List.length_drop]; omega)
  rw [hall] at sC
  have hl2 : (xs.drop j).length = xs.length - j := List.length_drop ..
  have hcells := Arr.cells (P := P) sC (hs1.so h List.mem_cons_self) (xs.length - j) (by omega)
  rw [List.take_of_length_le (by omega)] at hcells
  obtain ⟨henc, hm, ⟨rfl, rfl, rfl⟩ | ⟨b, c, cs, rfl, rfl, hle, hlen, ht⟩⟩ := s.pf
  · simp at hp
  · have hc0 : ¬ c = 0 := by omega
    have e1 : cutv (.slice (some ⟨b, 0, none⟩) xs.length c) sz 0 i = .slice (some ⟨b, 0, none⟩) i c := by
      simp only [cutv, if_neg hc0, Option.map_some, Nat.zero_mul, Nat.sub_zero]; rfl
    have e3 : cutv (.slice (some ⟨b, 0, none⟩) xs.length c) sz 0 (i + (xs.length - j)) = .slice (some ⟨b, 0, none⟩) (i + (xs.length - j)) c := by
      simp only [cutv, if_neg hc0, Option.map_some, Nat.zero_mul, Nat.sub_zero]; rfl
    obtain ⟨b2, c2, e2⟩ : ∃ b2 c2, cutv (.slice (some ⟨b, 0, none⟩) xs.length c) sz j xs.length = .slice b2 (xs.length - j) c2 := ⟨_, _, rfl⟩
    rw [e1] at hx'
    rw [e2] at hy' hcells
    rw [e3]
    have hh : w.heap[b]? = some (.cells cs.toArray T (0, 0)) := hs1.so _ List.mem_cons_self b _ (sing_self _ _)
    have hones : ∀ v ∈ (xs.drop j).flatMap enc, one v = true := fun v hv => by
      obtain ⟨y, hy1, hy2⟩ := List.mem_flatMap.1 hv
      exact hm.2 y (List.mem_of_mem_drop hy1) v hy2
    have hZ : ((xs.drop j).flatMap enc).length = (xs.length - j) * sz := by rw [flat_len henc, hl2]
    have hmul1 : i * sz + (xs.length - j) * sz ≤ xs.length * sz := by rw [← Nat.add_mul]; exact Nat.mul_le_mul_right _ (by omega)
    have hmul2 : xs.length * sz ≤ c * sz := Nat.mul_le_mul_right _ hle
    obtain ⟨w', h1, h2, h3, h4⟩ := run_storeCells (P := P) (b := b) (k := i * sz) (T := T) ((xs.drop j).flatMap enc) 0 w cs hones hh (by omega)
    have hrun : (Builtin.append_ #[t0, t1] ty #[.slice (some ⟨b, 0, none⟩) i c, .slice b2 (xs.length - j) c2]).run P w = .ok (.slice (some ⟨b, 0, none⟩) (i + (xs.length - j)) c) w' := by
      rw [run_append (tb := tb) hb (by omega), if_pos (by omega), bind_ok hcells]
      simp only [add_none, Nat.zero_add]
      rw [bind_ok h1]
      rfl
    have hO := lay (b := b) (T := T) (i := i) (ys := xs.drop j) henc hm (fun y hy cc hcc => hm.2 y (List.mem_of_mem_drop hy) cc hcc) hle hlen ht (by omega)
    rw [hl2] at hO
    unfold Does
    simp only [Region.wanted, if_true, execOp, resolve, List.map_toArray, List.map_cons, List.map_nil, hx', hy']
    rw [bind_ok (a := _) (w1 := w) rfl]
    simp only [invoke, builtin]
    rw [run_val hrun]
    simp only [Nat.add_zero, hZ] at h2
    refine ⟨_ :: o1, ⟨_, rfl, hO, rfl⟩, Sep.swap hs1 ?_ ?_ ?_ rfl h4⟩
    · exact fun x hx => none_blk (blk_none hx)
    · intro x ob hb
      obtain ⟨rfl, rfl⟩ := sing_some hb
      exact h2
    · exact fun x hx => h3 x (blk_none hx)
theorem Stp.appendC {t0 t1 el el1 T : TypeId} [u : Und P t0 (.slice el)] [u1 : Und P t1 (.slice el1)] [z : TySize P el sz] {by' : Nat} [tb : TyBytes P el by'] {x y : Operand} {vd v2 : Value} {i j : Nat} {o1 : List PHeap} (hx : ev e x = some vd) (hd : vd = cutv v sz 0 i) (hy : ev e y = some v2) (hd2 : v2 = cutv v sz j xs.length)
    [s : OArr v enc sz T h xs] [tk : Take h o o1] (hij : i ≤ j) (hj : j ≤ xs.length) (hp : 0 < xs.length) (hby : Nat.ble by' 128 = true) (hn : xs.length ≤ 68719476736) :
    Stp P ops ⟨d, .call ⟨.builtin .append, #[x, y], #[t0, t1]⟩, ty, pos, aft, none⟩ e o r (fun v' o2 => ∃ h', v' = cutv v sz 0 (i + (xs.length - j)) ∧ OArr v enc sz T h' (xs.take i ++ xs.drop j ++ xs.drop (i + (xs.length - j))) ∧ o2 = h' :: o1) := fun D a w he hs =>
  (Stp0.appendC (tk := tk.more D) hx hd hy hd2 hij hj hp hby hn a w he hs).mono fun v w' ⟨o2, ⟨h', h1, h2, h3⟩, hs'⟩ => ⟨o2, ⟨h' :: o1, ⟨h', h1, h2, rfl⟩, by rw [h3]; exact List.Perm.swap _ _ _⟩, hs'⟩
theorem Stp0.clearC {t0 el T : TypeId} [u : Und P t0 (.slice el)] [z : TySize P el sz] {zs : List Value} [zz : Zero P el zs] {x : Operand} {vd : Value} {i j m : Nat} {o1 : List PHeap} (zx : α) (hx : ev e x = some vd) (hd : vd = cutv v sz i j)
    [s : OArr v enc sz T h xs] [tk : Take h o o1] (hm' : j - i = m + 1) (hj : j ≤ xs.length) (hz : (Builtin.zeroCells zs.toArray (m + 1)).toList = (List.replicate (m + 1) zx).flatMap enc) (hone : ∀ cc ∈ enc zx, one cc = true) :
    Stp0 P ops ⟨d, .call ⟨.builtin .clear, #[x], #[t0]⟩, ty, pos, aft, none⟩ e o r (fun v' o2 => ∃ h', OArr v enc sz T h' (xs.take i ++ List.replicate (m + 1) zx ++ xs.drop (i + (m + 1))) ∧ o2 = h' :: o1) := fun a w he hs => by
  subst hd
  have hs1 := hs.perm tk.pf
  have hx' := ev_rel he hx
  obtain ⟨zv, hz1, hz2⟩ := zz.pf
  obtain ⟨henc, hm, ⟨rfl, rfl, rfl⟩ | ⟨b, c, cs, rfl, rfl, hle, hlen, ht⟩⟩ := s.pf
  · simp at hj; omega
  · have hci : ¬ c = i := by omega
    have e1 : cutv (.slice (some ⟨b, 0, none⟩) xs.length c) sz i j = .slice (some ⟨b, i * sz, none⟩) (m + 1) (c - i) := by
      simp only [cutv, if_neg hci, Option.map_some, hm', add_none, Nat.zero_add]
    rw [e1] at hx'
    have hh : w.heap[b]? = some (.cells cs.toArray T (0, 0)) := hs1.so _ List.mem_cons_self b _ (sing_self _ _)
    have hyo : ∀ y ∈ List.replicate (m + 1) zx, ∀ cc ∈ enc y, one cc = true := fun y hy cc hcc => by
      rw [List.eq_of_mem_replicate hy] at hcc; exact hone cc hcc
    have hones : ∀ v ∈ (List.replicate (m + 1) zx).flatMap enc, one v = true := fun v hv => by
      obtain ⟨y, hy1, hy2⟩ := List.mem_flatMap.1 hv
      exact hyo y hy1 v hy2
    have hZ : ((List.replicate (m + 1) zx).flatMap enc).length = (m + 1) * sz := by rw [flat_len henc, List.length_replicate]
    have hmul1 : i * sz + (m + 1) * sz ≤ xs.length * sz := by rw [← Nat.add_mul]; exact Nat.mul_le_mul_right _ (by omega)
    have hmul2 : xs.length * sz ≤ c * sz := Nat.mul_le_mul_right _ hle
    obtain ⟨w', h1, h2, h3, h4⟩ := run_storeCells (P := P) (b := b) (k := i * sz) (T := T) ((List.replicate (m + 1) zx).flatMap enc) 0 w cs hones hh (by omega)
    have hrun : (Builtin.clear_ #[t0] ty #[.slice (some ⟨b, i * sz, none⟩) (m + 1) (c - i)]).run P w = .ok (.tuple #[]) w' := by
      unfold Builtin.clear_
      simp only [List.getElem?_toArray, List.getElem?_cons_zero]
      rw [bind_ok (u.pf w)]
      simp only
      rw [bind_ok (hz1 w), hz2, hz, bind_ok h1]
      rfl
    have hO := lay (b := b) (T := T) (i := i) (ys := List.replicate (m + 1) zx) henc hm hyo hle hlen ht (by rw [List.length_replicate]; omega)
    rw [List.length_replicate] at hO
    unfold Does
    simp only [Region.wanted, if_true, execOp, resolve, List.map_toArray, List.map_cons, List.map_nil, hx']
    rw [bind_ok (a := _) (w1 := w) rfl]
    simp only [invoke, builtin]
    rw [run_val hrun]
    simp only [Nat.add_zero, hZ] at h2
    refine ⟨_ :: o1, ⟨_, hO, rfl⟩, Sep.swap hs1 ?_ ?_ ?_ rfl h4⟩
    · exact fun x hx => none_blk (blk_none hx)
    · intro x ob hb
      obtain ⟨rfl, rfl⟩ := sing_some hb
      exact h2
    · exact fun x hx => h3 x (blk_none hx)
theorem Stp.clearC {t0 el T : TypeId} [u : Und P t0 (.slice el)] [z : TySize P el sz] {zs : List Value} [zz : Zero P el zs] {x : Operand} {vd : Value} {i j m : Nat} {o1 : List PHeap} (zx : α) (hx : ev e x = some vd) (hd : vd = cutv v sz i j)
    [s : OArr v enc sz T h xs] [tk : Take h o o1] (hm' : j - i = m + 1) (hj : j ≤ xs.length) (hz : (Builtin.zeroCells zs.toArray (m + 1)).toList = (List.replicate (m + 1) zx).flatMap enc) (hone : ∀ cc ∈ enc zx, one cc = true) :
    Stp P ops ⟨d, .call ⟨.builtin .clear, #[x], #[t0]⟩, ty, pos, aft, none⟩ e o r (fun v' o2 => ∃ h', OArr v enc sz T h' (xs.take i ++ List.replicate (m + 1) zx ++ xs.drop (i + (m + 1))) ∧ o2 = h' :: o1) := fun D a w he hs =>
  (Stp0.clearC (tk := tk.more D) zx hx hd hm' hj hz hone a w he hs).mono fun v w' ⟨o2, ⟨h', h2, h3⟩, hs'⟩ => ⟨o2, ⟨h' :: o1, ⟨h', h2, rfl⟩, by rw [h3]; exact List.Perm.swap _ _ _⟩, hs'⟩
/-- s[:n][i:j], the end beyond the length. -/
theorem Q.cutW {t el T : TypeId} [u : Und P t (.slice el)] [z : TySize P el sz] {x lo hi : Operand} {kl kh : IntKind} {vd : Value} {n i j : Nat} {nl nh : Int} (hx : ev e x = some vd) (hd : vd = cutv v sz 0 n) [s : OArr v enc sz T h xs] (hlo : ev e lo = some (.int kl nl)) (hhi : ev e hi = some (.int kh nh)) (hnl : nl = (i : Int)) (hnh : nh = (j : Int)) (hij : i ≤ j) (hj : j ≤ xs.length) (hp : 0 < xs.length) :
    Quiet P ops ⟨d, .slice t x (some lo) (some hi) none, ty, pos, aft, none⟩ e o r (cutv v sz i j) := .mk fun a w he _ => by
  subst hd
  have hx' := ev_rel he hx
  obtain ⟨henc, hm, ⟨rfl, rfl, rfl⟩ | ⟨b, c, cs, rfl, rfl, hle, hlen, ht⟩⟩ := s.pf
  · simp at hp
  · have hc0 : ¬ c = 0 := by omega
    have e1 : cutv (.slice (some ⟨b, 0, none⟩) xs.length c) sz 0 n = .slice (some ⟨b, 0, none⟩) n c := by
      simp only [cutv, if_neg hc0, Option.map_some, Nat.zero_mul, Nat.sub_zero]; rfl
    rw [e1] at hx'
    have bd : ∀ {op : Operand} {k : IntKind} {m : Int} {q : Nat}, ev e op = some (.int k m) → m = (q : Int) → ∀ (y : Nat) (code : BoundsCode), q ≤ y → (Instr.sliceBound (evA a op) y code).run P w = .ok q w := by
      intro op k m q h1 h2 y code h3
      rw [ev_rel he h1]
      subst h2
      have h0 : (0 : Int) ≤ q := by omega
      unfold Instr.sliceBound
      rw [bind_ok (a := (k, (q : Int))) (w1 := w) rfl]
      simp only
      rw [if_pos ⟨h0, by omega⟩]
      rfl
    have hrun : (Instr.sliceAt t (.slice (some ⟨b, 0, none⟩) n c) (some (evA a lo)) (some (evA a hi)) none).run P w =
        .ok (.slice (if c = i then some ⟨b, 0, none⟩ else (some (⟨b, 0, none⟩ : Addr)).map (·.add (i * sz))) (j - i) (c - i)) w := by
      unfold Instr.sliceAt
      rw [bind_ok (u.pf w)]
      simp only
      unfold Instr.slice
      rw [bind_ok (u.pf w)]
      simp only
      have hb : (Instr.sliceBounds true n c (some (evA a lo)) (some (evA a hi)) none).run P w = .ok (i, j, c) w := by
        unfold Instr.sliceBounds
        simp only [pure_bind, if_true, Option.isSome_none, Bool.false_eq_true, if_false]
        rw [bind_ok (bd hhi hnh c .sliceAcap (by omega)), bind_ok (bd hlo hnl j .sliceB hij)]
        rfl
      rw [bind_ok hb]
      simp only
      rw [bind_ok (z.pf w)]
      rfl
    simp only [execOp, hx', Option.map_some, Option.map_none]
    exact run_val hrun
/-- s[i:j:m]; its value is of no use. -/
theorem Q.cut3 {t el T : TypeId} [u : Und P t (.slice el)] [z : TySize P el sz] {x lo hi mx : Operand} {kl kh km : IntKind} {i j m : Nat} {nl nh nm : Int} (hx : ev e x = some v) [s : OArr v enc sz T h xs] (hlo : ev e lo = some (.int kl nl)) (hhi : ev e hi = some (.int kh nh)) (hmx : ev e mx = some (.int km nm)) (hnl : nl = (i : Int)) (hnh : nh = (j : Int)) (hnm : nm = (m : Int)) (hij : i ≤ j) (hj : j ≤ m) (hjm : m ≤ xs.length) (hp : 0 < xs.length) :
    ∃ v', Quiet P ops ⟨d, .slice t x (some lo) (some hi) (some mx), ty, pos, aft, none⟩ e o r v' := by
  obtain ⟨henc, hm, ⟨rfl, rfl, rfl⟩ | ⟨b, c, cs, rfl, rfl, hle, hlen, ht⟩⟩ := s.pf
  · simp at hp
  · refine ⟨.slice (if m = i then some ⟨b, 0, none⟩ else (some (⟨b, 0, none⟩ : Addr)).map (·.add (i * sz))) (j - i) (m - i), .mk fun a w he _ => ?_⟩
    have hx' := ev_rel he hx
    have bd : ∀ {op : Operand} {k : IntKind} {m : Int} {q : Nat}, ev e op = some (.int k m) → m = (q : Int) → ∀ (y : Nat) (code : BoundsCode), q ≤ y → (Instr.sliceBound (evA a op) y code).run P w = .ok q w := by
      intro op k m q h1 h2 y code h3
      rw [ev_rel he h1]
      subst h2
      have h0 : (0 : Int) ≤ q := by omega
      unfold Instr.sliceBound
      rw [bind_ok (a := (k, (q : Int))) (w1 := w) rfl]
      simp only
      rw [if_pos ⟨h0, by omega⟩]
      rfl
    have hrun : (Instr.sliceAt t (.slice (some ⟨b, 0, none⟩) xs.length c) (some (evA a lo)) (some (evA a hi)) (some (evA a mx))).run P w =
        .ok (.slice (if m = i then some ⟨b, 0, none⟩ else (some (⟨b, 0, none⟩ : Addr)).map (·.add (i * sz))) (j - i) (m - i)) w := by
      unfold Instr.sliceAt
      rw [bind_ok (u.pf w)]
      simp only
      unfold Instr.slice
      rw [bind_ok (u.pf w)]
      simp only
      have hb : (Instr.sliceBounds true xs.length c (some (evA a lo)) (some (evA a hi)) (some (evA a mx))).run P w = .ok (i, j, m) w := by
        unfold Instr.sliceBounds
        simp only [if_true, Option.isSome_some]
        rw [bind_ok (bd hmx hnm c .slice3Acap (by omega)), bind_ok (bd hhi hnh m .slice3B hj), bind_ok (bd hlo hnl j .slice3C hij)]
        rfl
      rw [bind_ok hb]
      simp only
      rw [bind_ok (z.pf w)]
      rfl
    simp only [execOp, hx', Option.map_some]
    exact run_val hrun
end
section
variable {c : Cx} {ops : Array Oper} {rest : List Oper} {k : List Item} {e : Env} {o r : List PHeap} {d : Nat} {ty : TypeId} {pos : String} {aft : Array Edge}
variable {α : Type} {enc : α → List Value} {sz : Nat} {h : PHeap} {xs : List α} {v : Value}
theorem XO.cut3 {t el T : TypeId} [u : Und c.P t (.slice el)] [z : TySize c.P el sz] {x lo hi mx : Operand} {kl kh km : IntKind} {i j m : Nat} {nl nh nm : Int} (hx : ev e x = some v) [s : OArr v enc sz T h xs] (hlo : ev e lo = some (.int kl nl)) (hhi : ev e hi = some (.int kh nh)) (hmx : ev e mx = some (.int km nm)) (hnl : nl = (i : Int)) (hnh : nh = (j : Int)) (hnm : nm = (m : Int)) (hij : i ≤ j) (hj : j ≤ m) (hjm : m ≤ xs.length) (hp : 0 < xs.length)
    (hn : ∀ v', XO c ops rest k ((d, some v') :: e) o r) : XO c ops (⟨some d, .slice t x (some lo) (some hi) (some mx), ty, pos, aft, none⟩ :: rest) k e o r := by
  obtain ⟨v', q⟩ := Q.cut3 (P := c.P) (ops := ops) (e := e) (o := o) (r := c.B :: r) (d := some d) (ty := ty) (pos := pos) (aft := aft) (t := t) (z := z) (u := u) (s := s) hx hlo hhi hmx hnl hnh hnm hij hj hjm hp
  exact XO.q q (hn v')
theorem XO.clearC {t0 el T : TypeId} [u : Und c.P t0 (.slice el)] [z : TySize c.P el sz] {zs : List Value} [zz : Zero c.P el zs] {x : Operand} {vd : Value} {i j m : Nat} {o1 : List PHeap} (zx : α) (hx : ev e x = some vd) (hd : vd = cutv v sz i j)
    [s : OArr v enc sz T h xs] [tk : Take h o o1] (hm' : j - i = m + 1) (hj : j ≤ xs.length) (hz : (Builtin.zeroCells zs.toArray (m + 1)).toList = (List.replicate (m + 1) zx).flatMap enc) (hone : ∀ cc ∈ enc zx, one cc = true)
    (hn : ∀ h', OArr v enc sz T h' (xs.take i ++ List.replicate (m + 1) zx ++ xs.drop (i + (m + 1))) → XO c ops rest k e (h' :: o1) r) :
    XO c ops (⟨none, .call ⟨.builtin .clear, #[x], #[t0]⟩, ty, pos, aft, none⟩ :: rest) k e o r :=
  XO.s0 (Stp.clearC zx hx hd hm' hj hz hone) fun _ o2 ⟨h', h2, h3⟩ => by subst h3; exact hn h' h2
variable {fl : List Nat} {f : List PHeap} {i0 : Nat} {bb : Bool} {tt uu : Plan}
theorem XT.appendC {t0 t1 el el1 T : TypeId} [u : Und c.P t0 (.slice el)] [u1 : Und c.P t1 (.slice el1)] [z : TySize c.P el sz] {by' : Nat} [tb : TyBytes c.P el by'] {x y : Operand} {vd v2 : Value} {i j : Nat} {o1 : List PHeap}
    (hi0 : ops[i0]? = some ⟨some d, .call ⟨.builtin .append, #[x, y], #[t0, t1]⟩, ty, pos, aft, none⟩) (hok : okOper c.N ⟨some d, .call ⟨.builtin .append, #[x, y], #[t0, t1]⟩, ty, pos, aft, none⟩ = true)
    (hx : ev e x = some vd) (hd : vd = cutv v sz 0 i) (hy : ev e y = some v2) (hd2 : v2 = cutv v sz j xs.length)
    [s : OArr v enc sz T h xs] [tk : Take h o o1] (hij : i ≤ j) (hj : j ≤ xs.length) (hp : 0 < xs.length) (hby : Nat.ble by' 128 = true) (hn : xs.length ≤ 68719476736)
    (hnx : ∀ h', OArr v enc sz T h' (xs.take i ++ xs.drop j ++ xs.drop (i + (xs.length - j))) → Keeps bb f (h' :: o1) ∧ XT c ops fl f k r tt ((d, some (cutv v sz 0 (i + (xs.length - j)))) :: e) (h' :: o1)) (hu : XT c ops fl f k r uu e o) :
    XT c ops fl f k r (.br i0 bb tt uu) e o :=
  XT.s hi0 hok (Stp.appendC hx hd hy hd2 hij hj hp hby hn) (fun v' o2 ⟨h', h1, h2, h3⟩ => by subst h1 h3; exact hnx h' h2) hu
end
end Go.X

/- The type table of this seat as instances; written by program. No condition. -/
namespace Go.X
open Go.Proofs
set_option maxRecDepth 10000
instance : Und Try.prog 0 (Go.TypeDesc.tuple #[]) := ⟨Try.runUnderlying0⟩
instance : IsAgg Try.prog 0 false := ⟨Try.isAgg0⟩
instance : TySize Try.prog 0 1 := ⟨Try.sizeOf0⟩
instance : TyBytes Try.prog 0 0 := ⟨_, Try.typeInfo0, rfl⟩
instance : Zero Try.prog 0 [(Go.Value.tuple #[])] := ⟨_, Try.zeroValue0, rfl⟩
instance : Und Try.prog 1 (Go.TypeDesc.func #[] #[] Bool.false) := ⟨Try.runUnderlying1⟩
instance : IsAgg Try.prog 1 false := ⟨Try.isAgg1⟩
instance : TySize Try.prog 1 1 := ⟨Try.sizeOf1⟩
instance : TyBytes Try.prog 1 8 := ⟨_, Try.typeInfo1, rfl⟩
instance : Zero Try.prog 1 [Go.Value.nilFunc] := ⟨_, Try.zeroValue1, rfl⟩
instance : Und Try.prog 2 (Go.TypeDesc.int Go.IntKind.i64) := ⟨Try.runUnderlying2⟩
instance : IsAgg Try.prog 2 false := ⟨Try.isAgg2⟩
instance : TySize Try.prog 2 1 := ⟨Try.sizeOf2⟩
instance : TyBytes Try.prog 2 8 := ⟨_, Try.typeInfo2, rfl⟩
instance : Zero Try.prog 2 [(Go.Value.int Go.IntKind.i64 0)] := ⟨_, Try.zeroValue2, rfl⟩
instance : Und Try.prog 3 (Go.TypeDesc.int Go.IntKind.i64) := ⟨Try.runUnderlying3⟩
instance : IsAgg Try.prog 3 false := ⟨Try.isAgg3⟩
instance : TySize Try.prog 3 1 := ⟨Try.sizeOf3⟩
instance : TyBytes Try.prog 3 8 := ⟨_, Try.typeInfo3, rfl⟩
instance : Zero Try.prog 3 [(Go.Value.int Go.IntKind.i64 0)] := ⟨_, Try.zeroValue3, rfl⟩
instance : Und Try.prog 4 Go.TypeDesc.bool := ⟨Try.runUnderlying4⟩
instance : IsAgg Try.prog 4 false := ⟨Try.isAgg4⟩
instance : TySize Try.prog 4 1 := ⟨Try.sizeOf4⟩
instance : TyBytes Try.prog 4 1 := ⟨_, Try.typeInfo4, rfl⟩
instance : Zero Try.prog 4 [(Go.Value.bool Bool.false)] := ⟨_, Try.zeroValue4, rfl⟩
instance : Und Try.prog 5 (Go.TypeDesc.int Go.IntKind.u8) := ⟨Try.runUnderlying5⟩
instance : IsAgg Try.prog 5 false := ⟨Try.isAgg5⟩
instance : TySize Try.prog 5 1 := ⟨Try.sizeOf5⟩
instance : TyBytes Try.prog 5 1 := ⟨_, Try.typeInfo5, rfl⟩
instance : Zero Try.prog 5 [(Go.Value.int Go.IntKind.u8 0)] := ⟨_, Try.zeroValue5, rfl⟩
instance : Und Try.prog 6 (Go.TypeDesc.int Go.IntKind.u8) := ⟨Try.runUnderlying6⟩
instance : IsAgg Try.prog 6 false := ⟨Try.isAgg6⟩
instance : TySize Try.prog 6 1 := ⟨Try.sizeOf6⟩
instance : TyBytes Try.prog 6 1 := ⟨_, Try.typeInfo6, rfl⟩
instance : Zero Try.prog 6 [(Go.Value.int Go.IntKind.u8 0)] := ⟨_, Try.zeroValue6, rfl⟩
instance : Und Try.prog 7 (Go.TypeDesc.struct #[(Go.Field.mk "x" 2 0 Bool.false "" "runtime" 0), (Go.Field.mk "y" 3 1 Bool.false "" "runtime" 8), (Go.Field.mk "signed" 4 2 Bool.false "" "runtime" 16), (Go.Field.mk "code" 6 3 Bool.false "" "runtime" 17)]) := ⟨Try.runUnderlying7⟩
instance : IsAgg Try.prog 7 true := ⟨Try.isAgg7⟩
instance : TySize Try.prog 7 4 := ⟨Try.sizeOf7⟩
instance : TyBytes Try.prog 7 24 := ⟨_, Try.typeInfo7, rfl⟩
instance : Zero Try.prog 7 [(Go.Value.int Go.IntKind.i64 0), (Go.Value.int Go.IntKind.i64 0), (Go.Value.bool Bool.false), (Go.Value.int Go.IntKind.u8 0)] := ⟨_, Try.zeroValue7, rfl⟩
instance : Fld Try.prog 7 0 0 := Fld.of (n := 1) ⟨Try.runUnderlying7⟩ rfl ⟨Try.sizeOf2⟩ (by decide) rfl
instance : Fld Try.prog 7 1 1 := Fld.of (n := 1) ⟨Try.runUnderlying7⟩ rfl ⟨Try.sizeOf3⟩ (by decide) rfl
instance : Fld Try.prog 7 2 2 := Fld.of (n := 1) ⟨Try.runUnderlying7⟩ rfl ⟨Try.sizeOf4⟩ (by decide) rfl
instance : Fld Try.prog 7 3 3 := Fld.of (n := 1) ⟨Try.runUnderlying7⟩ rfl ⟨Try.sizeOf6⟩ (by decide) rfl
instance : Places Try.prog 7 (fun i => ([(0, 1), (1, 1), (2, 1), (3, 1)] : List (Nat × Nat))[i]?) := Places.struct ⟨Try.runUnderlying7⟩ (.c Try.sizeOf2 (.c Try.sizeOf3 (.c Try.sizeOf4 (.c Try.sizeOf6 .n))))
instance : Und Try.prog 8 (Go.TypeDesc.struct #[(Go.Field.mk "x" 2 0 Bool.false "" "runtime" 0), (Go.Field.mk "y" 3 1 Bool.false "" "runtime" 8), (Go.Field.mk "signed" 4 2 Bool.false "" "runtime" 16), (Go.Field.mk "code" 6 3 Bool.false "" "runtime" 17)]) := ⟨Try.runUnderlying8⟩
instance : IsAgg Try.prog 8 true := ⟨Try.isAgg8⟩
instance : TySize Try.prog 8 4 := ⟨Try.sizeOf8⟩
instance : TyBytes Try.prog 8 24 := ⟨_, Try.typeInfo8, rfl⟩
instance : Zero Try.prog 8 [(Go.Value.int Go.IntKind.i64 0), (Go.Value.int Go.IntKind.i64 0), (Go.Value.bool Bool.false), (Go.Value.int Go.IntKind.u8 0)] := ⟨_, Try.zeroValue8, rfl⟩
instance : Fld Try.prog 8 0 0 := Fld.of (n := 1) ⟨Try.runUnderlying8⟩ rfl ⟨Try.sizeOf2⟩ (by decide) rfl
instance : Fld Try.prog 8 1 1 := Fld.of (n := 1) ⟨Try.runUnderlying8⟩ rfl ⟨Try.sizeOf3⟩ (by decide) rfl
instance : Fld Try.prog 8 2 2 := Fld.of (n := 1) ⟨Try.runUnderlying8⟩ rfl ⟨Try.sizeOf4⟩ (by decide) rfl
instance : Fld Try.prog 8 3 3 := Fld.of (n := 1) ⟨Try.runUnderlying8⟩ rfl ⟨Try.sizeOf6⟩ (by decide) rfl
instance : Places Try.prog 8 (fun i => ([(0, 1), (1, 1), (2, 1), (3, 1)] : List (Nat × Nat))[i]?) := Places.struct ⟨Try.runUnderlying8⟩ (.c Try.sizeOf2 (.c Try.sizeOf3 (.c Try.sizeOf4 (.c Try.sizeOf6 .n))))
instance : Und Try.prog 9 Go.TypeDesc.string := ⟨Try.runUnderlying9⟩
instance : IsAgg Try.prog 9 false := ⟨Try.isAgg9⟩
instance : TySize Try.prog 9 1 := ⟨Try.sizeOf9⟩
instance : TyBytes Try.prog 9 16 := ⟨_, Try.typeInfo9, rfl⟩
instance : Zero Try.prog 9 [(Go.Value.string (ByteArray.mk #[]))] := ⟨_, Try.zeroValue9, rfl⟩
instance : Und Try.prog 12 (Go.TypeDesc.int Go.IntKind.u64) := ⟨Try.runUnderlying12⟩
instance : IsAgg Try.prog 12 false := ⟨Try.isAgg12⟩
instance : TySize Try.prog 12 1 := ⟨Try.sizeOf12⟩
instance : TyBytes Try.prog 12 8 := ⟨_, Try.typeInfo12, rfl⟩
instance : Zero Try.prog 12 [(Go.Value.int Go.IntKind.u64 0)] := ⟨_, Try.zeroValue12, rfl⟩
instance : Und Try.prog 13 (Go.TypeDesc.struct #[(Go.Field.mk "msg" 9 0 Bool.false "" "runtime" 0), (Go.Field.mk "addr" 12 1 Bool.false "" "runtime" 16)]) := ⟨Try.runUnderlying13⟩
instance : IsAgg Try.prog 13 true := ⟨Try.isAgg13⟩
instance : TySize Try.prog 13 2 := ⟨Try.sizeOf13⟩
instance : TyBytes Try.prog 13 24 := ⟨_, Try.typeInfo13, rfl⟩
instance : Zero Try.prog 13 [(Go.Value.string (ByteArray.mk #[])), (Go.Value.int Go.IntKind.u64 0)] := ⟨_, Try.zeroValue13, rfl⟩
instance : Fld Try.prog 13 0 0 := Fld.of (n := 1) ⟨Try.runUnderlying13⟩ rfl ⟨Try.sizeOf9⟩ (by decide) rfl
instance : Fld Try.prog 13 1 1 := Fld.of (n := 1) ⟨Try.runUnderlying13⟩ rfl ⟨Try.sizeOf12⟩ (by decide) rfl
instance : Places Try.prog 13 (fun i => ([(0, 1), (1, 1)] : List (Nat × Nat))[i]?) := Places.struct ⟨Try.runUnderlying13⟩ (.c Try.sizeOf9 (.c Try.sizeOf12 .n))
instance : Und Try.prog 17 (Go.TypeDesc.pointer 242) := ⟨Try.runUnderlying17⟩
instance : IsAgg Try.prog 17 false := ⟨Try.isAgg17⟩
instance : TySize Try.prog 17 1 := ⟨Try.sizeOf17⟩
instance : TyBytes Try.prog 17 8 := ⟨_, Try.typeInfo17, rfl⟩
instance : Zero Try.prog 17 [(Go.Value.pointer none)] := ⟨_, Try.zeroValue17, rfl⟩
instance : Und Try.prog 19 (Go.TypeDesc.struct #[(Go.Field.mk "typ" 17 0 Bool.false "" "internal/runtime/maps" 0)]) := ⟨Try.runUnderlying19⟩
instance : IsAgg Try.prog 19 true := ⟨Try.isAgg19⟩
instance : TySize Try.prog 19 1 := ⟨Try.sizeOf19⟩
instance : TyBytes Try.prog 19 8 := ⟨_, Try.typeInfo19, rfl⟩
instance : Zero Try.prog 19 [(Go.Value.pointer none)] := ⟨_, Try.zeroValue19, rfl⟩
instance : Fld Try.prog 19 0 0 := Fld.of (n := 1) ⟨Try.runUnderlying19⟩ rfl ⟨Try.sizeOf17⟩ (by decide) rfl
instance : Places Try.prog 19 (fun i => ([(0, 1)] : List (Nat × Nat))[i]?) := Places.struct ⟨Try.runUnderlying19⟩ (.c Try.sizeOf17 .n)
instance : Und Try.prog 22 (Go.TypeDesc.slice 5) := ⟨Try.runUnderlying22⟩
instance : IsAgg Try.prog 22 false := ⟨Try.isAgg22⟩
instance : TySize Try.prog 22 1 := ⟨Try.sizeOf22⟩
instance : TyBytes Try.prog 22 24 := ⟨_, Try.typeInfo22, rfl⟩
instance : Zero Try.prog 22 [(Go.Value.slice none 0 0)] := ⟨_, Try.zeroValue22, rfl⟩
instance : Und Try.prog 23 (Go.TypeDesc.int Go.IntKind.u16) := ⟨Try.runUnderlying23⟩
instance : IsAgg Try.prog 23 false := ⟨Try.isAgg23⟩
instance : TySize Try.prog 23 1 := ⟨Try.sizeOf23⟩
instance : TyBytes Try.prog 23 2 := ⟨_, Try.typeInfo23, rfl⟩
instance : Zero Try.prog 23 [(Go.Value.int Go.IntKind.u16 0)] := ⟨_, Try.zeroValue23, rfl⟩
instance : Und Try.prog 24 (Go.TypeDesc.slice 3) := ⟨Try.runUnderlying24⟩
instance : IsAgg Try.prog 24 false := ⟨Try.isAgg24⟩
instance : TySize Try.prog 24 1 := ⟨Try.sizeOf24⟩
instance : TyBytes Try.prog 24 24 := ⟨_, Try.typeInfo24, rfl⟩
instance : Zero Try.prog 24 [(Go.Value.slice none 0 0)] := ⟨_, Try.zeroValue24, rfl⟩
instance : Und Try.prog 25 (Go.TypeDesc.slice 33) := ⟨Try.runUnderlying25⟩
instance : IsAgg Try.prog 25 false := ⟨Try.isAgg25⟩
instance : TySize Try.prog 25 1 := ⟨Try.sizeOf25⟩
instance : TyBytes Try.prog 25 24 := ⟨_, Try.typeInfo25, rfl⟩
instance : Zero Try.prog 25 [(Go.Value.slice none 0 0)] := ⟨_, Try.zeroValue25, rfl⟩
instance : Und Try.prog 27 (Go.TypeDesc.struct #[(Go.Field.mk "Price" 24 0 Bool.false "" "" 0), (Go.Field.mk "Base" 3 1 Bool.false "" "" 24), (Go.Field.mk "Tiers" 25 2 Bool.false "" "" 32), (Go.Field.mk "Credit" 3 3 Bool.false "" "" 56)]) := ⟨Try.runUnderlying27⟩
instance : IsAgg Try.prog 27 true := ⟨Try.isAgg27⟩
instance : TySize Try.prog 27 4 := ⟨Try.sizeOf27⟩
instance : TyBytes Try.prog 27 64 := ⟨_, Try.typeInfo27, rfl⟩
instance : Zero Try.prog 27 [(Go.Value.slice none 0 0), (Go.Value.int Go.IntKind.i64 0), (Go.Value.slice none 0 0), (Go.Value.int Go.IntKind.i64 0)] := ⟨_, Try.zeroValue27, rfl⟩
instance : Fld Try.prog 27 0 0 := Fld.of (n := 1) ⟨Try.runUnderlying27⟩ rfl ⟨Try.sizeOf24⟩ (by decide) rfl
instance : Fld Try.prog 27 1 1 := Fld.of (n := 1) ⟨Try.runUnderlying27⟩ rfl ⟨Try.sizeOf3⟩ (by decide) rfl
instance : Fld Try.prog 27 2 2 := Fld.of (n := 1) ⟨Try.runUnderlying27⟩ rfl ⟨Try.sizeOf25⟩ (by decide) rfl
instance : Fld Try.prog 27 3 3 := Fld.of (n := 1) ⟨Try.runUnderlying27⟩ rfl ⟨Try.sizeOf3⟩ (by decide) rfl
instance : Places Try.prog 27 (fun i => ([(0, 1), (1, 1), (2, 1), (3, 1)] : List (Nat × Nat))[i]?) := Places.struct ⟨Try.runUnderlying27⟩ (.c Try.sizeOf24 (.c Try.sizeOf3 (.c Try.sizeOf25 (.c Try.sizeOf3 .n))))
instance : Und Try.prog 30 (Go.TypeDesc.struct #[(Go.Field.mk "l" 22 0 Bool.false "" "switchgear/switchgearlaw11" 0), (Go.Field.mk "i" 3 1 Bool.false "" "switchgear/switchgearlaw11" 24)]) := ⟨Try.runUnderlying30⟩
instance : IsAgg Try.prog 30 true := ⟨Try.isAgg30⟩
instance : TySize Try.prog 30 2 := ⟨Try.sizeOf30⟩
instance : TyBytes Try.prog 30 32 := ⟨_, Try.typeInfo30, rfl⟩
instance : Zero Try.prog 30 [(Go.Value.slice none 0 0), (Go.Value.int Go.IntKind.i64 0)] := ⟨_, Try.zeroValue30, rfl⟩
instance : Fld Try.prog 30 0 0 := Fld.of (n := 1) ⟨Try.runUnderlying30⟩ rfl ⟨Try.sizeOf22⟩ (by decide) rfl
instance : Fld Try.prog 30 1 1 := Fld.of (n := 1) ⟨Try.runUnderlying30⟩ rfl ⟨Try.sizeOf3⟩ (by decide) rfl
instance : Places Try.prog 30 (fun i => ([(0, 1), (1, 1)] : List (Nat × Nat))[i]?) := Places.struct ⟨Try.runUnderlying30⟩ (.c Try.sizeOf22 (.c Try.sizeOf3 .n))
instance : Und Try.prog 33 (Go.TypeDesc.struct #[(Go.Field.mk "Minutes" 3 0 Bool.false "" "" 0), (Go.Field.mk "Percent" 3 1 Bool.false "" "" 8)]) := ⟨Try.runUnderlying33⟩
instance : IsAgg Try.prog 33 true := ⟨Try.isAgg33⟩
instance : TySize Try.prog 33 2 := ⟨Try.sizeOf33⟩
instance : TyBytes Try.prog 33 16 := ⟨_, Try.typeInfo33, rfl⟩
instance : Zero Try.prog 33 [(Go.Value.int Go.IntKind.i64 0), (Go.Value.int Go.IntKind.i64 0)] := ⟨_, Try.zeroValue33, rfl⟩
instance : Fld Try.prog 33 0 0 := Fld.of (n := 1) ⟨Try.runUnderlying33⟩ rfl ⟨Try.sizeOf3⟩ (by decide) rfl
instance : Fld Try.prog 33 1 1 := Fld.of (n := 1) ⟨Try.runUnderlying33⟩ rfl ⟨Try.sizeOf3⟩ (by decide) rfl
instance : Places Try.prog 33 (fun i => ([(0, 1), (1, 1)] : List (Nat × Nat))[i]?) := Places.struct ⟨Try.runUnderlying33⟩ (.c Try.sizeOf3 (.c Try.sizeOf3 .n))
instance : Und Try.prog 35 (Go.TypeDesc.struct #[(Go.Field.mk "Values" 24 0 Bool.false "" "" 0), (Go.Field.mk "Out" 3 1 Bool.false "" "" 24)]) := ⟨Try.runUnderlying35⟩
instance : IsAgg Try.prog 35 true := ⟨Try.isAgg35⟩
instance : TySize Try.prog 35 2 := ⟨Try.sizeOf35⟩
instance : TyBytes Try.prog 35 32 := ⟨_, Try.typeInfo35, rfl⟩
instance : Zero Try.prog 35 [(Go.Value.slice none 0 0), (Go.Value.int Go.IntKind.i64 0)] := ⟨_, Try.zeroValue35, rfl⟩
instance : Fld Try.prog 35 0 0 := Fld.of (n := 1) ⟨Try.runUnderlying35⟩ rfl ⟨Try.sizeOf24⟩ (by decide) rfl
instance : Fld Try.prog 35 1 1 := Fld.of (n := 1) ⟨Try.runUnderlying35⟩ rfl ⟨Try.sizeOf3⟩ (by decide) rfl
instance : Places Try.prog 35 (fun i => ([(0, 1), (1, 1)] : List (Nat × Nat))[i]?) := Places.struct ⟨Try.runUnderlying35⟩ (.c Try.sizeOf24 (.c Try.sizeOf3 .n))
instance : Und Try.prog 37 (Go.TypeDesc.struct #[(Go.Field.mk "Energy" 3 0 Bool.false "" "" 0), (Go.Field.mk "Amount" 3 1 Bool.false "" "" 8), (Go.Field.mk "Credit" 3 2 Bool.false "" "" 16), (Go.Field.mk "Due" 3 3 Bool.false "" "" 24)]) := ⟨Try.runUnderlying37⟩
instance : IsAgg Try.prog 37 true := ⟨Try.isAgg37⟩
instance : TySize Try.prog 37 4 := ⟨Try.sizeOf37⟩
instance : TyBytes Try.prog 37 32 := ⟨_, Try.typeInfo37, rfl⟩
instance : Zero Try.prog 37 [(Go.Value.int Go.IntKind.i64 0), (Go.Value.int Go.IntKind.i64 0), (Go.Value.int Go.IntKind.i64 0), (Go.Value.int Go.IntKind.i64 0)] := ⟨_, Try.zeroValue37, rfl⟩
instance : Fld Try.prog 37 0 0 := Fld.of (n := 1) ⟨Try.runUnderlying37⟩ rfl ⟨Try.sizeOf3⟩ (by decide) rfl
instance : Fld Try.prog 37 1 1 := Fld.of (n := 1) ⟨Try.runUnderlying37⟩ rfl ⟨Try.sizeOf3⟩ (by decide) rfl
instance : Fld Try.prog 37 2 2 := Fld.of (n := 1) ⟨Try.runUnderlying37⟩ rfl ⟨Try.sizeOf3⟩ (by decide) rfl
instance : Fld Try.prog 37 3 3 := Fld.of (n := 1) ⟨Try.runUnderlying37⟩ rfl ⟨Try.sizeOf3⟩ (by decide) rfl
instance : Places Try.prog 37 (fun i => ([(0, 1), (1, 1), (2, 1), (3, 1)] : List (Nat × Nat))[i]?) := Places.struct ⟨Try.runUnderlying37⟩ (.c Try.sizeOf3 (.c Try.sizeOf3 (.c Try.sizeOf3 (.c Try.sizeOf3 .n))))
instance : Und Try.prog 38 (Go.TypeDesc.int Go.IntKind.i64) := ⟨Try.runUnderlying38⟩
instance : IsAgg Try.prog 38 false := ⟨Try.isAgg38⟩
instance : TySize Try.prog 38 1 := ⟨Try.sizeOf38⟩
instance : TyBytes Try.prog 38 8 := ⟨_, Try.typeInfo38, rfl⟩
instance : Zero Try.prog 38 [(Go.Value.int Go.IntKind.i64 0)] := ⟨_, Try.zeroValue38, rfl⟩
instance : Und Try.prog 41 (Go.TypeDesc.slice 37) := ⟨Try.runUnderlying41⟩
instance : IsAgg Try.prog 41 false := ⟨Try.isAgg41⟩
instance : TySize Try.prog 41 1 := ⟨Try.sizeOf41⟩
instance : TyBytes Try.prog 41 24 := ⟨_, Try.typeInfo41, rfl⟩
instance : Zero Try.prog 41 [(Go.Value.slice none 0 0)] := ⟨_, Try.zeroValue41, rfl⟩
instance : Und Try.prog 44 (Go.TypeDesc.slice 35) := ⟨Try.runUnderlying44⟩
instance : IsAgg Try.prog 44 false := ⟨Try.isAgg44⟩
instance : TySize Try.prog 44 1 := ⟨Try.sizeOf44⟩
instance : TyBytes Try.prog 44 24 := ⟨_, Try.typeInfo44, rfl⟩
instance : Zero Try.prog 44 [(Go.Value.slice none 0 0)] := ⟨_, Try.zeroValue44, rfl⟩
instance : Und Try.prog 47 (Go.TypeDesc.slice 23) := ⟨Try.runUnderlying47⟩
instance : IsAgg Try.prog 47 false := ⟨Try.isAgg47⟩
instance : TySize Try.prog 47 1 := ⟨Try.sizeOf47⟩
instance : TyBytes Try.prog 47 24 := ⟨_, Try.typeInfo47, rfl⟩
instance : Zero Try.prog 47 [(Go.Value.slice none 0 0)] := ⟨_, Try.zeroValue47, rfl⟩
instance : Und Try.prog 48 (Go.TypeDesc.slice 97) := ⟨Try.runUnderlying48⟩
instance : IsAgg Try.prog 48 false := ⟨Try.isAgg48⟩
instance : TySize Try.prog 48 1 := ⟨Try.sizeOf48⟩
instance : TyBytes Try.prog 48 24 := ⟨_, Try.typeInfo48, rfl⟩
instance : Zero Try.prog 48 [(Go.Value.slice none 0 0)] := ⟨_, Try.zeroValue48, rfl⟩
instance : Und Try.prog 50 (Go.TypeDesc.struct #[(Go.Field.mk "Nodes" 48 0 Bool.false "" "" 0), (Go.Field.mk "Values" 24 1 Bool.false "" "" 24)]) := ⟨Try.runUnderlying50⟩
instance : IsAgg Try.prog 50 true := ⟨Try.isAgg50⟩
instance : TySize Try.prog 50 2 := ⟨Try.sizeOf50⟩
instance : TyBytes Try.prog 50 48 := ⟨_, Try.typeInfo50, rfl⟩
instance : Zero Try.prog 50 [(Go.Value.slice none 0 0), (Go.Value.slice none 0 0)] := ⟨_, Try.zeroValue50, rfl⟩
instance : Fld Try.prog 50 0 0 := Fld.of (n := 1) ⟨Try.runUnderlying50⟩ rfl ⟨Try.sizeOf48⟩ (by decide) rfl
instance : Fld Try.prog 50 1 1 := Fld.of (n := 1) ⟨Try.runUnderlying50⟩ rfl ⟨Try.sizeOf24⟩ (by decide) rfl
instance : Places Try.prog 50 (fun i => ([(0, 1), (1, 1)] : List (Nat × Nat))[i]?) := Places.struct ⟨Try.runUnderlying50⟩ (.c Try.sizeOf48 (.c Try.sizeOf24 .n))
instance : Und Try.prog 54 (Go.TypeDesc.slice 24) := ⟨Try.runUnderlying54⟩
instance : IsAgg Try.prog 54 false := ⟨Try.isAgg54⟩
instance : TySize Try.prog 54 1 := ⟨Try.sizeOf54⟩
instance : TyBytes Try.prog 54 24 := ⟨_, Try.typeInfo54, rfl⟩
instance : Zero Try.prog 54 [(Go.Value.slice none 0 0)] := ⟨_, Try.zeroValue54, rfl⟩
instance : Und Try.prog 64 (Go.TypeDesc.int Go.IntKind.u64) := ⟨Try.runUnderlying64⟩
instance : IsAgg Try.prog 64 false := ⟨Try.isAgg64⟩
instance : TySize Try.prog 64 1 := ⟨Try.sizeOf64⟩
instance : TyBytes Try.prog 64 8 := ⟨_, Try.typeInfo64, rfl⟩
instance : Zero Try.prog 64 [(Go.Value.int Go.IntKind.u64 0)] := ⟨_, Try.zeroValue64, rfl⟩
instance : Und Try.prog 65 (Go.TypeDesc.slice 74) := ⟨Try.runUnderlying65⟩
instance : IsAgg Try.prog 65 false := ⟨Try.isAgg65⟩
instance : TySize Try.prog 65 1 := ⟨Try.sizeOf65⟩
instance : TyBytes Try.prog 65 24 := ⟨_, Try.typeInfo65, rfl⟩
instance : Zero Try.prog 65 [(Go.Value.slice none 0 0)] := ⟨_, Try.zeroValue65, rfl⟩
instance : Und Try.prog 67 (Go.TypeDesc.slice 76) := ⟨Try.runUnderlying67⟩
instance : IsAgg Try.prog 67 false := ⟨Try.isAgg67⟩
instance : TySize Try.prog 67 1 := ⟨Try.sizeOf67⟩
instance : TyBytes Try.prog 67 24 := ⟨_, Try.typeInfo67, rfl⟩
instance : Zero Try.prog 67 [(Go.Value.slice none 0 0)] := ⟨_, Try.zeroValue67, rfl⟩
instance : Und Try.prog 74 (Go.TypeDesc.struct #[(Go.Field.mk "Meter" 3 0 Bool.false "" "" 0), (Go.Field.mk "Hour" 3 1 Bool.false "" "" 8), (Go.Field.mk "Value" 3 2 Bool.false "" "" 16)]) := ⟨Try.runUnderlying74⟩
instance : IsAgg Try.prog 74 true := ⟨Try.isAgg74⟩
instance : TySize Try.prog 74 3 := ⟨Try.sizeOf74⟩
instance : TyBytes Try.prog 74 24 := ⟨_, Try.typeInfo74, rfl⟩
instance : Zero Try.prog 74 [(Go.Value.int Go.IntKind.i64 0), (Go.Value.int Go.IntKind.i64 0), (Go.Value.int Go.IntKind.i64 0)] := ⟨_, Try.zeroValue74, rfl⟩
instance : Fld Try.prog 74 0 0 := Fld.of (n := 1) ⟨Try.runUnderlying74⟩ rfl ⟨Try.sizeOf3⟩ (by decide) rfl
instance : Fld Try.prog 74 1 1 := Fld.of (n := 1) ⟨Try.runUnderlying74⟩ rfl ⟨Try.sizeOf3⟩ (by decide) rfl
instance : Fld Try.prog 74 2 2 := Fld.of (n := 1) ⟨Try.runUnderlying74⟩ rfl ⟨Try.sizeOf3⟩ (by decide) rfl
instance : Places Try.prog 74 (fun i => ([(0, 1), (1, 1), (2, 1)] : List (Nat × Nat))[i]?) := Places.struct ⟨Try.runUnderlying74⟩ (.c Try.sizeOf3 (.c Try.sizeOf3 (.c Try.sizeOf3 .n)))
instance : Und Try.prog 76 (Go.TypeDesc.struct #[(Go.Field.mk "Reading" 74 0 Bool.false "" "" 0), (Go.Field.mk "Sign" 64 3 Bool.false "" "" 24)]) := ⟨Try.runUnderlying76⟩
instance : IsAgg Try.prog 76 true := ⟨Try.isAgg76⟩
instance : TySize Try.prog 76 4 := ⟨Try.sizeOf76⟩
instance : TyBytes Try.prog 76 32 := ⟨_, Try.typeInfo76, rfl⟩
instance : Zero Try.prog 76 [(Go.Value.int Go.IntKind.i64 0), (Go.Value.int Go.IntKind.i64 0), (Go.Value.int Go.IntKind.i64 0), (Go.Value.int Go.IntKind.u64 0)] := ⟨_, Try.zeroValue76, rfl⟩
instance : Fld Try.prog 76 0 0 := Fld.of (n := 3) ⟨Try.runUnderlying76⟩ rfl ⟨Try.sizeOf74⟩ (by decide) rfl
instance : Fld Try.prog 76 1 3 := Fld.of (n := 1) ⟨Try.runUnderlying76⟩ rfl ⟨Try.sizeOf64⟩ (by decide) rfl
instance : Places Try.prog 76 (fun i => ([(0, 3), (3, 1)] : List (Nat × Nat))[i]?) := Places.struct ⟨Try.runUnderlying76⟩ (.c Try.sizeOf74 (.c Try.sizeOf64 .n))
instance : Und Try.prog 79 (Go.TypeDesc.slice 80) := ⟨Try.runUnderlying79⟩
instance : IsAgg Try.prog 79 false := ⟨Try.isAgg79⟩
instance : TySize Try.prog 79 1 := ⟨Try.sizeOf79⟩
instance : TyBytes Try.prog 79 24 := ⟨_, Try.typeInfo79, rfl⟩
instance : Zero Try.prog 79 [(Go.Value.slice none 0 0)] := ⟨_, Try.zeroValue79, rfl⟩
instance : Und Try.prog 80 (Go.TypeDesc.struct #[(Go.Field.mk "Meter" 3 0 Bool.false "" "" 0), (Go.Field.mk "Hour" 3 1 Bool.false "" "" 8), (Go.Field.mk "Value" 3 2 Bool.false "" "" 16)]) := ⟨Try.runUnderlying80⟩
instance : IsAgg Try.prog 80 true := ⟨Try.isAgg80⟩
instance : TySize Try.prog 80 3 := ⟨Try.sizeOf80⟩
instance : TyBytes Try.prog 80 24 := ⟨_, Try.typeInfo80, rfl⟩
instance : Zero Try.prog 80 [(Go.Value.int Go.IntKind.i64 0), (Go.Value.int Go.IntKind.i64 0), (Go.Value.int Go.IntKind.i64 0)] := ⟨_, Try.zeroValue80, rfl⟩
instance : Fld Try.prog 80 0 0 := Fld.of (n := 1) ⟨Try.runUnderlying80⟩ rfl ⟨Try.sizeOf3⟩ (by decide) rfl
instance : Fld Try.prog 80 1 1 := Fld.of (n := 1) ⟨Try.runUnderlying80⟩ rfl ⟨Try.sizeOf3⟩ (by decide) rfl
instance : Fld Try.prog 80 2 2 := Fld.of (n := 1) ⟨Try.runUnderlying80⟩ rfl ⟨Try.sizeOf3⟩ (by decide) rfl
instance : Places Try.prog 80 (fun i => ([(0, 1), (1, 1), (2, 1)] : List (Nat × Nat))[i]?) := Places.struct ⟨Try.runUnderlying80⟩ (.c Try.sizeOf3 (.c Try.sizeOf3 (.c Try.sizeOf3 .n)))
instance : Und Try.prog 82 (Go.TypeDesc.slice 89) := ⟨Try.runUnderlying82⟩
instance : IsAgg Try.prog 82 false := ⟨Try.isAgg82⟩
instance : TySize Try.prog 82 1 := ⟨Try.sizeOf82⟩
instance : TyBytes Try.prog 82 24 := ⟨_, Try.typeInfo82, rfl⟩
instance : Zero Try.prog 82 [(Go.Value.slice none 0 0)] := ⟨_, Try.zeroValue82, rfl⟩
instance : Und Try.prog 89 (Go.TypeDesc.struct #[(Go.Field.mk "Reading" 80 0 Bool.false "" "" 0), (Go.Field.mk "Sign" 64 3 Bool.false "" "" 24)]) := ⟨Try.runUnderlying89⟩
instance : IsAgg Try.prog 89 true := ⟨Try.isAgg89⟩
instance : TySize Try.prog 89 4 := ⟨Try.sizeOf89⟩
instance : TyBytes Try.prog 89 32 := ⟨_, Try.typeInfo89, rfl⟩
instance : Zero Try.prog 89 [(Go.Value.int Go.IntKind.i64 0), (Go.Value.int Go.IntKind.i64 0), (Go.Value.int Go.IntKind.i64 0), (Go.Value.int Go.IntKind.u64 0)] := ⟨_, Try.zeroValue89, rfl⟩
instance : Fld Try.prog 89 0 0 := Fld.of (n := 3) ⟨Try.runUnderlying89⟩ rfl ⟨Try.sizeOf80⟩ (by decide) rfl
instance : Fld Try.prog 89 1 3 := Fld.of (n := 1) ⟨Try.runUnderlying89⟩ rfl ⟨Try.sizeOf64⟩ (by decide) rfl
instance : Places Try.prog 89 (fun i => ([(0, 3), (3, 1)] : List (Nat × Nat))[i]?) := Places.struct ⟨Try.runUnderlying89⟩ (.c Try.sizeOf80 (.c Try.sizeOf64 .n))
instance : Und Try.prog 92 (Go.TypeDesc.slice 67) := ⟨Try.runUnderlying92⟩
instance : IsAgg Try.prog 92 false := ⟨Try.isAgg92⟩
instance : TySize Try.prog 92 1 := ⟨Try.sizeOf92⟩
instance : TyBytes Try.prog 92 24 := ⟨_, Try.typeInfo92, rfl⟩
instance : Zero Try.prog 92 [(Go.Value.slice none 0 0)] := ⟨_, Try.zeroValue92, rfl⟩
instance : Und Try.prog 97 (Go.TypeDesc.struct #[(Go.Field.mk "Up" 3 0 Bool.false "" "" 0), (Go.Field.mk "Low" 3 1 Bool.false "" "" 8), (Go.Field.mk "High" 3 2 Bool.false "" "" 16)]) := ⟨Try.runUnderlying97⟩
instance : IsAgg Try.prog 97 true := ⟨Try.isAgg97⟩
instance : TySize Try.prog 97 3 := ⟨Try.sizeOf97⟩
instance : TyBytes Try.prog 97 24 := ⟨_, Try.typeInfo97, rfl⟩
instance : Zero Try.prog 97 [(Go.Value.int Go.IntKind.i64 0), (Go.Value.int Go.IntKind.i64 0), (Go.Value.int Go.IntKind.i64 0)] := ⟨_, Try.zeroValue97, rfl⟩
instance : Fld Try.prog 97 0 0 := Fld.of (n := 1) ⟨Try.runUnderlying97⟩ rfl ⟨Try.sizeOf3⟩ (by decide) rfl
instance : Fld Try.prog 97 1 1 := Fld.of (n := 1) ⟨Try.runUnderlying97⟩ rfl ⟨Try.sizeOf3⟩ (by decide) rfl
instance : Fld Try.prog 97 2 2 := Fld.of (n := 1) ⟨Try.runUnderlying97⟩ rfl ⟨Try.sizeOf3⟩ (by decide) rfl
instance : Places Try.prog 97 (fun i => ([(0, 1), (1, 1), (2, 1)] : List (Nat × Nat))[i]?) := Places.struct ⟨Try.runUnderlying97⟩ (.c Try.sizeOf3 (.c Try.sizeOf3 (.c Try.sizeOf3 .n)))
instance : Und Try.prog 100 (Go.TypeDesc.pointer 3) := ⟨Try.runUnderlying100⟩
instance : IsAgg Try.prog 100 false := ⟨Try.isAgg100⟩
instance : TySize Try.prog 100 1 := ⟨Try.sizeOf100⟩
instance : TyBytes Try.prog 100 8 := ⟨_, Try.typeInfo100, rfl⟩
instance : Zero Try.prog 100 [(Go.Value.pointer none)] := ⟨_, Try.zeroValue100, rfl⟩
instance : Und Try.prog 101 (Go.TypeDesc.slice 100) := ⟨Try.runUnderlying101⟩
instance : IsAgg Try.prog 101 false := ⟨Try.isAgg101⟩
instance : TySize Try.prog 101 1 := ⟨Try.sizeOf101⟩
instance : TyBytes Try.prog 101 24 := ⟨_, Try.typeInfo101, rfl⟩
instance : Zero Try.prog 101 [(Go.Value.slice none 0 0)] := ⟨_, Try.zeroValue101, rfl⟩
instance : Und Try.prog 103 (Go.TypeDesc.slice 25) := ⟨Try.runUnderlying103⟩
instance : IsAgg Try.prog 103 false := ⟨Try.isAgg103⟩
instance : TySize Try.prog 103 1 := ⟨Try.sizeOf103⟩
instance : TyBytes Try.prog 103 24 := ⟨_, Try.typeInfo103, rfl⟩
instance : Zero Try.prog 103 [(Go.Value.slice none 0 0)] := ⟨_, Try.zeroValue103, rfl⟩
instance : Und Try.prog 105 (Go.TypeDesc.slice 161) := ⟨Try.runUnderlying105⟩
instance : IsAgg Try.prog 105 false := ⟨Try.isAgg105⟩
instance : TySize Try.prog 105 1 := ⟨Try.sizeOf105⟩
instance : TyBytes Try.prog 105 24 := ⟨_, Try.typeInfo105, rfl⟩
instance : Zero Try.prog 105 [(Go.Value.slice none 0 0)] := ⟨_, Try.zeroValue105, rfl⟩
instance : Und Try.prog 114 (Go.TypeDesc.struct #[(Go.Field.mk "Tariff" 27 0 Bool.true "" "" 0)]) := ⟨Try.runUnderlying114⟩
instance : IsAgg Try.prog 114 true := ⟨Try.isAgg114⟩
instance : TySize Try.prog 114 4 := ⟨Try.sizeOf114⟩
instance : TyBytes Try.prog 114 64 := ⟨_, Try.typeInfo114, rfl⟩
instance : Zero Try.prog 114 [(Go.Value.slice none 0 0), (Go.Value.int Go.IntKind.i64 0), (Go.Value.slice none 0 0), (Go.Value.int Go.IntKind.i64 0)] := ⟨_, Try.zeroValue114, rfl⟩
instance : Fld Try.prog 114 0 0 := Fld.of (n := 4) ⟨Try.runUnderlying114⟩ rfl ⟨Try.sizeOf27⟩ (by decide) rfl
instance : Places Try.prog 114 (fun i => ([(0, 4)] : List (Nat × Nat))[i]?) := Places.struct ⟨Try.runUnderlying114⟩ (.c Try.sizeOf27 .n)
instance : Und Try.prog 120 (Go.TypeDesc.slice 4) := ⟨Try.runUnderlying120⟩
instance : IsAgg Try.prog 120 false := ⟨Try.isAgg120⟩
instance : TySize Try.prog 120 1 := ⟨Try.sizeOf120⟩
instance : TyBytes Try.prog 120 24 := ⟨_, Try.typeInfo120, rfl⟩
instance : Zero Try.prog 120 [(Go.Value.slice none 0 0)] := ⟨_, Try.zeroValue120, rfl⟩
instance : Und Try.prog 122 (Go.TypeDesc.pointer 184) := ⟨Try.runUnderlying122⟩
instance : IsAgg Try.prog 122 false := ⟨Try.isAgg122⟩
instance : TySize Try.prog 122 1 := ⟨Try.sizeOf122⟩
instance : TyBytes Try.prog 122 8 := ⟨_, Try.typeInfo122, rfl⟩
instance : Zero Try.prog 122 [(Go.Value.pointer none)] := ⟨_, Try.zeroValue122, rfl⟩
instance : Und Try.prog 133 (Go.TypeDesc.slice 136) := ⟨Try.runUnderlying133⟩
instance : IsAgg Try.prog 133 false := ⟨Try.isAgg133⟩
instance : TySize Try.prog 133 1 := ⟨Try.sizeOf133⟩
instance : TyBytes Try.prog 133 24 := ⟨_, Try.typeInfo133, rfl⟩
instance : Zero Try.prog 133 [(Go.Value.slice none 0 0)] := ⟨_, Try.zeroValue133, rfl⟩
instance : Und Try.prog 135 (Go.TypeDesc.struct #[(Go.Field.mk "Price" 24 0 Bool.false "" "" 0), (Go.Field.mk "Base" 3 1 Bool.false "" "" 24), (Go.Field.mk "Tiers" 133 2 Bool.false "" "" 32), (Go.Field.mk "Credit" 3 3 Bool.false "" "" 56)]) := ⟨Try.runUnderlying135⟩
instance : IsAgg Try.prog 135 true := ⟨Try.isAgg135⟩
instance : TySize Try.prog 135 4 := ⟨Try.sizeOf135⟩
instance : TyBytes Try.prog 135 64 := ⟨_, Try.typeInfo135, rfl⟩
instance : Zero Try.prog 135 [(Go.Value.slice none 0 0), (Go.Value.int Go.IntKind.i64 0), (Go.Value.slice none 0 0), (Go.Value.int Go.IntKind.i64 0)] := ⟨_, Try.zeroValue135, rfl⟩
instance : Fld Try.prog 135 0 0 := Fld.of (n := 1) ⟨Try.runUnderlying135⟩ rfl ⟨Try.sizeOf24⟩ (by decide) rfl
instance : Fld Try.prog 135 1 1 := Fld.of (n := 1) ⟨Try.runUnderlying135⟩ rfl ⟨Try.sizeOf3⟩ (by decide) rfl
instance : Fld Try.prog 135 2 2 := Fld.of (n := 1) ⟨Try.runUnderlying135⟩ rfl ⟨Try.sizeOf133⟩ (by decide) rfl
instance : Fld Try.prog 135 3 3 := Fld.of (n := 1) ⟨Try.runUnderlying135⟩ rfl ⟨Try.sizeOf3⟩ (by decide) rfl
instance : Places Try.prog 135 (fun i => ([(0, 1), (1, 1), (2, 1), (3, 1)] : List (Nat × Nat))[i]?) := Places.struct ⟨Try.runUnderlying135⟩ (.c Try.sizeOf24 (.c Try.sizeOf3 (.c Try.sizeOf133 (.c Try.sizeOf3 .n))))
instance : Und Try.prog 136 (Go.TypeDesc.struct #[(Go.Field.mk "Minutes" 3 0 Bool.false "" "" 0), (Go.Field.mk "Percent" 3 1 Bool.false "" "" 8)]) := ⟨Try.runUnderlying136⟩
instance : IsAgg Try.prog 136 true := ⟨Try.isAgg136⟩
instance : TySize Try.prog 136 2 := ⟨Try.sizeOf136⟩
instance : TyBytes Try.prog 136 16 := ⟨_, Try.typeInfo136, rfl⟩
instance : Zero Try.prog 136 [(Go.Value.int Go.IntKind.i64 0), (Go.Value.int Go.IntKind.i64 0)] := ⟨_, Try.zeroValue136, rfl⟩
instance : Fld Try.prog 136 0 0 := Fld.of (n := 1) ⟨Try.runUnderlying136⟩ rfl ⟨Try.sizeOf3⟩ (by decide) rfl
instance : Fld Try.prog 136 1 1 := Fld.of (n := 1) ⟨Try.runUnderlying136⟩ rfl ⟨Try.sizeOf3⟩ (by decide) rfl
instance : Places Try.prog 136 (fun i => ([(0, 1), (1, 1)] : List (Nat × Nat))[i]?) := Places.struct ⟨Try.runUnderlying136⟩ (.c Try.sizeOf3 (.c Try.sizeOf3 .n))
instance : Und Try.prog 137 (Go.TypeDesc.slice 138) := ⟨Try.runUnderlying137⟩
instance : IsAgg Try.prog 137 false := ⟨Try.isAgg137⟩
instance : TySize Try.prog 137 1 := ⟨Try.sizeOf137⟩
instance : TyBytes Try.prog 137 24 := ⟨_, Try.typeInfo137, rfl⟩
instance : Zero Try.prog 137 [(Go.Value.slice none 0 0)] := ⟨_, Try.zeroValue137, rfl⟩
instance : Und Try.prog 138 (Go.TypeDesc.struct #[(Go.Field.mk "Values" 24 0 Bool.false "" "" 0), (Go.Field.mk "Out" 3 1 Bool.false "" "" 24)]) := ⟨Try.runUnderlying138⟩
instance : IsAgg Try.prog 138 true := ⟨Try.isAgg138⟩
instance : TySize Try.prog 138 2 := ⟨Try.sizeOf138⟩
instance : TyBytes Try.prog 138 32 := ⟨_, Try.typeInfo138, rfl⟩
instance : Zero Try.prog 138 [(Go.Value.slice none 0 0), (Go.Value.int Go.IntKind.i64 0)] := ⟨_, Try.zeroValue138, rfl⟩
instance : Fld Try.prog 138 0 0 := Fld.of (n := 1) ⟨Try.runUnderlying138⟩ rfl ⟨Try.sizeOf24⟩ (by decide) rfl
instance : Fld Try.prog 138 1 1 := Fld.of (n := 1) ⟨Try.runUnderlying138⟩ rfl ⟨Try.sizeOf3⟩ (by decide) rfl
instance : Places Try.prog 138 (fun i => ([(0, 1), (1, 1)] : List (Nat × Nat))[i]?) := Places.struct ⟨Try.runUnderlying138⟩ (.c Try.sizeOf24 (.c Try.sizeOf3 .n))
instance : Und Try.prog 139 (Go.TypeDesc.struct #[(Go.Field.mk "Energy" 3 0 Bool.false "" "" 0), (Go.Field.mk "Amount" 3 1 Bool.false "" "" 8), (Go.Field.mk "Credit" 3 2 Bool.false "" "" 16), (Go.Field.mk "Due" 3 3 Bool.false "" "" 24)]) := ⟨Try.runUnderlying139⟩
instance : IsAgg Try.prog 139 true := ⟨Try.isAgg139⟩
instance : TySize Try.prog 139 4 := ⟨Try.sizeOf139⟩
instance : TyBytes Try.prog 139 32 := ⟨_, Try.typeInfo139, rfl⟩
instance : Zero Try.prog 139 [(Go.Value.int Go.IntKind.i64 0), (Go.Value.int Go.IntKind.i64 0), (Go.Value.int Go.IntKind.i64 0), (Go.Value.int Go.IntKind.i64 0)] := ⟨_, Try.zeroValue139, rfl⟩
instance : Fld Try.prog 139 0 0 := Fld.of (n := 1) ⟨Try.runUnderlying139⟩ rfl ⟨Try.sizeOf3⟩ (by decide) rfl
instance : Fld Try.prog 139 1 1 := Fld.of (n := 1) ⟨Try.runUnderlying139⟩ rfl ⟨Try.sizeOf3⟩ (by decide) rfl
instance : Fld Try.prog 139 2 2 := Fld.of (n := 1) ⟨Try.runUnderlying139⟩ rfl ⟨Try.sizeOf3⟩ (by decide) rfl
instance : Fld Try.prog 139 3 3 := Fld.of (n := 1) ⟨Try.runUnderlying139⟩ rfl ⟨Try.sizeOf3⟩ (by decide) rfl
instance : Places Try.prog 139 (fun i => ([(0, 1), (1, 1), (2, 1), (3, 1)] : List (Nat × Nat))[i]?) := Places.struct ⟨Try.runUnderlying139⟩ (.c Try.sizeOf3 (.c Try.sizeOf3 (.c Try.sizeOf3 (.c Try.sizeOf3 .n))))
instance : Und Try.prog 142 (Go.TypeDesc.slice 139) := ⟨Try.runUnderlying142⟩
instance : IsAgg Try.prog 142 false := ⟨Try.isAgg142⟩
instance : TySize Try.prog 142 1 := ⟨Try.sizeOf142⟩
instance : TyBytes Try.prog 142 24 := ⟨_, Try.typeInfo142, rfl⟩
instance : Zero Try.prog 142 [(Go.Value.slice none 0 0)] := ⟨_, Try.zeroValue142, rfl⟩
instance : Und Try.prog 157 (Go.TypeDesc.int Go.IntKind.u64) := ⟨Try.runUnderlying157⟩
instance : IsAgg Try.prog 157 false := ⟨Try.isAgg157⟩
instance : TySize Try.prog 157 1 := ⟨Try.sizeOf157⟩
instance : TyBytes Try.prog 157 8 := ⟨_, Try.typeInfo157, rfl⟩
instance : Zero Try.prog 157 [(Go.Value.int Go.IntKind.u64 0)] := ⟨_, Try.zeroValue157, rfl⟩
instance : Und Try.prog 161 (Go.TypeDesc.array 2 3) := ⟨Try.runUnderlying161⟩
instance : IsAgg Try.prog 161 true := ⟨Try.isAgg161⟩
instance : TySize Try.prog 161 2 := ⟨Try.sizeOf161⟩
instance : TyBytes Try.prog 161 16 := ⟨_, Try.typeInfo161, rfl⟩
instance : Zero Try.prog 161 [(Go.Value.int Go.IntKind.i64 0), (Go.Value.int Go.IntKind.i64 0)] := ⟨_, Try.zeroValue161, rfl⟩
instance : Places Try.prog 161 (fun i => some (i * 1, 1)) := Places.array ⟨Try.runUnderlying161⟩ ⟨Try.sizeOf3⟩
instance : Und Try.prog 163 (Go.TypeDesc.slice 166) := ⟨Try.runUnderlying163⟩
instance : IsAgg Try.prog 163 false := ⟨Try.isAgg163⟩
instance : TySize Try.prog 163 1 := ⟨Try.sizeOf163⟩
instance : TyBytes Try.prog 163 24 := ⟨_, Try.typeInfo163, rfl⟩
instance : Zero Try.prog 163 [(Go.Value.slice none 0 0)] := ⟨_, Try.zeroValue163, rfl⟩
instance : Und Try.prog 165 (Go.TypeDesc.struct #[(Go.Field.mk "Nodes" 163 0 Bool.false "" "" 0), (Go.Field.mk "Values" 24 1 Bool.false "" "" 24)]) := ⟨Try.runUnderlying165⟩
instance : IsAgg Try.prog 165 true := ⟨Try.isAgg165⟩
instance : TySize Try.prog 165 2 := ⟨Try.sizeOf165⟩
instance : TyBytes Try.prog 165 48 := ⟨_, Try.typeInfo165, rfl⟩
instance : Zero Try.prog 165 [(Go.Value.slice none 0 0), (Go.Value.slice none 0 0)] := ⟨_, Try.zeroValue165, rfl⟩
instance : Fld Try.prog 165 0 0 := Fld.of (n := 1) ⟨Try.runUnderlying165⟩ rfl ⟨Try.sizeOf163⟩ (by decide) rfl
instance : Fld Try.prog 165 1 1 := Fld.of (n := 1) ⟨Try.runUnderlying165⟩ rfl ⟨Try.sizeOf24⟩ (by decide) rfl
instance : Places Try.prog 165 (fun i => ([(0, 1), (1, 1)] : List (Nat × Nat))[i]?) := Places.struct ⟨Try.runUnderlying165⟩ (.c Try.sizeOf163 (.c Try.sizeOf24 .n))
instance : Und Try.prog 166 (Go.TypeDesc.struct #[(Go.Field.mk "Up" 3 0 Bool.false "" "" 0), (Go.Field.mk "Low" 3 1 Bool.false "" "" 8), (Go.Field.mk "High" 3 2 Bool.false "" "" 16)]) := ⟨Try.runUnderlying166⟩
instance : IsAgg Try.prog 166 true := ⟨Try.isAgg166⟩
instance : TySize Try.prog 166 3 := ⟨Try.sizeOf166⟩
instance : TyBytes Try.prog 166 24 := ⟨_, Try.typeInfo166, rfl⟩
instance : Zero Try.prog 166 [(Go.Value.int Go.IntKind.i64 0), (Go.Value.int Go.IntKind.i64 0), (Go.Value.int Go.IntKind.i64 0)] := ⟨_, Try.zeroValue166, rfl⟩
instance : Fld Try.prog 166 0 0 := Fld.of (n := 1) ⟨Try.runUnderlying166⟩ rfl ⟨Try.sizeOf3⟩ (by decide) rfl
instance : Fld Try.prog 166 1 1 := Fld.of (n := 1) ⟨Try.runUnderlying166⟩ rfl ⟨Try.sizeOf3⟩ (by decide) rfl
instance : Fld Try.prog 166 2 2 := Fld.of (n := 1) ⟨Try.runUnderlying166⟩ rfl ⟨Try.sizeOf3⟩ (by decide) rfl
instance : Places Try.prog 166 (fun i => ([(0, 1), (1, 1), (2, 1)] : List (Nat × Nat))[i]?) := Places.struct ⟨Try.runUnderlying166⟩ (.c Try.sizeOf3 (.c Try.sizeOf3 (.c Try.sizeOf3 .n)))
instance : Und Try.prog 175 (Go.TypeDesc.map 3 3) := ⟨Try.runUnderlying175⟩
instance : IsAgg Try.prog 175 false := ⟨Try.isAgg175⟩
instance : TySize Try.prog 175 1 := ⟨Try.sizeOf175⟩
instance : TyBytes Try.prog 175 8 := ⟨_, Try.typeInfo175, rfl⟩
instance : Zero Try.prog 175 [(Go.Value.map none)] := ⟨_, Try.zeroValue175, rfl⟩
instance : Und Try.prog 181 (Go.TypeDesc.func #[3] #[4] Bool.false) := ⟨Try.runUnderlying181⟩
instance : IsAgg Try.prog 181 false := ⟨Try.isAgg181⟩
instance : TySize Try.prog 181 1 := ⟨Try.sizeOf181⟩
instance : TyBytes Try.prog 181 8 := ⟨_, Try.typeInfo181, rfl⟩
instance : Zero Try.prog 181 [Go.Value.nilFunc] := ⟨_, Try.zeroValue181, rfl⟩
instance : Und Try.prog 182 (Go.TypeDesc.slice 186) := ⟨Try.runUnderlying182⟩
instance : IsAgg Try.prog 182 false := ⟨Try.isAgg182⟩
instance : TySize Try.prog 182 1 := ⟨Try.sizeOf182⟩
instance : TyBytes Try.prog 182 24 := ⟨_, Try.typeInfo182, rfl⟩
instance : Zero Try.prog 182 [(Go.Value.slice none 0 0)] := ⟨_, Try.zeroValue182, rfl⟩
instance : Und Try.prog 184 (Go.TypeDesc.struct #[(Go.Field.mk "Case" 50 0 Bool.true "" "" 0), (Go.Field.mk "set" 24 2 Bool.false "" "switchgear/meter" 48), (Go.Field.mk "may" 182 3 Bool.false "" "switchgear/meter" 72)]) := ⟨Try.runUnderlying184⟩
instance : IsAgg Try.prog 184 true := ⟨Try.isAgg184⟩
instance : TySize Try.prog 184 4 := ⟨Try.sizeOf184⟩
instance : TyBytes Try.prog 184 96 := ⟨_, Try.typeInfo184, rfl⟩
instance : Zero Try.prog 184 [(Go.Value.slice none 0 0), (Go.Value.slice none 0 0), (Go.Value.slice none 0 0), (Go.Value.slice none 0 0)] := ⟨_, Try.zeroValue184, rfl⟩
instance : Fld Try.prog 184 0 0 := Fld.of (n := 2) ⟨Try.runUnderlying184⟩ rfl ⟨Try.sizeOf50⟩ (by decide) rfl
instance : Fld Try.prog 184 1 2 := Fld.of (n := 1) ⟨Try.runUnderlying184⟩ rfl ⟨Try.sizeOf24⟩ (by decide) rfl
instance : Fld Try.prog 184 2 3 := Fld.of (n := 1) ⟨Try.runUnderlying184⟩ rfl ⟨Try.sizeOf182⟩ (by decide) rfl
instance : Places Try.prog 184 (fun i => ([(0, 2), (2, 1), (3, 1)] : List (Nat × Nat))[i]?) := Places.struct ⟨Try.runUnderlying184⟩ (.c Try.sizeOf50 (.c Try.sizeOf24 (.c Try.sizeOf182 .n)))
instance : Und Try.prog 186 (Go.TypeDesc.struct #[(Go.Field.mk "first" 3 0 Bool.false "" "switchgear/meter" 0), (Go.Field.mk "last" 3 1 Bool.false "" "switchgear/meter" 8)]) := ⟨Try.runUnderlying186⟩
instance : IsAgg Try.prog 186 true := ⟨Try.isAgg186⟩
instance : TySize Try.prog 186 2 := ⟨Try.sizeOf186⟩
instance : TyBytes Try.prog 186 16 := ⟨_, Try.typeInfo186, rfl⟩
instance : Zero Try.prog 186 [(Go.Value.int Go.IntKind.i64 0), (Go.Value.int Go.IntKind.i64 0)] := ⟨_, Try.zeroValue186, rfl⟩
instance : Fld Try.prog 186 0 0 := Fld.of (n := 1) ⟨Try.runUnderlying186⟩ rfl ⟨Try.sizeOf3⟩ (by decide) rfl
instance : Fld Try.prog 186 1 1 := Fld.of (n := 1) ⟨Try.runUnderlying186⟩ rfl ⟨Try.sizeOf3⟩ (by decide) rfl
instance : Places Try.prog 186 (fun i => ([(0, 1), (1, 1)] : List (Nat × Nat))[i]?) := Places.struct ⟨Try.runUnderlying186⟩ (.c Try.sizeOf3 (.c Try.sizeOf3 .n))
instance : Und Try.prog 191 (Go.TypeDesc.map 161 4) := ⟨Try.runUnderlying191⟩
instance : IsAgg Try.prog 191 false := ⟨Try.isAgg191⟩
instance : TySize Try.prog 191 1 := ⟨Try.sizeOf191⟩
instance : TyBytes Try.prog 191 8 := ⟨_, Try.typeInfo191, rfl⟩
instance : Zero Try.prog 191 [(Go.Value.map none)] := ⟨_, Try.zeroValue191, rfl⟩
instance : Und Try.prog 193 (Go.TypeDesc.struct #[(Go.Field.mk "key" 64 0 Bool.false "" "switchgear/meter" 0), (Go.Field.mk "last" 64 1 Bool.false "" "switchgear/meter" 8), (Go.Field.mk "seen" 191 2 Bool.false "" "switchgear/meter" 16)]) := ⟨Try.runUnderlying193⟩
instance : IsAgg Try.prog 193 true := ⟨Try.isAgg193⟩
instance : TySize Try.prog 193 3 := ⟨Try.sizeOf193⟩
instance : TyBytes Try.prog 193 24 := ⟨_, Try.typeInfo193, rfl⟩
instance : Zero Try.prog 193 [(Go.Value.int Go.IntKind.u64 0), (Go.Value.int Go.IntKind.u64 0), (Go.Value.map none)] := ⟨_, Try.zeroValue193, rfl⟩
instance : Fld Try.prog 193 0 0 := Fld.of (n := 1) ⟨Try.runUnderlying193⟩ rfl ⟨Try.sizeOf64⟩ (by decide) rfl
instance : Fld Try.prog 193 1 1 := Fld.of (n := 1) ⟨Try.runUnderlying193⟩ rfl ⟨Try.sizeOf64⟩ (by decide) rfl
instance : Fld Try.prog 193 2 2 := Fld.of (n := 1) ⟨Try.runUnderlying193⟩ rfl ⟨Try.sizeOf191⟩ (by decide) rfl
instance : Places Try.prog 193 (fun i => ([(0, 1), (1, 1), (2, 1)] : List (Nat × Nat))[i]?) := Places.struct ⟨Try.runUnderlying193⟩ (.c Try.sizeOf64 (.c Try.sizeOf64 (.c Try.sizeOf191 .n)))
instance : Und Try.prog 194 (Go.TypeDesc.slice 64) := ⟨Try.runUnderlying194⟩
instance : IsAgg Try.prog 194 false := ⟨Try.isAgg194⟩
instance : TySize Try.prog 194 1 := ⟨Try.sizeOf194⟩
instance : TyBytes Try.prog 194 24 := ⟨_, Try.typeInfo194, rfl⟩
instance : Zero Try.prog 194 [(Go.Value.slice none 0 0)] := ⟨_, Try.zeroValue194, rfl⟩
instance : Und Try.prog 204 (Go.TypeDesc.int Go.IntKind.u32) := ⟨Try.runUnderlying204⟩
instance : IsAgg Try.prog 204 false := ⟨Try.isAgg204⟩
instance : TySize Try.prog 204 1 := ⟨Try.sizeOf204⟩
instance : TyBytes Try.prog 204 4 := ⟨_, Try.typeInfo204, rfl⟩
instance : Zero Try.prog 204 [(Go.Value.int Go.IntKind.u32 0)] := ⟨_, Try.zeroValue204, rfl⟩
instance : Und Try.prog 210 (Go.TypeDesc.int Go.IntKind.i64) := ⟨Try.runUnderlying210⟩
instance : IsAgg Try.prog 210 false := ⟨Try.isAgg210⟩
instance : TySize Try.prog 210 1 := ⟨Try.sizeOf210⟩
instance : TyBytes Try.prog 210 8 := ⟨_, Try.typeInfo210, rfl⟩
instance : Zero Try.prog 210 [(Go.Value.int Go.IntKind.i64 0)] := ⟨_, Try.zeroValue210, rfl⟩
instance : Und Try.prog 221 (Go.TypeDesc.int Go.IntKind.u64) := ⟨Try.runUnderlying221⟩
instance : IsAgg Try.prog 221 false := ⟨Try.isAgg221⟩
instance : TySize Try.prog 221 1 := ⟨Try.sizeOf221⟩
instance : TyBytes Try.prog 221 8 := ⟨_, Try.typeInfo221, rfl⟩
instance : Zero Try.prog 221 [(Go.Value.int Go.IntKind.u64 0)] := ⟨_, Try.zeroValue221, rfl⟩
theorem _root_.Go.Proofs.Try.mixed : Try.prog.follows .mixedOrders = true := by kernel_rfl
end Go.X

set_option linter.unusedSimpArgs false
set_option linter.unusedVariables false
set_option maxRecDepth 20000
namespace Go.X
open Go.Proofs
def encNode (x : MNode) : List Value := [.int .i64 x.up, .int .i64 x.low, .int .i64 x.high]
def encIv (x : Iv) : List Value := [.int .i64 x.first, .int .i64 x.last]
theorem cloneI (v : Value) (h : PHeap) (xs : List Int) [s : Arr v encI 1 h xs] (hl : xs.length ≤ 68719476736) :
    Spec Try.prog 20 #[v] [] [h] (fun v' hs => ∃ h', hs = [h'] ∧ OArr v' encI 1 3 h' xs) := by
  refine Spec.intro (fn := Try.f20) (N := 8) Try.func20 rfl Try.ntmps20 rfl fun B => ?_
  refine XK.seq ?_
  refine XK.region rfl ?_
  refine XO.q (Q.assign rfl) ?_
  refine XO.done ?_
  refine XK.seq ?_
  refine XK.seq ?_
  refine XK.region rfl ?_
  refine XO.q (Q.move rfl) ?_
  refine XO.eqNil rfl fun z4 hz4 => ?_
  refine XO.done ?_
  refine XK.if rfl (fun c0 => ?_) (fun c0 => ?_)
  · have _t0 := True.intro
    refine XK.seq ?_
    refine XK.region rfl ?_
    refine XO.q (Q.assign rfl) ?_
    refine XO.done ?_
    refine XK.rt [emp] Try.func20 Try.results20 (.t rfl .n) ?_
    exact ⟨emp, rfl, by rw [(hz4 c0).1]; exact OArr.nil (fun _ => rfl)⟩
  · have _t0 := True.intro
    refine XK.skip ?_
    refine XK.seq ?_
    refine XK.region rfl ?_
    refine XO.lit [] [] [] encI (by rfl) (by rfl) rfl (by rfl) (by exact .n _) (fun _ => rfl) (by rfl) rfl (by infer_instance) rfl fun v5 h5 O5 => ?_
    refine XO.q (Q.move rfl) ?_
    refine XO.append rfl rfl rfl rfl (by first | omega | (simp; omega)) fun v7 h7 O7 => ?_
    refine XO.q (Q.assign rfl) ?_
    refine XO.done ?_
    refine XK.rt [h7] Try.func20 Try.results20 (.t rfl .n) ?_
    exact ⟨h7, rfl, O7⟩
theorem equalI (v1 v2 : Value) (h1 h2 : PHeap) (xs ys : List Int) [s1 : Arr v1 encI 1 h1 xs] [s2 : Arr v2 encI 1 h2 ys] :
    Spec Try.prog 51 #[v1, v2] [] [h1, h2] (fun v hs => v = .bool (decide (xs = ys)) ∧ hs = []) := by
  refine Spec.intro (fn := Try.f51) (N := 26) Try.func51 rfl Try.ntmps51 rfl fun B => ?_
  refine XK.seq ?_
  refine XK.region rfl ?_
  refine XO.q (Q.assign rfl) ?_
  refine XO.done ?_
  refine XK.seq ?_
  refine XK.seq ?_
  refine XK.region rfl ?_
  refine XO.q (Q.move rfl) ?_
  refine XO.len rfl fun l7 => ?_
  refine XO.q (Q.move rfl) ?_
  refine XO.len rfl fun l9 => ?_
  refine XO.q (Q.neq rfl rfl) ?_
  refine XO.done ?_
  refine XK.if rfl (fun c0 => ?_) (fun c0 => ?_)
  · have _t0 := True.intro
    refine XK.seq ?_
    refine XK.region rfl ?_
    refine XO.q (Q.assign rfl) ?_
    refine XO.done ?_
    refine XK.rt [] Try.func51 Try.results51 (.t rfl .n) ?_
    exact ⟨by rw [decide_eq_false (fun h => c0 (by rw [h]))], rfl⟩
  · have _t0 := True.intro
    refine XK.skip ?_
    refine XK.seq ?_
    refine XK.seq ?_
    refine XK.region rfl ?_
    refine XO.q (Q.move rfl) ?_
    refine XO.len rfl fun l12 => ?_
    refine XO.q (Q.move rfl) ?_
    refine XO.done ?_
    refine XK.block ?_
    refine XK.while (X := Nat) [4, 5, 13, 14, 15, 16, 17, 18, 19, 20, 21, 22, 23, 24, 25] (fun i => [(13, some (.int .i64 (i : Nat)))]) (fun i => []) (fun i => i ≤ xs.length ∧ xs.take i = ys.take i) (fun i => xs.length - i) (0) [] rfl ⟨by omega, rfl⟩ (.c rfl (.base 0 rfl rfl)) ?_
    rintro i ⟨hi, ht⟩ ih0
    dsimp only [List.cons_append, List.nil_append] at ih0 ⊢
    refine XK.seq ?_
    refine XK.region rfl ?_
    refine XO.q (Q.lss rfl rfl) ?_
    refine XO.done ?_
    refine XK.seq ?_
    refine XK.if rfl (fun c1 => ?_) (fun c1 => ?_)
    · have _t1 := True.intro
      refine XK.skip ?_
      refine XK.seq ?_
      refine XK.block ?_
      refine XK.seq ?_
      refine XK.region rfl ?_
      refine XO.q (Q.move rfl) ?_
      refine XO.q (Q.assign rfl) ?_
      refine XO.done ?_
      refine XK.seq ?_
      refine XK.drawn [0, 1, 2, 3, 4, 5, 6, 7, 8] [] [] (.q 0 (.q 1 (.q 2 (.q 3 (.q 4 (.q 5 (.q 6 (.q 7 (.q 8 .done))))))))) Try.mixed rfl (by kernel_rfl) ?_
      refine XT.q rfl rfl (Q.move rfl) ?_
      refine XT.q rfl rfl (Q.move rfl) ?_
      refine XT.ix rfl rfl rfl rfl (by omega) (by omega) fun i18 => ?_
      refine XT.q rfl rfl (Q.ldE rfl (by first | assumption | omega) rfl) ?_
      refine XT.q rfl rfl (Q.move rfl) ?_
      refine XT.q rfl rfl (Q.move rfl) ?_
      refine XT.ix rfl rfl rfl rfl (by omega) (by omega) fun i22 => ?_
      refine XT.q rfl rfl (Q.ldE rfl (by first | assumption | omega) rfl) ?_
      refine XT.q rfl rfl (Q.neq rfl rfl) ?_
      refine XT.done ?_
      refine XK.if rfl (fun c2 => ?_) (fun c2 => ?_)
      · have _t2 := True.intro
        refine XK.seq ?_
        refine XK.region rfl ?_
        refine XO.q (Q.assign rfl) ?_
        refine XO.done ?_
        refine XK.rt [] Try.func51 Try.results51 (.t rfl .n) ?_
        exact ⟨by rw [decide_eq_false (fun h => c2 (by rw [h]))], rfl⟩
      · have _t2 := True.intro
        refine XK.skip ?_
        refine XK.inBlock ?_
        refine XK.region rfl ?_
        refine XO.q (Q.add rfl rfl ⟨by omega, by omega⟩) ?_
        refine XO.q (Q.move rfl) ?_
        refine XO.done ?_
        exact ih0 (i + 1) _ _ ⟨by omega, take_step ht (by omega) (by omega) (Decidable.of_not_not c2)⟩ (by first | omega | (dsimp only; omega)) (.c rfl (.base 30 rfl rfl)) inferInstance
    · have _t1 := True.intro
      refine XK.exit rfl ?_
      refine XK.seq ?_
      refine XK.region rfl ?_
      refine XO.q (Q.assign rfl) ?_
      refine XO.done ?_
      refine XK.rt [] Try.func51 Try.results51 (.t rfl .n) ?_
      exact ⟨by rw [decide_eq_true (take_all ht c1 (by omega))], rfl⟩
theorem indexFuncI (v : Value) (h : PHeap) (xs : List Int) [s : Arr v encI 1 h xs] (gid : FuncId) (cap : List Value) (Hr : List PHeap) (p : Int → Bool)
    (hc : ∀ args w, (callFunc gid args).run Try.prog w = .ok (.enter gid args) w) (hS : ∀ x ∈ xs, Spec Try.prog gid (.int .i64 x :: cap).toArray [] Hr (fun v hs => v = .bool (p x) ∧ hs = [])) :
    Spec Try.prog 117 #[v, .func (.func gid) #[] cap.toArray] [] (h :: Hr) (fun v hs => v = .int .i64 (findFirst p xs) ∧ hs = []) := by
  refine Spec.intro (fn := Try.f117) (N := 19) Try.func117 rfl Try.ntmps117 rfl fun B => ?_
  refine XK.seq ?_
  refine XK.region rfl ?_
  refine XO.q (Q.assign rfl) ?_
  refine XO.done ?_
  refine XK.seq ?_
  refine XK.seq ?_
  refine XK.region rfl ?_
  refine XO.q (Q.move rfl) ?_
  refine XO.len rfl fun l7 => ?_
  refine XO.q (Q.move rfl) ?_
  refine XO.done ?_
  refine XK.block ?_
  refine XK.while (X := Nat) [4, 5, 8, 9, 10, 11, 12, 13, 14, 15, 16, 17, 18] (fun i => [(8, some (.int .i64 (i : Nat)))]) (fun i => []) (fun i => i ≤ xs.length ∧ (xs.take i).any p = false) (fun i => xs.length - i) (0) [] rfl ⟨by omega, rfl⟩ (.c rfl (.base 0 rfl rfl)) ?_
  rintro i ⟨hi, ht⟩ ih0
  dsimp only [List.cons_append, List.nil_append] at ih0 ⊢
  refine XK.seq ?_
  refine XK.region rfl ?_
  refine XO.q (Q.lss rfl rfl) ?_
  refine XO.done ?_
  refine XK.seq ?_
  refine XK.if rfl (fun c0 => ?_) (fun c0 => ?_)
  · have _t0 := True.intro
    refine XK.skip ?_
    refine XK.seq ?_
    refine XK.block ?_
    refine XK.seq ?_
    refine XK.region rfl ?_
    refine XO.q (Q.move rfl) ?_
    refine XO.q (Q.assign rfl) ?_
    refine XO.done ?_
    refine XK.seq ?_
    refine XK.region rfl ?_
    refine XO.q (Q.move rfl) ?_
    refine XO.q (Q.move rfl) ?_
    refine XO.q (Q.move rfl) ?_
    refine XO.ix rfl rfl (by omega) (by omega) fun i14 => ?_
    refine XO.q (Q.ldE rfl (by first | assumption | omega) rfl) ?_
    refine XO.call hc rfl rfl rfl (hS _ (getD_mem (by omega))) fun v16 s16 R16 => ?_
    obtain ⟨rfl, rfl⟩ := R16
    dsimp only [List.cons_append, List.nil_append]
    refine XO.done ?_
    refine XK.if rfl (fun c1 => ?_) (fun c1 => ?_)
    · have _t1 := True.intro
      refine XK.seq ?_
      refine XK.region rfl ?_
      refine XO.q (Q.move rfl) ?_
      refine XO.q (Q.assign rfl) ?_
      refine XO.done ?_
      refine XK.rt [] Try.func117 Try.results117 (.t rfl .n) ?_
      exact ⟨by rw [findFirst_here ht (by omega) c1], rfl⟩
    · have _t1 := True.intro
      refine XK.skip ?_
      refine XK.inBlock ?_
      refine XK.region rfl ?_
      refine XO.q (Q.add rfl rfl ⟨by omega, by omega⟩) ?_
      refine XO.q (Q.move rfl) ?_
      refine XO.done ?_
      exact ih0 (i + 1) _ _ ⟨by omega, any_step ht (by omega) (Bool.eq_false_iff.2 c1)⟩ (by first | omega | (dsimp only; omega)) (.c rfl (.base 25 rfl rfl)) inferInstance
  · have _t0 := True.intro
    refine XK.exit rfl ?_
    refine XK.seq ?_
    refine XK.region rfl ?_
    refine XO.q (Q.assign rfl) ?_
    refine XO.done ?_
    refine XK.rt [] Try.func117 Try.results117 (.t rfl .n) ?_
    exact ⟨by rw [findFirst_none ht c0], rfl⟩
theorem containsFuncI (v : Value) (h : PHeap) (xs : List Int) [s : Arr v encI 1 h xs] (gid : FuncId) (cap : List Value) (Hr : List PHeap) (p : Int → Bool)
    (hc : ∀ args w, (callFunc gid args).run Try.prog w = .ok (.enter gid args) w) (hS : ∀ x ∈ xs, Spec Try.prog gid (.int .i64 x :: cap).toArray [] Hr (fun v hs => v = .bool (p x) ∧ hs = [])) :
    Spec Try.prog 87 #[v, .func (.func gid) #[] cap.toArray] [] (h :: Hr) (fun v hs => v = .bool (xs.any p) ∧ hs = []) := by
  refine Spec.intro (fn := Try.f87) (N := 9) Try.func87 rfl Try.ntmps87 rfl fun B => ?_
  refine XK.seq ?_
  refine XK.region rfl ?_
  refine XO.q (Q.assign rfl) ?_
  refine XO.done ?_
  refine XK.seq ?_
  refine XK.region rfl ?_
  refine XO.q (Q.move rfl) ?_
  refine XO.q (Q.move rfl) ?_
  refine XO.call Try.call117 rfl rfl rfl (indexFuncI v h xs gid cap Hr p hc hS) fun v7 s7 R7 => ?_
  obtain ⟨rfl, rfl⟩ := R7
  dsimp only [List.cons_append, List.nil_append]
  refine XO.q (Q.geq rfl rfl) ?_
  refine XO.q (Q.assign rfl) ?_
  refine XO.done ?_
  refine XK.rt [] Try.func87 Try.results87 (.t rfl .n) ?_
  exact ⟨by rw [← findFirst_any], rfl⟩
theorem indexI (v : Value) (hh : PHeap) (xs : List Int) [s : Arr v encI 1 hh xs] (x : Int) : Spec Try.prog 58 #[v, .int .i64 x] [] [hh] (fun v hs => v = .int .i64 (findFirst (fun y => decide (x = y)) xs) ∧ hs = []) := by
  refine Spec.intro (fn := Try.f58) (N := 19) Try.func58 rfl Try.ntmps58 rfl fun B => ?_
  refine XK.seq ?_
  refine XK.region rfl ?_
  refine XO.q (Q.assign rfl) ?_
  refine XO.done ?_
  refine XK.seq ?_
  refine XK.seq ?_
  refine XK.region rfl ?_
  refine XO.q (Q.move rfl) ?_
  refine XO.len rfl fun l7 => ?_
  refine XO.q (Q.move rfl) ?_
  refine XO.done ?_
  refine XK.block ?_
  refine XK.while (X := Nat) [4, 5, 8, 9, 10, 11, 12, 13, 14, 15, 16, 17, 18] (fun i => [(8, some (.int .i64 (i : Nat)))]) (fun i => []) (fun i => i ≤ xs.length ∧ (xs.take i).any (fun y => decide (x = y)) = false) (fun i => xs.length - i) (0) [] rfl ⟨by omega, rfl⟩ (.c rfl (.base 0 rfl rfl)) ?_
  rintro i ⟨hi, hany⟩ ih0
  dsimp only [List.cons_append, List.nil_append] at ih0 ⊢
  refine XK.seq ?_
  refine XK.region rfl ?_
  refine XO.q (Q.lss rfl rfl) ?_
  refine XO.done ?_
  refine XK.seq ?_
  refine XK.if rfl (fun c0 => ?_) (fun c0 => ?_)
  · have _t0 := True.intro
    refine XK.skip ?_
    refine XK.seq ?_
    refine XK.block ?_
    refine XK.seq ?_
    refine XK.region rfl ?_
    refine XO.q (Q.move rfl) ?_
    refine XO.q (Q.assign rfl) ?_
    refine XO.done ?_
    refine XK.seq ?_
    refine XK.region rfl ?_
    refine XO.q (Q.move rfl) ?_
    refine XO.q (Q.move rfl) ?_
    refine XO.q (Q.move rfl) ?_
    refine XO.ix rfl rfl (by omega) (by omega) fun i14 => ?_
    refine XO.q (Q.ldE rfl (by first | assumption | omega) rfl) ?_
    refine XO.q (Q.eql rfl rfl) ?_
    refine XO.done ?_
    refine XK.if rfl (fun c1 => ?_) (fun c1 => ?_)
    · have _t1 := True.intro
      refine XK.seq ?_
      refine XK.region rfl ?_
      refine XO.q (Q.move rfl) ?_
      refine XO.q (Q.assign rfl) ?_
      refine XO.done ?_
      refine XK.rt [] Try.func58 Try.results58 (.t rfl .n) ?_
      exact ⟨by rw [findFirst_here hany (by omega) (by rw [decide_eq_true_eq]; exact c1)], rfl⟩
    · have _t1 := True.intro
      refine XK.skip ?_
      refine XK.inBlock ?_
      refine XK.region rfl ?_
      refine XO.q (Q.add rfl rfl ⟨by omega, by omega⟩) ?_
      refine XO.q (Q.move rfl) ?_
      refine XO.done ?_
      exact ih0 (i + 1) _ _ ⟨by omega, any_step hany (by omega) (by rw [decide_eq_false_iff_not]; exact c1)⟩ (by first | omega | (dsimp only; omega)) (.c rfl (.base 25 rfl rfl)) inferInstance
  · have _t0 := True.intro
    refine XK.exit rfl ?_
    refine XK.seq ?_
    refine XK.region rfl ?_
    refine XO.q (Q.assign rfl) ?_
    refine XO.done ?_
    refine XK.rt [] Try.func58 Try.results58 (.t rfl .n) ?_
    exact ⟨by rw [findFirst_none hany c0], rfl⟩
theorem containsI (v : Value) (hh : PHeap) (xs : List Int) [s : Arr v encI 1 hh xs] (x : Int) : Spec Try.prog 19 #[v, .int .i64 x] [] [hh] (fun v hs => v = .bool (xs.any (fun y => decide (x = y))) ∧ hs = []) := by
  refine Spec.intro (fn := Try.f19) (N := 9) Try.func19 rfl Try.ntmps19 rfl fun B => ?_
  refine XK.seq ?_
  refine XK.region rfl ?_
  refine XO.q (Q.assign rfl) ?_
  refine XO.done ?_
  refine XK.seq ?_
  refine XK.region rfl ?_
  refine XO.q (Q.move rfl) ?_
  refine XO.q (Q.move rfl) ?_
  refine XO.call Try.call58 rfl rfl rfl (indexI v hh xs x) fun v7 s7 R7 => ?_
  obtain ⟨rfl, rfl⟩ := R7
  dsimp only [List.cons_append, List.nil_append]
  refine XO.q (Q.geq rfl rfl) ?_
  refine XO.q (Q.assign rfl) ?_
  refine XO.done ?_
  refine XK.rt [] Try.func19 Try.results19 (.t rfl .n) ?_
  exact ⟨by rw [← findFirst_any], rfl⟩
theorem in1 (b : Nat) (m x : Int) : Spec Try.prog 88 #[.int .i64 x, ptr b 0] [] [blk b [.int .i64 m] 3] (fun v hs => v = .bool (outP m x) ∧ hs = []) := by
  refine Spec.intro (fn := Try.f88) (N := 11) Try.func88 rfl Try.ntmps88 rfl fun B => ?_
  refine XK.seq ?_
  refine XK.region rfl ?_
  refine XO.q (Q.assign rfl) ?_
  refine XO.done ?_
  refine XK.seq ?_
  refine XK.region rfl ?_
  refine XO.q (Q.move rfl) ?_
  refine XO.q (Q.lss rfl rfl) ?_
  refine XO.q (Q.move rfl) ?_
  refine XO.q (Quiet.guardF rfl rfl fun g7 p7 => Q.move rfl) ?_
  refine XO.q (Quiet.guardF rfl rfl fun g8 p8 => Q.ld rfl rfl) ?_
  refine XO.q (Quiet.guardF rfl rfl fun g9 p9 => Q.gtr (lzv g9 rfl) (lzv g9 rfl)) ?_
  refine XO.q (Q.or rfl (fun hp => lzv hp rfl)) ?_
  refine XO.q (Q.assign rfl) ?_
  refine XO.done ?_
  refine XK.rt [] Try.func88 Try.results88 (.t rfl .n) ?_
  exact ⟨rfl, rfl⟩
theorem in_spec11 (m : Int) (v : Value) (h : PHeap) (xs : List Int) [s : Arr v encI 1 h xs] : Spec Try.prog 47 #[.int .i64 m, v] [] [h] (fun v hs => v = .bool (inA m xs) ∧ hs = []) := by
  refine Spec.intro (fn := Try.f47) (N := 9) Try.func47 rfl Try.ntmps47 rfl fun B => ?_
  refine XK.seq ?_
  refine XK.region rfl ?_
  refine XO.box rfl fun b2 => ?_
  refine XO.q (Q.assign rfl) ?_
  refine XO.done ?_
  refine XK.seq ?_
  refine XK.region rfl ?_
  refine XO.q (Q.move rfl) ?_
  refine XO.q (Q.func (fun _ he => rfl) (fun _ he => evs_rel he rfl)) ?_
  refine XO.call Try.call87 rfl rfl rfl (containsFuncI v h xs 88 [ptr b2 0] [blk b2 [.int .i64 m] 3] (outP m) Try.call88 (fun x hx => in1 b2 m x)) fun v7 s7 R7 => ?_
  obtain ⟨rfl, rfl⟩ := R7
  dsimp only [List.cons_append, List.nil_append]
  refine XO.q (Q.not rfl) ?_
  refine XO.q (Q.assign rfl) ?_
  refine XO.done ?_
  refine XK.rt [] Try.func47 Try.results47 (.t rfl .n) ?_
  exact ⟨rfl, rfl⟩
theorem Check_spec11 (c : MCase) (vn vv : Value) (hn hv : PHeap) [jn : Arr vn encNode 3 hn c.nodes] [jv : Arr vv encI 1 hv c.vals] : Spec Try.prog 54 #[.agg #[vn, vv]] [] [hn, hv] (fun v hs => v = .int .i64 (mcheck c) ∧ hs = []) := by
  have ln := jn.le
  have lv := jv.le
  refine Spec.intro (fn := Try.f54) (N := 72) Try.func54 rfl Try.ntmps54 rfl fun B => ?_
  refine XK.seq ?_
  refine XK.region rfl ?_
  refine XO.box rfl fun b1 => ?_
  refine XO.q (Q.assign rfl) ?_
  refine XO.done ?_
  refine XK.seq ?_
  refine XK.seq ?_
  refine XK.region rfl ?_
  refine XO.q (Q.fieldAddr rfl) ?_
  refine XO.q (Q.ld rfl rfl) ?_
  refine XO.len rfl fun l7 => ?_
  refine XO.q (Q.lss rfl rfl) ?_
  refine XO.q (Q.move rfl) ?_
  refine XO.q (Quiet.guardF rfl rfl fun g10 p10 => Q.fieldAddr rfl) ?_
  refine XO.q (Quiet.guardF rfl rfl fun g11 p11 => Q.ld (lzv g11 rfl) rfl) ?_
  refine XO.q (Quiet.guardF rfl rfl fun g12 p12 => Q.len (lzv g12 rfl)) ?_
  refine XO.q (Quiet.guardF rfl rfl fun g13 p13 => Q.gtr (lzv g13 rfl) rfl) ?_
  refine XO.q (Q.or rfl (fun hp => lzv hp rfl)) ?_
  refine XO.done ?_
  refine XK.if rfl (fun c0 => ?_) (fun c0 => ?_)
  · have _t0 := True.intro
    refine XK.seq ?_
    refine XK.region rfl ?_
    refine XO.q (Q.assign rfl) ?_
    refine XO.done ?_
    refine XK.rt [] Try.func54 Try.results54 (.t rfl .n) ?_
    exact ⟨by rw [mcheck, if_pos c0], rfl⟩
  · have _t0 := True.intro
    refine XK.skip ?_
    refine XK.seq ?_
    refine XK.seq ?_
    refine XK.region rfl ?_
    refine XO.q (Q.fieldAddr rfl) ?_
    refine XO.q (Q.ld rfl rfl) ?_
    refine XO.len rfl fun l17 => ?_
    refine XO.q (Q.fieldAddr rfl) ?_
    refine XO.q (Q.ld rfl rfl) ?_
    refine XO.len rfl fun l20 => ?_
    refine XO.q (Q.neq rfl rfl) ?_
    refine XO.done ?_
    refine XK.if rfl (fun c1 => ?_) (fun c1 => ?_)
    · have _t1 := True.intro
      refine XK.seq ?_
      refine XK.region rfl ?_
      refine XO.q (Q.assign rfl) ?_
      refine XO.done ?_
      refine XK.rt [] Try.func54 Try.results54 (.t rfl .n) ?_
      exact ⟨by rw [mcheck, if_neg c0, if_pos c1], rfl⟩
    · have _t1 := True.intro
      refine XK.skip ?_
      refine XK.seq ?_
      refine XK.seq ?_
      refine XK.region rfl ?_
      refine XO.q (Q.fieldAddr rfl) ?_
      refine XO.q (Q.ld rfl rfl) ?_
      refine XO.len rfl fun l24 => ?_
      refine XO.q (Q.move rfl) ?_
      refine XO.done ?_
      refine XK.block ?_
      refine XK.while (X := Nat) [2, 3, 4, 25, 26, 27, 28, 29, 30, 31, 32, 33, 34, 35, 36, 37, 38, 39, 40, 41, 42, 43, 44, 45, 46, 47, 48, 49, 50, 51, 52, 53, 54, 55, 56, 57, 58, 59, 60, 61, 62, 63, 64, 65, 66, 67, 68, 69, 70, 71] (fun i => [(25, some (.int .i64 (i : Nat)))]) (fun i => []) (fun i => i ≤ c.nodes.length ∧ nodesOk c i = true) (fun i => c.nodes.length - i) (0) [] rfl ⟨by omega, rfl⟩ (.c rfl (.base 0 rfl rfl)) ?_
      rintro i ⟨hi, hall⟩ ih0
      dsimp only [List.cons_append, List.nil_append] at ih0 ⊢
      refine XK.seq ?_
      refine XK.region rfl ?_
      refine XO.q (Q.lss rfl rfl) ?_
      refine XO.done ?_
      refine XK.seq ?_
      refine XK.if rfl (fun c2 => ?_) (fun c2 => ?_)
      · have _t2 := True.intro
        refine XK.skip ?_
        refine XK.seq ?_
        refine XK.block ?_
        refine XK.seq ?_
        refine XK.region rfl ?_
        refine XO.q (Q.move rfl) ?_
        refine XO.ix rfl rfl (by omega) (by omega) fun i28 => ?_
        refine XO.q (Q.ldEA [_, _, _] rfl (by first | assumption | omega) rfl rfl) ?_
        refine XO.alloc fun b4 => ?_
        refine XO.q (Q.assign rfl) ?_
        refine XO.st rfl rfl rfl ?_
        refine XO.done ?_
        refine XK.seq ?_
        refine XK.drawn [0, 1, 2, 3, 4, 5, 6, 9, 10, 11, 12, 13, 14, 17, 18, 19, 20, 21, 22, 23, 24, 25, 26, 27, 28, 29, 30, 31, 32, 33, 34, 35, 38, 39, 40] [b4, b1] [] (.q 0 (.q 1 (.q 2 (.q 3 (.q 4 (.q 5 (.q 6 (.br 7 true (.br 8 true (.q 9 (.q 10 (.q 11 (.q 12 (.q 13 (.q 14 (.br 15 true (.br 16 true (.q 17 (.q 18 (.q 19 (.q 20 (.q 21 (.q 22 (.q 23 (.q 24 (.q 25 (.q 26 (.q 27 (.q 28 (.q 29 (.q 30 (.q 31 (.q 32 (.q 33 (.q 34 (.q 35 (.br 36 true (.br 37 true (.q 38 (.q 39 (.q 40 .done))) .stop) .stop)))))))))))))))))))) .stop) .stop))))))) .stop) .stop)))))))) Try.mixed rfl (by kernel_rfl) ?_
        refine XT.q rfl rfl (Q.fieldAddr rfl) ?_
        refine XT.q rfl rfl (Q.ld rfl rfl) ?_
        refine XT.q rfl rfl (Q.fieldAddr rfl) ?_
        refine XT.q rfl rfl (Q.ld rfl rfl) ?_
        refine XT.q rfl rfl (Q.move rfl) ?_
        refine XT.ix rfl rfl rfl rfl (by omega) (by omega) fun i35 => ?_
        refine XT.q rfl rfl (Q.ldE rfl (by first | assumption | omega) rfl) ?_
        refine XT.lit [_, _] [_, _] [(c.nodes.getD i default).high, c.vals.getD i default] encI rfl rfl (by rfl) (by rfl) rfl (by rfl) (by exact .c 0 1 rfl rfl rfl (.c 1 1 rfl rfl rfl (.n _))) (fun _ => rfl) (by rfl) rfl (by infer_instance) rfl (fun v37 h37 O37 => ⟨inferInstance, ?_⟩) XT.stop
        refine XT.call rfl rfl Try.call47 rfl rfl rfl (in_spec11 1000000000 v37 h37 [(c.nodes.getD i default).high, c.vals.getD i default]) (fun v38 s38 R38 => ?_) XT.stop
        obtain ⟨rfl, rfl⟩ := R38
        dsimp only [List.cons_append, List.nil_append]
        refine ⟨inferInstance, ?_⟩
        refine XT.q rfl rfl (Q.not rfl) ?_
        refine XT.q rfl rfl (Q.move rfl) ?_
        refine XT.q rfl rfl (Quiet.guardF rfl rfl fun g41 p41 => Q.fieldAddr rfl) ?_
        refine XT.q rfl rfl (Quiet.guardF rfl rfl fun g42 p42 => Q.ld (lzv g42 rfl) rfl) ?_
        refine XT.q rfl rfl (Quiet.guardF rfl rfl fun g43 p43 => Q.fieldAddr rfl) ?_
        refine XT.q rfl rfl (Quiet.guardF rfl rfl fun g44 p44 => Q.ld (lzv g44 rfl) rfl) ?_
        refine XT.lit1 [_] [_] [(c.nodes.getD i default).low] encI rfl rfl rfl rfl (by rfl) (by rfl) rfl (by rfl) (fun g45 => by exact .c 0 1 (lzv g45 rfl) rfl rfl (.n _)) (fun _ => rfl) (by rfl) rfl (fun _ => by infer_instance) rfl (fun v45 h45 O45 => ⟨inferInstance, ?_⟩) XT.stop
        refine XT.gcallF rfl rfl rfl rfl Try.call47 rfl (fun g46 => .c (lzv g46 rfl) (.c (lzv g46 rfl) .n)) rfl (fun g46 p46 => by haveI := O45 g46; exact in_spec11 (c.nodes.getD i default).high v45 h45 [(c.nodes.getD i default).low]) ⟨inferInstance, ?_⟩ XT.stop
        refine XT.q rfl rfl (Quiet.guardF rfl rfl fun g47 p47 => Q.not (lzv g47 rfl)) ?_
        refine XT.q rfl rfl (Q.or rfl (fun hp => lzv hp rfl)) ?_
        refine XT.q rfl rfl (Q.move rfl) ?_
        refine XT.q rfl rfl (Quiet.guardF rfl rfl fun g50 p50 => Q.move rfl) ?_
        refine XT.q rfl rfl (Quiet.guardF rfl rfl fun g51 p51 => Q.eql (lzv g51 rfl) rfl) ?_
        refine XT.q rfl rfl (Quiet.guardF rfl rfl fun g52 p52 => Q.move (lzv g52 rfl)) ?_
        refine XT.q rfl rfl (Quiet.guard2 rfl rfl fun g53a g53b => have p53a := bpF g53a; have p53b := bpT g53b; Q.fieldAddr rfl) ?_
        refine XT.q rfl rfl (Quiet.guard2 rfl rfl fun g54a g54b => have p54a := bpF g54a; have p54b := bpT g54b; Q.ld (lzv g54b (lzv g54a rfl)) rfl) ?_
        refine XT.q rfl rfl (Quiet.guard2 rfl rfl fun g55a g55b => have p55a := bpF g55a; have p55b := bpT g55b; Q.neq (lzv g55b (lzv g55a rfl)) rfl) ?_
        refine XT.q rfl rfl (Quiet.guardF rfl rfl fun g56 p56 => Q.and (lzv g56 rfl) (fun hp => (lzv hp (lzv g56 rfl)))) ?_
        refine XT.q rfl rfl (Q.or rfl (fun hp => lzv hp rfl)) ?_
        refine XT.q rfl rfl (Q.move rfl) ?_
        refine XT.q rfl rfl (Quiet.guardF rfl rfl fun g59 p59 => Q.move rfl) ?_
        refine XT.q rfl rfl (Quiet.guardF rfl rfl fun g60 p60 => Q.gtr (lzv g60 rfl) rfl) ?_
        refine XT.q rfl rfl (Quiet.guardF rfl rfl fun g61 p61 => Q.move (lzv g61 rfl)) ?_
        refine XT.q rfl rfl (Quiet.guard2 rfl rfl fun g62a g62b => have p62a := bpF g62a; have p62b := bpT g62b; Q.move rfl) ?_
        refine XT.q rfl rfl (Quiet.guard2 rfl rfl fun g63a g63b => have p63a := bpF g63a; have p63b := bpT g63b; Q.sub (lzv g63b (lzv g63a rfl)) rfl ⟨by omega, by omega⟩) ?_
        refine XT.q rfl rfl (Quiet.guard2 rfl rfl fun g64a g64b => have p64a := bpF g64a; have p64b := bpT g64b; Q.fieldAddr rfl) ?_
        refine XT.q rfl rfl (Quiet.guard2 rfl rfl fun g65a g65b => have p65a := bpF g65a; have p65b := bpT g65b; Q.ld (lzv g65b (lzv g65a rfl)) rfl) ?_
        refine XT.lit2 [_] [_] [(c.nodes.getD i default).up] encI rfl rfl rfl rfl (by rfl) (by rfl) rfl (by rfl) (fun g66a g66b => by exact .c 0 1 (lzv g66b (lzv g66a rfl)) rfl rfl (.n _)) (fun _ => rfl) (by rfl) rfl (fun _ _ => by infer_instance) rfl (fun v66 h66 O66 => ⟨inferInstance, ?_⟩) XT.stop
        refine XT.vg2 rfl rfl rfl rfl (fun g67a g67b => rfl) (fun g67a g67b => .c (lzv g67b (lzv g67a rfl)) (.c (lzv g67b (lzv g67a rfl)) .n)) (fun g67a g67b => have p67a := bpF g67a; have p67b := bpT g67b; VSpec.fn (P := Try.prog) Try.call47 rfl (by haveI := O66 g67a g67b; exact in_spec11 ((i : Int) - 1) v66 h66 [(c.nodes.getD i default).up])) ⟨inferInstance, ?_⟩ XT.stop
        refine XT.q rfl rfl (Quiet.guard2 rfl rfl fun g68a g68b => have p68a := bpF g68a; have p68b := bpT g68b; Q.not (lzv g68b (lzv g68a rfl))) ?_
        refine XT.q rfl rfl (Quiet.guardF rfl rfl fun g69 p69 => Q.and (lzv g69 rfl) (fun hp => (lzv hp (lzv g69 rfl)))) ?_
        refine XT.q rfl rfl (Q.or rfl (fun hp => lzv hp rfl)) ?_
        refine XT.done ?_
        refine XK.if rfl (fun c3 => ?_) (fun c3 => ?_)
        · have _t3 := True.intro
          refine XK.seq ?_
          refine XK.region rfl ?_
          refine XO.q (Q.assign rfl) ?_
          refine XO.done ?_
          refine XK.rt [] Try.func54 Try.results54 (.t rfl .n) ?_
          exact ⟨by rw [mcheck, if_neg c0, if_neg c1, if_neg (by rw [nodesOk, allTo_false (s := i) (by omega) (by rw [Bool.not_eq_false', decide_eq_true_eq]; exact c3)]; decide)], rfl⟩
        · have _t3 := True.intro
          refine XK.skip ?_
          refine XK.inBlock ?_
          refine XK.region rfl ?_
          refine XO.q (Q.add rfl rfl ⟨by omega, by omega⟩) ?_
          refine XO.q (Q.move rfl) ?_
          refine XO.done ?_
          exact ih0 (i + 1) _ _ ⟨by omega, by rw [nodesOk, allTo_succ]; rw [nodesOk] at hall; rw [hall, Bool.true_and, Bool.not_eq_true', decide_eq_false_iff_not]; exact c3⟩ (by first | omega | (dsimp only; omega)) (.c rfl (.base 100 rfl rfl)) inferInstance
      · have _t2 := True.intro
        refine XK.exit rfl ?_
        refine XK.seq ?_
        refine XK.region rfl ?_
        refine XO.q (Q.assign rfl) ?_
        refine XO.done ?_
        refine XK.rt [] Try.func54 Try.results54 (.t rfl .n) ?_
        have hin : i = c.nodes.length := by omega
        rw [hin] at hall
        exact ⟨by rw [mcheck, if_neg c0, if_neg c1, if_pos hall], rfl⟩
end Go.X

set_option linter.unusedSimpArgs false
set_option linter.unusedVariables false
set_option maxRecDepth 20000
namespace Go.X
open Go.Proofs
theorem sons_spec (c : MCase) (vn vv : Value) (hn : PHeap) [jn : Arr vn encNode 3 hn c.nodes] [ov : One vv] (hl : c.nodes.length ≤ 14) (i : Int) : Spec Try.prog 57 #[.agg #[vn, vv], .int .i64 i] [] [hn] (fun v hs => ∃ k, hs = [k] ∧ OArr v encI 1 3 k (ints (sonsTo c i c.nodes.length))) := by
  have hnil : OArr (.slice none 0 0) encI 1 3 emp ([] : List Int) := OArr.nil (fun _ => rfl)
  refine Spec.intro (fn := Try.f57) (N := 26) Try.func57 rfl Try.ntmps57 rfl fun B => ?_
  refine XK.seq ?_
  refine XK.region rfl ?_
  refine XO.box rfl fun b2 => ?_
  refine XO.q (Q.assign rfl) ?_
  refine XO.done ?_
  refine XK.seq ?_
  refine XK.region rfl ?_
  refine XO.q (Q.assign rfl) ?_
  refine XO.done ?_
  refine XK.seq ?_
  refine XK.seq ?_
  refine XK.region rfl ?_
  refine XO.q (Q.fieldAddr rfl) ?_
  refine XO.q (Q.ld rfl rfl) ?_
  refine XO.len rfl fun l10 => ?_
  refine XO.q (Q.move rfl) ?_
  refine XO.done ?_
  refine XK.block ?_
  refine XK.while (X := Nat × Value × PHeap) [5, 6, 7, 11, 12, 13, 14, 15, 16, 17, 18, 19, 20, 21, 22, 23, 24] (fun ⟨j, v5, k5⟩ => [(11, some (.int .i64 (j : Nat))), (5, some (v5))]) (fun ⟨j, v5, k5⟩ => [k5]) (fun ⟨j, v5, k5⟩ => j ≤ c.nodes.length ∧ OArr v5 encI 1 3 k5 (ints (sonsTo c i j))) (fun ⟨j, v5, k5⟩ => c.nodes.length - j) (0, .slice none 0 0, emp) [emp] rfl ⟨by omega, hnil⟩ (.c rfl (.c rfl (.base 0 rfl rfl))) ?_
  rintro ⟨j, v5, k5⟩ ⟨hj, O5⟩ ih0
  dsimp only [List.cons_append, List.nil_append] at ih0 ⊢
  refine XK.seq ?_
  refine XK.region rfl ?_
  refine XO.q (Q.lss rfl rfl) ?_
  refine XO.done ?_
  refine XK.seq ?_
  refine XK.if rfl (fun c0 => ?_) (fun c0 => ?_)
  · have _t0 := True.intro
    have hsl := sonsTo_len (c := c) (i := i) (n := j)
    refine XK.skip ?_
    refine XK.seq ?_
    refine XK.block ?_
    refine XK.seq ?_
    refine XK.region rfl ?_
    refine XO.q (Q.move rfl) ?_
    refine XO.ix rfl rfl (by omega) (by omega) fun i14 => ?_
    refine XO.q (Q.ldEA [_, _, _] rfl (by first | assumption | omega) rfl rfl) ?_
    refine XO.alloc fun b7 => ?_
    refine XO.q (Q.assign rfl) ?_
    refine XO.st rfl rfl rfl ?_
    refine XO.done ?_
    refine XK.seq ?_
    refine XK.region rfl ?_
    refine XO.q (Q.fieldAddr rfl) ?_
    refine XO.q (Q.ld rfl rfl) ?_
    refine XO.q (Q.move rfl) ?_
    refine XO.q (Q.eql rfl rfl) ?_
    refine XO.done ?_
    refine XK.if rfl (fun c1 => ?_) (fun c1 => ?_)
    · have _t1 := True.intro
      refine XK.region rfl ?_
      refine XO.q (Q.move rfl) ?_
      refine XO.q (Q.move rfl) ?_
      refine XO.lit [_] [_] [((j : Nat) : Int)] encI (by rfl) (by rfl) rfl (by rfl) (by exact .c 0 1 rfl rfl rfl (.n _)) (fun _ => rfl) (by rfl) rfl (by infer_instance) rfl fun v22 h22 O22 => ?_
      refine XO.append rfl rfl rfl rfl (by simp only [ints_len, List.length_cons, List.length_nil]; omega) fun v23 h23 O23 => ?_
      refine XO.q (Q.assign rfl) ?_
      refine XO.done ?_
      refine XK.inBlock ?_
      refine XK.region rfl ?_
      refine XO.q (Q.add rfl rfl ⟨by omega, by omega⟩) ?_
      refine XO.q (Q.move rfl) ?_
      refine XO.done ?_
      exact ih0 (j + 1, v23, h23) _ _ ⟨by dsimp only; omega, by dsimp only; rw [sonsTo, if_pos c1, ints_snoc]; exact O23⟩ (by first | omega | (dsimp only; omega)) (.c rfl (.c rfl (.base 36 rfl rfl))) inferInstance
    · have _t1 := True.intro
      refine XK.skip ?_
      refine XK.inBlock ?_
      refine XK.region rfl ?_
      refine XO.q (Q.add rfl rfl ⟨by omega, by omega⟩) ?_
      refine XO.q (Q.move rfl) ?_
      refine XO.done ?_
      exact ih0 (j + 1, v5, k5) _ _ ⟨by dsimp only; omega, by dsimp only; rw [sonsTo, if_neg c1]; exact O5⟩ (by first | omega | (dsimp only; omega)) (.c rfl (.c rfl (.base 31 rfl rfl))) inferInstance
  · have _t0 := True.intro
    refine XK.exit rfl ?_
    refine XK.seq ?_
    refine XK.region rfl ?_
    refine XO.q (Q.move rfl) ?_
    refine XO.q (Q.assign rfl) ?_
    refine XO.done ?_
    refine XK.rt [k5] Try.func57 Try.results57 (.t rfl .n) ?_
    have hin : j = c.nodes.length := by omega
    rw [hin] at O5
    exact ⟨k5, rfl, O5⟩
theorem cut_spec (x y : Iv) : Spec Try.prog 91 #[.agg #[.int .i64 x.first, .int .i64 x.last], .agg #[.int .i64 y.first, .int .i64 y.last]] [] [] (fun v hs => v = .agg #[.int .i64 (max x.first y.first), .int .i64 (min x.last y.last)] ∧ hs = []) := by
  refine Spec.intro (fn := Try.f91) (N := 16) Try.func91 rfl Try.ntmps91 rfl fun B => ?_
  refine XK.seq ?_
  refine XK.region rfl ?_
  refine XO.box rfl fun b2 => ?_
  refine XO.box rfl fun b3 => ?_
  refine XO.alloc fun b4 => ?_
  refine XO.done ?_
  refine XK.seq ?_
  refine XK.region rfl ?_
  refine XO.q (Q.fieldAddr rfl) ?_
  refine XO.q (Q.ld rfl rfl) ?_
  refine XO.q (Q.fieldAddr rfl) ?_
  refine XO.q (Q.ld rfl rfl) ?_
  refine XO.q (Q.max rfl rfl) ?_
  refine XO.q (Q.fieldAddr rfl) ?_
  refine XO.q (Q.ld rfl rfl) ?_
  refine XO.q (Q.fieldAddr rfl) ?_
  refine XO.q (Q.ld rfl rfl) ?_
  refine XO.q (Q.min rfl rfl) ?_
  refine XO.q (Q.build [_, _] (.c 0 1 rfl rfl rfl (.c 1 1 rfl rfl rfl (.n _)))) ?_
  refine XO.st rfl rfl rfl ?_
  refine XO.done ?_
  refine XK.rt [] Try.func91 Try.results91 (.cell [_, _] rfl rfl rfl (.n)) ?_
  exact ⟨rfl, rfl⟩
theorem none_spec (x : Iv) : Spec Try.prog 92 #[.agg #[.int .i64 x.first, .int .i64 x.last]] [] [] (fun v hs => v = .bool (decide (x.last < x.first)) ∧ hs = []) := by
  refine Spec.intro (fn := Try.f92) (N := 8) Try.func92 rfl Try.ntmps92 rfl fun B => ?_
  refine XK.seq ?_
  refine XK.region rfl ?_
  refine XO.box rfl fun b1 => ?_
  refine XO.q (Q.assign rfl) ?_
  refine XO.done ?_
  refine XK.seq ?_
  refine XK.region rfl ?_
  refine XO.q (Q.fieldAddr rfl) ?_
  refine XO.q (Q.ld rfl rfl) ?_
  refine XO.q (Q.fieldAddr rfl) ?_
  refine XO.q (Q.ld rfl rfl) ?_
  refine XO.q (Q.lss rfl rfl) ?_
  refine XO.q (Q.assign rfl) ?_
  refine XO.done ?_
  refine XK.rt [] Try.func92 Try.results92 (.t rfl .n) ?_
  exact ⟨rfl, rfl⟩
theorem behind_spec (c : MCase) (vn vv : Value) (hn hv : PHeap) [jn : Arr vn encNode 3 hn c.nodes] [jv : Arr vv encI 1 hv c.vals] (ok : MOk c) (set : List Int) (vs : Value) (hs_ : PHeap) [js : Arr vs encI 1 hs_ set] (b1 b2 b3 b4 bt : Nat) (vm : Value) :
    ∀ (m i : Nat), i < c.nodes.length → c.nodes.length - i ≤ m → ∀ (hm : PHeap) (ms : List Iv) (W : Nat → Prop), OArr vm encIv 2 186 hm ms → Wr c set W ms →
    Spec Try.prog 90 #[.int .i64 (i : Nat), ptr b1 0, ptr b2 0, ptr b3 0, ptr b4 0] [hm] [blk b1 [vs] 24, blk b2 [vn, vv] 50, blk b3 [(.func (.func 90) #[] #[ptr b1 0, ptr b2 0, ptr b3 0, ptr b4 0])] 181, blk b4 [ptr bt 0] 122, blk bt [vn, vv, vs, vm] 184, hn, hv, hs_]
      (fun v hs => ∃ h' ms' W', hs = [h'] ∧ OArr vm encIv 2 186 h' ms' ∧ Wr c set W' ms' ∧ (∀ j, W j → W' j) ∧ v = .bool (okN c set i) ∧ (okN c set i = true → W' i)) := by
  intro m
  induction m with
  | zero => intro i hi hm; omega
  | succ m ih =>
    intro i hi hm hm0 ms0 W0 OM0 wr0
    have n2 := ok.n2
    have nd := ok.node i hi
    have own := own_rng ok set hi
    have sl := sonsTo_len (c := c) (i := (i : Int)) (n := c.nodes.length)
    change (sonsN c i).length ≤ _ at sl
    have vl := ok.vl
    have il := ints_len (l := (sonsN c i))
    refine Spec.intro (fn := Try.f90) (N := 100) Try.func90 rfl Try.ntmps90 rfl fun B => ?_
    refine XK.seq ?_
    refine XK.region rfl ?_
    refine XO.q (Q.assign rfl) ?_
    refine XO.done ?_
    refine XK.seq ?_
    refine XK.region rfl ?_
    refine XO.q (Q.build [_, _] (.c 0 1 rfl rfl rfl (.c 1 1 rfl rfl rfl (.n _)))) ?_
    refine XO.alloc fun b7 => ?_
    refine XO.st rfl rfl rfl ?_
    refine XO.done ?_
    refine XK.seq ?_
    refine XK.seq ?_
    refine XK.region rfl ?_
    refine XO.q (Q.ld rfl rfl) ?_
    refine XO.q (Q.move rfl) ?_
    refine XO.call Try.call19 rfl rfl rfl (containsI vs hs_ set (i : Nat)) fun v15 s15 R15 => ?_
    obtain ⟨rfl, rfl⟩ := R15
    dsimp only [List.cons_append, List.nil_append]
    refine XO.q (Q.not rfl) ?_
    refine XO.done ?_
    refine XK.meet (X := Unit) [17, 18, 19, 20, 21, 22, 23, 24, 25, 26, 27] (fun ⟨⟩ => []) (fun ⟨⟩ => [blk b7 [.int .i64 ((ownIv c set i)).first, .int .i64 ((ownIv c set i)).last] 186]) (fun ⟨⟩ => True) [blk b7 [.int .i64 0, .int .i64 1000000000] 186] ?_ ?_
    · rintro ⟨⟩ _
      dsimp only [List.cons_append, List.nil_append]
      refine XK.seq ?_
      refine XK.region rfl ?_
      refine XO.q (Q.ldA [_, _] rfl rfl rfl) ?_
      refine XO.q (Q.move rfl) ?_
      refine XO.call Try.call57 rfl rfl rfl (sons_spec c vn vv hn n2 (i : Nat)) fun v30 s30 R30 => ?_
      obtain ⟨k30, rfl, O30⟩ := R30
      dsimp only [List.cons_append, List.nil_append]
      change OArr v30 encI 1 3 k30 (ints (sonsN c i)) at O30
      refine XO.q (Q.assign rfl) ?_
      refine XO.done ?_
      refine XK.seq ?_
      refine XK.region rfl ?_
      refine XO.alloc fun b9 => ?_
      refine XO.done ?_
      refine XK.seq ?_
      refine XK.seq ?_
      refine XK.region rfl ?_
      refine XO.q (Q.move rfl) ?_
      refine XO.len rfl fun l32 => ?_
      rw [ints_len]
      refine XO.q (Q.move rfl) ?_
      refine XO.done ?_
      refine XK.block ?_
      refine XK.while (X := Nat × PHeap × List Iv × (Nat → Prop)) [6, 11, 33, 34, 35, 36, 37, 38, 39, 40, 41, 42, 43, 44, 45, 46, 47, 48, 49, 50, 51, 52, 53, 54, 55, 56, 57, 58, 59, 60, 61, 62, 63, 64, 65] (fun ⟨j, hm, ms, W⟩ => [(33, some (.int .i64 (j : Nat)))]) (fun ⟨j, hm, ms, W⟩ => [hm, blk b9 [.int .i64 (sumFirst c set i j), .int .i64 (sumLast c set i j)] 186]) (fun ⟨j, hm, ms, W⟩ => j ≤ (sonsN c i).length ∧ OArr vm encIv 2 186 hm ms ∧ Wr c set W ms ∧ (∀ q, W0 q → W q) ∧ ∀ q, q < j → okN c set ((sonsN c i).getD q 0) = true ∧ W ((sonsN c i).getD q 0)) (fun ⟨j, hm, ms, W⟩ => (sonsN c i).length - j) (0, hm0, ms0, W0) [hm0, blk b9 [.int .i64 0, .int .i64 0] 186] rfl ⟨by omega, OM0, wr0, fun q hq => hq, fun q hq => by omega⟩ (.c rfl (.base 0 rfl rfl)) ?_
      rintro ⟨j, hm, ms, W⟩ ⟨hj, OM, wr, wmono, hdone⟩ ih0
      dsimp only [List.cons_append, List.nil_append] at ih0 ⊢
      refine XK.seq ?_
      refine XK.region rfl ?_
      refine XO.q (Q.lss rfl rfl) ?_
      refine XO.done ?_
      refine XK.seq ?_
      refine XK.if rfl (fun c1 => ?_) (fun c1 => ?_)
      · have _t1 := True.intro
        have sr := sums_rng ok hj (fun q hq => (hdone q hq).1)
        refine XK.skip ?_
        refine XK.seq ?_
        refine XK.block ?_
        refine XK.seq ?_
        refine XK.region rfl ?_
        refine XO.ix rfl rfl (by omega) (by omega) fun i35 => ?_
        refine XO.q (Q.ldE rfl (by first | assumption | omega) rfl) ?_
        rw [ints_at (by omega)]
        obtain ⟨k, ek⟩ : ∃ k, k = (sonsN c i).getD j 0 := ⟨_, rfl⟩
        rw [← ek]
        obtain ⟨k1, k2, k3⟩ := ok.son (i := i) (k := k) (by rw [ek]; exact getD_mem0 (by omega))
        refine XO.q (Q.assign rfl) ?_
        refine XO.done ?_
        refine XK.seq ?_
        refine XK.seq ?_
        refine XK.region rfl ?_
        refine XO.q (Q.ld rfl rfl) ?_
        refine XO.q (Q.move rfl) ?_
        refine XO.call Try.call90 rfl rfl rfl (ih k k1 (by omega) hm ms W OM wr) fun v39 s39 R39 => ?_
        obtain ⟨hm2, ms2, W2, rfl, OM2, wr2, wmono2, rfl, wok2⟩ := R39
        dsimp only [List.cons_append, List.nil_append]
        have w2l := wr2.len
        refine XO.q (Q.not rfl) ?_
        refine XO.done ?_
        refine XK.if rfl (fun c2 => ?_) (fun c2 => ?_)
        · have _t2 := True.intro
          refine XK.seq ?_
          refine XK.region rfl ?_
          refine XO.q (Q.assign rfl) ?_
          refine XO.done ?_
          refine XK.rt [hm2] Try.func90 Try.results90 (.t rfl .n) ?_
          exact ⟨hm2, ms2, W2, rfl, OM2, wr2, fun q hq => wmono2 q (wmono q hq), by rw [ok_eq ok set hi, allTo_false (s := j) (by omega) (by rw [← ek]; exact Bool.eq_false_iff.2 c2), Bool.false_and], fun h => by
                rw [ok_eq ok set hi, allTo_false (s := j) (by omega) (by rw [← ek]; exact Bool.eq_false_iff.2 c2), Bool.false_and] at h; cases h⟩
        · have _t2 := True.intro
          have okk : okN c set k = true := Classical.byContradiction c2
          have mr := may_rng ok set k1 okk
          have hdone2 : ∀ q, q < j + 1 → okN c set ((sonsN c i).getD q 0) = true ∧ W2 ((sonsN c i).getD q 0) := fun q hq => by
            by_cases hqj : q < j
            · exact ⟨(hdone q hqj).1, wmono2 _ (hdone q hqj).2⟩
            · rw [show q = j by omega, ← ek]; exact ⟨okk, wok2 okk⟩
          refine XK.skip ?_
          refine XK.seq ?_
          refine XK.drawn [0, 1, 2, 3, 4, 5, 6, 7, 8, 9, 10, 11] [b9, b4] [hm2] (.q 0 (.q 1 (.q 2 (.q 3 (.q 4 (.q 5 (.q 6 (.q 7 (.q 8 (.q 9 (.q 10 (.q 11 (.br 12 false .done .stop))))))))))))) Try.mixed rfl (by kernel_rfl) ?_
          refine XT.q rfl rfl (Q.fieldAddr rfl) ?_
          refine XT.q rfl rfl (Q.ld rfl rfl) ?_
          refine XT.q rfl rfl (Q.ld rfl rfl) ?_
          refine XT.q rfl rfl (Q.nilCheck rfl) ?_
          refine XT.q rfl rfl (Q.fieldAddr rfl) ?_
          refine XT.q rfl rfl (Q.ld rfl rfl) ?_
          refine XT.q rfl rfl (Q.move rfl) ?_
          refine XT.ix rfl rfl rfl rfl (by omega) (by omega) fun i48 => ?_
          refine XT.q rfl rfl (Q.fieldQ rfl (by first | assumption | omega)) ?_
          refine XT.q rfl rfl (Q.ldE rfl (by first | assumption | omega) rfl) ?_
          rw [wr2.val k (wok2 okk)]
          refine XT.q rfl rfl (Q.add rfl rfl ⟨by omega, by omega⟩) ?_
          rw [show sumFirst c set i j + (mayI c set k).first = sumFirst c set i (j + 1) by rw [sumFirst, sumFirst, sumTo, ← ek]]
          refine XT.q rfl rfl (Q.fieldAddr rfl) ?_
          refine XT.st rfl rfl rfl rfl rfl ⟨inferInstance, ?_⟩ XT.stop
          refine XT.done ?_
          refine XK.drawn [0, 1, 2, 3, 4, 5, 6, 7, 8, 9, 10, 11] [b9, b4] [hm2] (.q 0 (.q 1 (.q 2 (.q 3 (.q 4 (.q 5 (.q 6 (.q 7 (.q 8 (.q 9 (.q 10 (.q 11 (.br 12 false .done .stop))))))))))))) Try.mixed rfl (by kernel_rfl) ?_
          refine XT.q rfl rfl (Q.fieldAddr rfl) ?_
          refine XT.q rfl rfl (Q.ld rfl rfl) ?_
          refine XT.q rfl rfl (Q.ld rfl rfl) ?_
          refine XT.q rfl rfl (Q.nilCheck rfl) ?_
          refine XT.q rfl rfl (Q.fieldAddr rfl) ?_
          refine XT.q rfl rfl (Q.ld rfl rfl) ?_
          refine XT.q rfl rfl (Q.move rfl) ?_
          refine XT.ix rfl rfl rfl rfl (by omega) (by omega) fun i60 => ?_
          refine XT.q rfl rfl (Q.fieldQ rfl (by first | assumption | omega)) ?_
          refine XT.q rfl rfl (Q.ldE rfl (by first | assumption | omega) rfl) ?_
          rw [wr2.val k (wok2 okk)]
          refine XT.q rfl rfl (Q.add rfl rfl ⟨by omega, by omega⟩) ?_
          rw [show sumLast c set i j + (mayI c set k).last = sumLast c set i (j + 1) by rw [sumLast, sumLast, sumTo, ← ek]]
          refine XT.q rfl rfl (Q.fieldAddr rfl) ?_
          refine XT.st rfl rfl rfl rfl rfl ⟨inferInstance, ?_⟩ XT.stop
          refine XT.done ?_
          refine XK.inBlock ?_
          refine XK.region rfl ?_
          refine XO.q (Q.add rfl rfl ⟨by omega, by omega⟩) ?_
          refine XO.q (Q.move rfl) ?_
          refine XO.done ?_
          exact ih0 (j + 1, hm2, ms2, W2) _ _ ⟨by dsimp only; omega, OM2, wr2, fun q hq => wmono2 q (wmono q hq), hdone2⟩ (by first | omega | (dsimp only; omega)) (.c rfl (.base 70 rfl rfl)) inferInstance
      · have _t1 := True.intro
        have hjn : j = (sonsN c i).length := by omega
        subst hjn
        have wl := wr.len
        have sr := sums_rng ok hj (fun q hq => (hdone q hq).1)
        refine XK.exit rfl ?_
        refine XK.seq ?_
        refine XK.seq ?_
        refine XK.region rfl ?_
        refine XO.q (Q.move rfl) ?_
        refine XO.len rfl fun l67 => ?_
        rw [ints_len]
        refine XO.q (Q.gtr rfl rfl) ?_
        refine XO.done ?_
        refine XK.if rfl (fun c3 => ?_) (fun c3 => ?_)
        · have _t3 := True.intro
          have e0 := may_eq ok set hi
          rw [if_pos (by omega)] at e0
          have e1 : max (ownIv c set i).first (sumFirst c set i (sonsN c i).length + (c.nodes.getD i default).low) = (mayI c set i).first := by rw [e0]
          have e2 : min (ownIv c set i).last (sumLast c set i (sonsN c i).length + (c.nodes.getD i default).high) = (mayI c set i).last := by rw [e0]
          refine XK.drawn [0, 1, 2, 3, 4, 5, 6, 7, 8, 9, 10, 11, 12, 13, 14, 15, 16, 17, 18, 19] [b7, b9, b2] [] (.q 0 (.q 1 (.q 2 (.q 3 (.q 4 (.q 5 (.q 6 (.q 7 (.q 8 (.q 9 (.q 10 (.q 11 (.q 12 (.q 13 (.q 14 (.q 15 (.q 16 (.q 17 (.q 18 (.q 19 (.br 20 true (.br 21 false .done .stop) .stop))))))))))))))))))))) Try.mixed rfl (by kernel_rfl) ?_
          refine XT.q rfl rfl (Q.ldA [_, _] rfl rfl rfl) ?_
          refine XT.q rfl rfl (Q.fieldAddr rfl) ?_
          refine XT.q rfl rfl (Q.ld rfl rfl) ?_
          refine XT.q rfl rfl (Q.fieldAddr rfl) ?_
          refine XT.q rfl rfl (Q.ld rfl rfl) ?_
          refine XT.q rfl rfl (Q.move rfl) ?_
          refine XT.ix rfl rfl rfl rfl (by omega) (by omega) fun i75 => ?_
          refine XT.q rfl rfl (Q.fieldQ rfl (by first | assumption | omega)) ?_
          refine XT.q rfl rfl (Q.ldE rfl (by first | assumption | omega) rfl) ?_
          refine XT.q rfl rfl (Q.add rfl rfl ⟨by omega, by omega⟩) ?_
          refine XT.q rfl rfl (Q.fieldAddr rfl) ?_
          refine XT.q rfl rfl (Q.ld rfl rfl) ?_
          refine XT.q rfl rfl (Q.fieldAddr rfl) ?_
          refine XT.q rfl rfl (Q.ld rfl rfl) ?_
          refine XT.q rfl rfl (Q.move rfl) ?_
          refine XT.ix rfl rfl rfl rfl (by omega) (by omega) fun i84 => ?_
          refine XT.q rfl rfl (Q.fieldQ rfl (by first | assumption | omega)) ?_
          refine XT.q rfl rfl (Q.ldE rfl (by first | assumption | omega) rfl) ?_
          refine XT.q rfl rfl (Q.add rfl rfl ⟨by omega, by omega⟩) ?_
          refine XT.q rfl rfl (Q.build [_, _] (.c 0 1 rfl rfl rfl (.c 1 1 rfl rfl rfl (.n _)))) ?_
          refine XT.call rfl rfl Try.call91 rfl rfl rfl (cut_spec (ownIv c set i) ⟨sumFirst c set i (sonsN c i).length + (c.nodes.getD i default).low, sumLast c set i (sonsN c i).length + (c.nodes.getD i default).high⟩) (fun v89 s89 R89 => ?_) XT.stop
          obtain ⟨rfl, rfl⟩ := R89
          dsimp only [List.cons_append, List.nil_append]
          refine ⟨inferInstance, ?_⟩
          refine XT.st rfl rfl rfl rfl rfl ⟨inferInstance, ?_⟩ XT.stop
          rw [e1, e2]
          refine XT.done ?_
          refine XK.seq ?_
          refine XK.drawn [0, 1, 2, 3, 4, 5, 6] [b4, b7] [] (.q 0 (.q 1 (.q 2 (.q 3 (.q 4 (.q 5 (.q 6 (.br 7 false .done .stop)))))))) Try.mixed rfl (by kernel_rfl) ?_
          refine XT.q rfl rfl (Q.ld rfl rfl) ?_
          refine XT.q rfl rfl (Q.nilCheck rfl) ?_
          refine XT.q rfl rfl (Q.fieldAddr rfl) ?_
          refine XT.q rfl rfl (Q.ld rfl rfl) ?_
          refine XT.q rfl rfl (Q.move rfl) ?_
          refine XT.q rfl rfl (Q.ldA [_, _] rfl rfl rfl) ?_
          refine XT.ix rfl rfl rfl rfl (by omega) (by omega) fun i96 => ?_
          refine XT.stE (mayI c set i) rfl rfl rfl rfl rfl (by assumption) rfl rfl (fun h16_7 O16_7 => ⟨inferInstance, ?_⟩) XT.stop
          refine XT.done ?_
          refine XK.seq ?_
          refine XK.region rfl ?_
          refine XO.q (Q.ldA [_, _] rfl rfl rfl) ?_
          refine XO.call Try.call92 rfl rfl rfl (none_spec (mayI c set i)) fun v98 s98 R98 => ?_
          obtain ⟨rfl, rfl⟩ := R98
          dsimp only [List.cons_append, List.nil_append]
          refine XO.q (Q.not rfl) ?_
          refine XO.q (Q.assign rfl) ?_
          refine XO.done ?_
          refine XK.rt [h16_7] Try.func90 Try.results90 (.t rfl .n) ?_
          have eo : okN c set i = !decide ((mayI c set i).last < (mayI c set i).first) := by rw [ok_eq ok set hi, allTo_true (fun q hq => (hdone q hq).1), Bool.true_and]
          rw [← eo]
          by_cases hb : okN c set i = true
          · exact ⟨_, _, fun q => W q ∨ q = i, rfl, O16_7, wr.write hi hb (fun k hk => by obtain ⟨q, hq, rfl⟩ := mem_getD0 hk; exact (hdone q hq).2), fun q hq => .inl (wmono q hq), rfl, fun _ => .inr rfl⟩
          · exact ⟨_, _, W, rfl, O16_7, wr.other hi, wmono, rfl, fun h => absurd h hb⟩
        · have _t3 := True.intro
          have e0 := may_eq ok set hi
          rw [if_neg (by omega)] at e0
          rw [← e0]
          refine XK.skip ?_
          refine XK.seq ?_
          refine XK.drawn [0, 1, 2, 3, 4, 5, 6] [b4, b7] [] (.q 0 (.q 1 (.q 2 (.q 3 (.q 4 (.q 5 (.q 6 (.br 7 false .done .stop)))))))) Try.mixed rfl (by kernel_rfl) ?_
          refine XT.q rfl rfl (Q.ld rfl rfl) ?_
          refine XT.q rfl rfl (Q.nilCheck rfl) ?_
          refine XT.q rfl rfl (Q.fieldAddr rfl) ?_
          refine XT.q rfl rfl (Q.ld rfl rfl) ?_
          refine XT.q rfl rfl (Q.move rfl) ?_
          refine XT.q rfl rfl (Q.ldA [_, _] rfl rfl rfl) ?_
          refine XT.ix rfl rfl rfl rfl (by omega) (by omega) fun i96 => ?_
          refine XT.stE (mayI c set i) rfl rfl rfl rfl rfl (by assumption) rfl rfl (fun h16_7 O16_7 => ⟨inferInstance, ?_⟩) XT.stop
          refine XT.done ?_
          refine XK.seq ?_
          refine XK.region rfl ?_
          refine XO.q (Q.ldA [_, _] rfl rfl rfl) ?_
          refine XO.call Try.call92 rfl rfl rfl (none_spec (mayI c set i)) fun v98 s98 R98 => ?_
          obtain ⟨rfl, rfl⟩ := R98
          dsimp only [List.cons_append, List.nil_append]
          refine XO.q (Q.not rfl) ?_
          refine XO.q (Q.assign rfl) ?_
          refine XO.done ?_
          refine XK.rt [h16_7] Try.func90 Try.results90 (.t rfl .n) ?_
          have eo : okN c set i = !decide ((mayI c set i).last < (mayI c set i).first) := by rw [ok_eq ok set hi, allTo_true (fun q hq => (hdone q hq).1), Bool.true_and]
          rw [← eo]
          by_cases hb : okN c set i = true
          · exact ⟨_, _, fun q => W q ∨ q = i, rfl, O16_7, wr.write hi hb (fun k hk => by obtain ⟨q, hq, rfl⟩ := mem_getD0 hk; exact (hdone q hq).2), fun q hq => .inl (wmono q hq), rfl, fun _ => .inr rfl⟩
          · exact ⟨_, _, W, rfl, O16_7, wr.other hi, wmono, rfl, fun h => absurd h hb⟩
    · intro mt0
      dsimp only [List.cons_append, List.nil_append] at mt0
      refine XK.if rfl (fun c0 => ?_) (fun c0 => ?_)
      · have _t0 := True.intro
        refine XK.drawn [0, 1, 2, 3, 4, 5, 6, 7, 8, 9, 10] [b2] [] (.q 0 (.q 1 (.q 2 (.q 3 (.q 4 (.q 5 (.q 6 (.q 7 (.q 8 (.q 9 (.q 10 (.br 11 false .done .stop)))))))))))) Try.mixed rfl (by kernel_rfl) ?_
        refine XT.q rfl rfl (Q.fieldAddr rfl) ?_
        refine XT.q rfl rfl (Q.ld rfl rfl) ?_
        refine XT.q rfl rfl (Q.move rfl) ?_
        refine XT.ix rfl rfl rfl rfl (by omega) (by omega) fun i20 => ?_
        refine XT.q rfl rfl (Q.ldE rfl (by first | assumption | omega) rfl) ?_
        refine XT.q rfl rfl (Q.fieldAddr rfl) ?_
        refine XT.q rfl rfl (Q.ld rfl rfl) ?_
        refine XT.q rfl rfl (Q.move rfl) ?_
        refine XT.ix rfl rfl rfl rfl (by omega) (by omega) fun i25 => ?_
        refine XT.q rfl rfl (Q.ldE rfl (by first | assumption | omega) rfl) ?_
        refine XT.q rfl rfl (Q.build [_, _] (.c 0 1 rfl rfl rfl (.c 1 1 rfl rfl rfl (.n _)))) ?_
        refine XT.st rfl rfl rfl rfl rfl ⟨inferInstance, ?_⟩ XT.stop
        refine XT.done ?_
        have e1 : (ownIv c set i).first = c.vals.getD i default := by rw [ownIv, if_neg c0]; rfl
        have e2 : (ownIv c set i).last = c.vals.getD i default := by rw [ownIv, if_neg c0]; rfl
        rw [e1, e2] at mt0
        exact mt0 (()) _ _ trivial (.base 11 rfl rfl) inferInstance
      · have _t0 := True.intro
        refine XK.skip ?_
        have c0 := Decidable.of_not_not c0
        have e1 : (ownIv c set i).first = 0 := by rw [ownIv, if_pos c0]
        have e2 : (ownIv c set i).last = 1000000000 := by rw [ownIv, if_pos c0]
        rw [e1, e2] at mt0
        exact mt0 (()) _ _ trivial (.base 0 rfl rfl) inferInstance
end Go.X
