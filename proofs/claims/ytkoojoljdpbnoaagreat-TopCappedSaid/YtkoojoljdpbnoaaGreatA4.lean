/- A part of the proof: a small program logic, plain laws and contracts of functions, each proved by a walk through its operations. No condition but those that stand in each theorem. -/
import Derived.Test.YtkoojoljdpbnoaaGreatA3
import Derived.KernelRfl
import Derived.Test.YtkoojoljdpbnoaaGreatProg
/- Chances grow with the list; what fits still fits with less. No condition. -/
set_option linter.unusedVariables false
namespace Go.X.Pl
theorem mul_le_cancel {a b c : Int} (hc : 1 ≤ c) : a * c ≤ b * c ↔ a ≤ b := ⟨fun h => Int.le_of_mul_le_mul_right h (by omega), fun h => Int.mul_le_mul_of_nonneg_right h (by omega)⟩
/-- A part of all is at most a fraction. -/
theorem atMost_iff {n all : Int} {m : PRat} (hn : 0 ≤ n ∧ n ≤ all) (ha : 1 ≤ all) : atMostB (ratG n all) m = true ↔ n * m.d ≤ m.n * all := by
  have x := rat_cross (n := n) ha
  have r := rat_rng hn ha
  unfold atMostB
  rw [decide_eq_true_eq, ← mul_le_cancel (c := all) ha, ← mul_le_cancel (a := n * m.d) (c := (ratG n all).d) r.2.1]
  generalize ratG n all = q at *
  have e1 : q.n * m.d * all = n * m.d * q.d := by rw [Int.mul_right_comm, x, Int.mul_right_comm]
  have e2 : m.n * q.d * all = m.n * all * q.d := Int.mul_right_comm ..
  rw [e1, e2]
theorem count_flat {L : List Int} {f : Int → List Int} {p q : Int → Bool} {c : Nat} (h : ∀ s ∈ L, p s = true → c ≤ (f s).countP q) : L.countP p * c ≤ (L.flatMap f).countP q := by
  induction L with
  | nil => simp
  | cons a L ih =>
    have i := ih fun s hs => h s (List.mem_cons_of_mem _ hs)
    have ha := h a List.mem_cons_self
    rw [List.flatMap_cons, List.countP_append, List.countP_cons]
    by_cases hp : p a = true
    · rw [if_pos hp, Nat.add_mul, Nat.one_mul]
      have := ha hp
      omega
    · rw [if_neg hp, Nat.add_zero]; omega
theorem over_step {j : PJob} (ok : PJobOk j) (L : List Int) (lim : Int) : (overN L lim : Int) * totalJ j ≤ (overN (step1 L j) lim : Nat) := by
  have t := (total_rng ok).1
  have h := count_flat (L := L) (f := fun s => j.draws.flatMap fun d => List.replicate d.count.toNat (s + d.power)) (p := fun s => decide (lim < s)) (q := fun s => decide (lim < s)) (c := (totalJ j).toNat) fun s hs hp => by
    have rl := reps_len ok s
    rw [List.countP_eq_length.2 fun x hx => ?_]
    · omega
    · obtain ⟨d, hd, hx⟩ := List.mem_flatMap.1 hx
      have := (List.mem_replicate.1 hx).2
      have hp := of_decide_eq_true hp
      have := (mem_draws ok hd).1
      exact decide_eq_true (by omega)
  have e : ((L.countP (fun s => decide (lim < s)) * (totalJ j).toNat : Nat) : Int) = (overN L lim : Int) * totalJ j := by
    rw [Int.natCast_mul]; unfold overN; rw [show (((totalJ j).toNat : Nat) : Int) = totalJ j by omega]
  unfold overN at *
  unfold step1
  omega
theorem need_app (l : List PJob) (x : PJob) (k : Nat) : ∀ i, i ≤ l.length → needK (l ++ [x]) k i = needK l k i
  | 0, _ => rfl
  | i + 1, h => by
    rw [needK, needK, need_app l x k i (by omega), List.getD_eq_getElem?_getD, List.getElem?_append_left (by omega), ← List.getD_eq_getElem?_getD]
theorem need_last (l : List PJob) (x : PJob) (k : Nat) : needK (l ++ [x]) k (l ++ [x]).length = needK l k l.length + needOf x k := by
  rw [List.length_append, show ([x] : List PJob).length = 1 from rfl, needK, need_app l x k _ (Nat.le_refl _), List.getD_eq_getElem?_getD, List.getElem?_append_right (Nat.le_refl _), Nat.sub_self]; rfl
theorem lok_app {l : List PJob} {x : PJob} (ok : ListOk (l ++ [x])) : ListOk l ∧ PJobOk x := by
  have hl : (l ++ [x]).length = l.length + 1 := List.length_append
  refine ⟨⟨by have := ok.few; omega, fun i hi => ?_, fun i hi => ?_⟩, ?_⟩
  · have := ok.job i (by omega)
    rwa [List.getD_eq_getElem?_getD, List.getElem?_append_left hi, ← List.getD_eq_getElem?_getD] at this
  · have := ok.prod i (by omega)
    rwa [prodJ_app _ _ _ hi] at this
  have := ok.job l.length (by rw [List.length_append]; simp)
  rwa [List.getD_eq_getElem?_getD, List.getElem?_append_right (Nat.le_refl _), Nat.sub_self] at this
theorem combos_all {l : List PJob} (ok : ListOk l) : ((combos l).length : Int) = prodJ l l.length ∧ 1 ≤ prodJ l l.length := by
  have := combos_len ok _ (Nat.le_refl _)
  rw [List.take_length] at this
  exact ⟨this, prod_pos ok _ (Nat.le_refl _)⟩
theorem over_bound {l : List PJob} (ok : ListOk l) (lim : Int) : (0 ≤ ((overN (combos l) lim : Nat) : Int) ∧ ((overN (combos l) lim : Nat) : Int) ≤ prodJ l l.length) := by
  have a := over_len (combos l) lim
  have b := (combos_all ok).1
  omega
/-- What a list's chance is at most. -/
theorem chance_iff {l : List PJob} (ok : ListOk l) (lim : Int) (m : PRat) : atMostB (overG l lim (prodJ l l.length)) m = true ↔ ((overN (combos l) lim : Nat) : Int) * m.d ≤ m.n * prodJ l l.length := atMost_iff (over_bound ok lim) (combos_all ok).2
/-- A longer list is over the limit at least as often. -/
theorem over_more {l : List PJob} {x : PJob} (ok : ListOk (l ++ [x])) (lim : Int) : ((overN (combos l) lim : Nat) : Int) * prodJ (l ++ [x]) (l ++ [x]).length ≤ ((overN (combos (l ++ [x])) lim : Nat) : Int) * prodJ l l.length := by
  obtain ⟨okl, okx⟩ := lok_app ok
  have s := over_step okx (combos l) lim
  have c := (combos_all okl).2
  rw [combos_snoc, List.length_append, show ([x] : List PJob).length = 1 from rfl, prodJ_last, Int.mul_comm (prodJ l l.length), ← Int.mul_assoc]
  exact Int.mul_le_mul_of_nonneg_right s (by omega)
theorem fits_prefix {l : List PJob} {x : PJob} {r : PRack} {m : PRat} (ok : ListOk (l ++ [x])) (hm : 1 ≤ m.d) (h : fitsG (l ++ [x]) r m = true) : fitsG l r m = true := by
  obtain ⟨okl, okx⟩ := lok_app ok
  have n := pin_three.1 okx.need
  unfold fitsG at h ⊢
  rw [need_last, need_last, need_last, Bool.and_eq_true, Bool.and_eq_true, Bool.and_eq_true, decide_eq_true_eq, decide_eq_true_eq, decide_eq_true_eq, chance_iff ok] at h
  obtain ⟨⟨⟨h0, h1⟩, h2⟩, h3⟩ := h
  change _ + x.n0 ≤ _ at h0
  change _ + x.n1 ≤ _ at h1
  change _ + x.n2 ≤ _ at h2
  rw [Bool.and_eq_true, Bool.and_eq_true, Bool.and_eq_true, decide_eq_true_eq, decide_eq_true_eq, decide_eq_true_eq, chance_iff okl]
  refine ⟨⟨⟨by omega, by omega⟩, by omega⟩, ?_⟩
  have mo := over_more ok r.cap
  have c1 := (combos_all okl).2
  have c2 := (combos_all ok).2
  rw [← mul_le_cancel (c := prodJ (l ++ [x]) (l ++ [x]).length) c2]
  have e1 := Int.mul_le_mul_of_nonneg_right mo (show (0 : Int) ≤ m.d by omega)
  have e2 := Int.mul_le_mul_of_nonneg_right h3 (show (0 : Int) ≤ prodJ l l.length by omega)
  generalize prodJ (l ++ [x]) (l ++ [x]).length = P2 at *
  generalize prodJ l l.length = P1 at *
  generalize ((overN (combos l) r.cap : Nat) : Int) = o1 at *
  generalize ((overN (combos (l ++ [x])) r.cap : Nat) : Int) = o2 at *
  have a1 : o1 * m.d * P2 = o1 * P2 * m.d := Int.mul_right_comm ..
  have a2 : o2 * P1 * m.d = o2 * m.d * P1 := Int.mul_right_comm ..
  have a3 : m.n * P2 * P1 = m.n * P1 * P2 := Int.mul_right_comm ..
  omega
theorem fits_nil {r : PRack} {m : PRat} (hr : rackR r = true) (hm : 0 ≤ m.n) : fitsG [] r m = true := by
  unfold rackR at hr
  rw [Bool.and_eq_true, Bool.and_eq_true] at hr
  have a := pin_three.1 hr.1.1
  have b := pin_one.1 hr.1.2
  have ok : ListOk ([] : List PJob) := ⟨Nat.zero_le _, fun i hi => absurd hi (Nat.not_lt_zero i), fun i hi => by rw [show i = 0 by simpa using hi]; decide⟩
  unfold fitsG
  rw [Bool.and_eq_true, Bool.and_eq_true, Bool.and_eq_true, decide_eq_true_eq, decide_eq_true_eq, decide_eq_true_eq, chance_iff ok]
  refine ⟨⟨⟨a.1.1, a.2.1.1⟩, a.2.2.1⟩, ?_⟩
  have : overN (combos []) r.cap = 0 := by
    unfold overN
    rw [List.countP_eq_zero]
    intro s hs
    rw [combos, List.foldl_nil, List.mem_singleton] at hs
    rw [decide_eq_true_eq]; omega
  rw [this]
  show (0 : Int) * m.d ≤ m.n * 1
  omega
end Go.X.Pl

/- The search finds the best; its proof holds; what holds is the best. No condition. -/
set_option linter.unusedVariables false
namespace Go.X.Pl
theorem snoc_old {w : List Int} {y : Int} {i : Nat} (h : i < w.length) : (w ++ [y]).getD i default = w.getD i default := by
  rw [List.getD_eq_getElem?_getD, List.getElem?_append_left h, ← List.getD_eq_getElem?_getD]
theorem snoc_new {w : List Int} {y : Int} : (w ++ [y]).getD w.length default = y := by
  rw [List.getD_eq_getElem?_getD, List.getElem?_append_right (Nat.le_refl _), Nat.sub_self]; rfl
theorem inTo_snoc {α : Type} [Inhabited α] {l : List α} {w : List Int} {y r : Int} : ∀ n, n ≤ w.length → inTo l (w ++ [y]) r n = inTo l w r n
  | 0, _ => rfl
  | n + 1, h => by rw [inTo, inTo, inTo_snoc n (by omega), snoc_old (by omega)]
theorem inL_snoc (t : PTask) (w : List Int) (y r : Int) : inL t (w ++ [y]) r = inL t w r ++ (if y = r then [t.jobs.getD w.length default] else []) := by
  unfold inL
  rw [List.length_append, show ([y] : List Int).length = 1 from rfl, inTo, inTo_snoc _ (Nat.le_refl _), snoc_new]
theorem skip_snoc {t : PTask} {w : List Int} {y : Int} {i : Nat} (h : i < w.length) : skipK t (w ++ [y]) i = skipK t w i := by rw [skipK, skipK, snoc_old h]
theorem key_snoc {t : PTask} {w : List Int} {y : Int} {i : Nat} (h : i < w.length) : keyOf t (w ++ [y]) i = keyOf t w i := by rw [keyOf, keyOf, snoc_old h]
theorem keys_snoc {t : PTask} {w : List Int} {y : Int} : ∀ n, n ≤ w.length → keysTo t (w ++ [y]) n = keysTo t w n
  | 0, _ => rfl
  | n + 1, h => by rw [keysTo, keysTo, keys_snoc n (by omega), skip_snoc (by omega), key_snoc (by omega)]
theorem apartTo_snoc {t : PTask} {w : List Int} {y : Int} : ∀ n, n ≤ w.length → apartTo t (w ++ [y]) n = apartTo t w n
  | 0, _ => rfl
  | n + 1, h => by rw [apartTo, apartTo, apartTo_snoc n (by omega), skip_snoc (by omega), key_snoc (by omega), keys_snoc n (by omega)]
theorem apart_prefix {t : PTask} {w : List Int} {y : Int} (h : apartG t (w ++ [y]) = true) : apartG t w = true := by
  unfold apartG at *
  rw [List.length_append, show ([y] : List Int).length = 1 from rfl, apartTo, apartTo_snoc _ (Nat.le_refl _), Bool.and_eq_true] at h
  exact h.1
theorem apart_out {t : PTask} {w : List Int} (h : apartG t w = true) : apartG t (w ++ [-1]) = true := by
  unfold apartG at *
  rw [List.length_append, show ([-1] : List Int).length = 1 from rfl, apartTo, apartTo_snoc _ (Nat.le_refl _), h, skipK, snoc_new]
  rfl
theorem fitTo_iff {t : PTask} {w : List Int} : ∀ {n}, fitTo t w n = true ↔ ∀ r, r < n → fitAt t w r = true
  | 0 => ⟨fun _ r hr => absurd hr (Nat.not_lt_zero r), fun _ => rfl⟩
  | n + 1 => by
    rw [fitTo, Bool.and_eq_true, fitTo_iff]
    exact ⟨fun ⟨a, b⟩ r hr => by
      by_cases he : r = n
      · rw [he]; exact b
      · exact a r (by omega), fun h => ⟨fun r hr => h r (by omega), h n (by omega)⟩⟩
theorem allowed_iff {t : PTask} {w : List Int} : allowedB t w = true ↔ (∀ r, r < t.racks.length → fitAt t w r = true) ∧ apartG t w = true := by
  rw [allowedB, Bool.and_eq_true, fitTo_iff]
theorem fit_same {t : PTask} {w : List Int} {y : Int} {r : Nat} (h : y ≠ (r : Int)) : fitAt t (w ++ [y]) r = fitAt t w r := by
  rw [fitAt, fitAt, inL_snoc, if_neg h, List.append_nil]
theorem inL_ok {t : PTask} (lok : ListOk t.jobs) {w : List Int} (h : w.length ≤ t.jobs.length) (r : Int) : ListOk (inL t w r) := lok.inTo w r h
theorem fit_prefix {t : PTask} (ok : TaskOk t) (lok : ListOk t.jobs) {w : List Int} {y : Int} (hl : w.length < t.jobs.length) {r : Nat} (h : fitAt t (w ++ [y]) r = true) : fitAt t w r = true := by
  by_cases hy : y = (r : Int)
  · have k := inL_ok lok (w := w ++ [y]) (by rw [List.length_append]; simp; omega) (r : Int)
    rw [fitAt, inL_snoc, if_pos hy] at h
    rw [inL_snoc, if_pos hy] at k
    exact fits_prefix k (chanceR_pos ok.most) h
  · rwa [fit_same hy] at h
theorem allowed_prefix {t : PTask} (ok : TaskOk t) (lok : ListOk t.jobs) {w : List Int} {y : Int} (hl : w.length < t.jobs.length) (h : allowedB t (w ++ [y]) = true) : allowedB t w = true := by
  rw [allowed_iff] at *
  exact ⟨fun r hr => fit_prefix ok lok hl (h.1 r hr), apart_prefix h.2⟩
theorem psonsTo_memT {t : PTask} {w x : List Int} : ∀ {n}, x ∈ psonsTo t w n → ∃ r : Nat, r < n ∧ x = w ++ [(r : Int)] ∧ sonOk t w r = true
  | 0, h => by cases h
  | n + 1, h => by
    rw [psonsTo] at h
    rcases List.mem_append.1 h with h | h
    · obtain ⟨r, a, b, c⟩ := psonsTo_memT h
      exact ⟨r, by omega, b, c⟩
    · split at h
      · rw [List.mem_singleton] at h
        exact ⟨n, by omega, h, ‹_›⟩
      · cases h
theorem sons_allowed {t : PTask} {w x : List Int} (h : allowedB t w = true) (hx : x ∈ psons t w) : allowedB t x = true := by
  rw [allowed_iff] at h ⊢
  rw [psons] at hx
  rcases List.mem_append.1 hx with hx | hx
  · obtain ⟨r, hr, rfl, hs⟩ := psonsTo_memT hx
    rw [sonOk, Bool.and_eq_true] at hs
    refine ⟨fun q hq => ?_, hs.2⟩
    by_cases he : (r : Int) = q
    · have : r = q := by omega
      subst this; exact hs.1
    · rw [fit_same he]; exact h.1 q hq
  · rw [List.mem_singleton] at hx
    subst hx
    refine ⟨fun q hq => ?_, apart_out h.2⟩
    rw [fit_same (by omega)]; exact h.1 q hq
theorem son_of {t : PTask} {w : List Int} {y : Int} (h : allowedB t (w ++ [y]) = true) (h1 : -1 ≤ y) (h2 : y < t.racks.length) : ∃ i, i < (psons t w).length ∧ (psons t w).getD i default = w ++ [y] := by
  by_cases hy : y = -1
  · subst hy
    exact ⟨_, by rw [psons_len]; exact Nat.lt_succ_self _, psons_last t w⟩
  · obtain ⟨r, rfl⟩ := Int.eq_ofNat_of_zero_le (show 0 ≤ y by omega)
    rw [allowed_iff] at h
    have := psons_at (t := t) (w := w) (r := r) (by omega) (by rw [sonOk, Bool.and_eq_true]; exact ⟨h.1 r (by omega), h.2⟩)
    exact ⟨_, this.2, this.1⟩
theorem takes_allowed {t : PTask} (ok : TaskOk t) (lok : ListOk t.jobs) {w : List Int} (hw : w.length = t.jobs.length) (h : allowedB t w = true) : ∀ d, d ≤ w.length → allowedB t (w.take (w.length - d)) = true
  | 0, _ => by rw [Nat.sub_zero, List.take_length]; exact h
  | d + 1, hd => by
    have ih := takes_allowed ok lok hw h d (by omega)
    rw [show w.length - d = (w.length - (d + 1)) + 1 by omega, take_snocP (by omega)] at ih
    exact allowed_prefix ok lok (by rw [List.length_take]; omega) ih
/-- What lies below a node bounds every allowed placement that goes on from it. -/
theorem below_reach {t : PTask} (ok : TaskOk t) (lok : ListOk t.jobs) {b : Int} {w : List Int} (wok : WOk t w) (hw : w.length = t.jobs.length) (h : allowedB t w = true) : ∀ f, f ≤ w.length → belowF t b f (w.take (w.length - f)) → worthG t w ≤ b
  | 0, _, k => by rw [Nat.sub_zero, List.take_length] at k; exact k
  | f + 1, hf, k => by
    have ta := takes_allowed ok lok hw h f (by omega)
    rw [show w.length - f = (w.length - (f + 1)) + 1 by omega, take_snocP (by omega)] at ta
    have rg := wok.rng (w.length - (f + 1)) (by omega)
    obtain ⟨i, hi, e⟩ := son_of ta rg.1 rg.2
    refine below_reach ok lok wok hw h f (by omega) ?_
    have := k i hi
    rw [e] at this
    rw [show w.length - f = (w.length - (f + 1)) + 1 by omega, take_snocP (by omega)]
    exact this
theorem below_all {t : PTask} (ok : TaskOk t) (lok : ListOk t.jobs) {b : Int} (k : belowG t b []) {w : List Int} (wok : WOk t w) (hw : w.length = t.jobs.length) (h : allowedB t w = true) : worthG t w ≤ b := by
  refine below_reach ok lok wok hw h w.length (Nat.le_refl _) ?_
  rw [Nat.sub_self, List.take_zero]
  unfold belowG at k
  rw [hw]; exact k
/-- A whole placement that is allowed. -/
structure Whole (t : PTask) (s : List Int × Int) : Prop where
  wok : WOk t s.1
  len : s.1.length = t.jobs.length
  all : allowedB t s.1 = true
  wor : worthG t s.1 = s.2
theorem look_whole {t : PTask} : ∀ m w s, WOk t w → t.jobs.length - w.length ≤ m → allowedB t w = true → lookG t w s = s ∨ Whole t (lookG t w s)
  | m, w, s, wok, hm, ha => by
    rw [lookF_eq wok.len]
    split
    · exact .inl rfl
    · split
      · exact .inr ⟨wok, ‹_›, ha, rfl⟩
      · rename_i h1 h2
        have hl := wok.len
        cases m with
        | zero => omega
        | succ m =>
          have step : ∀ n, n ≤ (psons t w).length → foldTo (fun s son => lookG t son s) (psons t w) s n = s ∨ Whole t (foldTo (fun s son => lookG t son s) (psons t w) s n) := by
            intro n
            induction n with
            | zero => intro _; exact .inl rfl
            | succ n ih =>
              intro hn
              obtain ⟨y, e, y1, y2⟩ := psons_get (t := t) (w := w) (i := n) (by omega)
              have al := sons_allowed ha (getD_mem (xs := psons t w) (i := n) (by omega))
              have q := look_whole m ((psons t w).getD n default) (foldTo (fun s son => lookG t son s) (psons t w) s n) (by rw [e]; exact wok.snoc (by omega) y1 y2) (by rw [e, List.length_append]; simp; omega) al
              rw [foldTo]
              rcases q with q | q
              · rw [q]; exact ih (by omega)
              · exact .inr q
          exact step _ (Nat.le_refl _)
theorem allowed_nil {t : PTask} (ok : TaskOk t) : allowedB t [] = true := by
  rw [allowed_iff]
  exact ⟨fun r hr => fits_nil (ok.rack r hr) (chanceR_rng ok.most).1.1, rfl⟩
theorem outs_whole {t : PTask} (ok : TaskOk t) : ∀ n, n ≤ t.jobs.length → WOk t (List.replicate n (-1)) ∧ allowedB t (List.replicate n (-1)) = true
  | 0, _ => ⟨wok_nil t, allowed_nil ok⟩
  | n + 1, h => by
    obtain ⟨a, b⟩ := outs_whole ok n (by omega)
    rw [List.replicate_succ']
    exact ⟨a.snoc (by rw [List.length_replicate]; omega) (Int.le_refl _) (by have := ok.rk1; omega), sons_allowed b (by rw [psons]; simp)⟩
theorem best_whole {t : PTask} (ok : TaskOk t) (lok : ListOk t.jobs) : Whole t (lookG t [] ([], -1)) ∧ belowG t (lookG t [] ([], -1)).2 [] := by
  have bl := (look_below ok _ [] ([], -1) (Nat.zero_le _) (Nat.le_refl _)).2
  refine ⟨?_, bl⟩
  rcases look_whole _ [] ([], -1) (wok_nil t) (Nat.le_refl _) (allowed_nil ok) with h | h
  · rw [h] at bl
    obtain ⟨a, b⟩ := outs_whole ok _ (Nat.le_refl _)
    have q := below_all ok lok bl a (by rw [List.length_replicate]) b
    have p := (worth_rng ok (w := List.replicate t.jobs.length (-1)) (List.replicate t.jobs.length (-1)).length (by rw [List.length_replicate]; exact Nat.le_refl _)).1
    unfold worthG at q
    omega
  · exact h
theorem formed_of {t : PTask} (ok : TaskOk t) (lok : ListOk t.jobs) {w : List Int} (wok : WOk t w) (hw : w.length = t.jobs.length) : formedG t w = 0 := by
  have ref : ∀ n, refTo t w n = 0 := by
    intro n
    induction n with
    | zero => rfl
    | succ n ih => rw [refTo, if_neg (by rw [ih]; decide)]; exact listed_ok.2 (inL_ok lok (by omega) _)
  unfold formedG
  rw [if_neg (by rw [pcheck_iff.2 ok]; decide), if_neg ?_]
  · exact ref _
  · rintro (h | h)
    · exact h (by omega)
    · rw [any_false_of fun i hi => ?_] at h
      · cases h
      · have := wok.rng i hi
        rw [outW, Bool.or_eq_false_iff, decide_eq_false_iff_not, decide_eq_false_iff_not]; omega
/-! ### the proof holds -/
theorem fold_prefix {t : PTask} {b : Int} {w : List Int} (h : ∀ i, i < (psons t w).length → ∀ p, ∃ q, proveG t b ((psons t w).getD i default) p = p ++ q) (p : List Bool) : ∀ n, n ≤ (psons t w).length → ∃ q, foldTo (fun p son => proveG t b son p) (psons t w) p n = p ++ q
  | 0, _ => ⟨[], by rw [List.append_nil]; rfl⟩
  | n + 1, hn => by
    obtain ⟨q, e⟩ := fold_prefix h p n (by omega)
    obtain ⟨q2, e2⟩ := h n (by omega) (foldTo (fun p son => proveG t b son p) (psons t w) p n)
    exact ⟨q ++ q2, by rw [foldTo, e2, e, List.append_assoc]⟩
theorem prove_prefix {t : PTask} {b : Int} : ∀ m w p, w.length ≤ t.jobs.length → t.jobs.length - w.length ≤ m → belowG t b w → ∃ q, proveG t b w p = p ++ q
  | m, w, p, hw, hm, k => by
    rw [prove_case hw k]
    by_cases h : hopeG t w ≤ b
    · rw [if_pos h]; exact ⟨_, rfl⟩
    · rw [if_neg h]
      have hl : ¬ w.length = t.jobs.length := fun e => h (cut_leaf k e)
      cases m with
      | zero => omega
      | succ m =>
        obtain ⟨q, e⟩ := fold_prefix (t := t) (b := b) (w := w) (fun i hi p => by
          obtain ⟨y, e, _⟩ := psons_get hi
          exact prove_prefix m _ p (by rw [e, List.length_append]; simp; omega) (by rw [e, List.length_append]; simp; omega) (below_son (by omega) k hi)) (p ++ [false]) _ (Nat.le_refl _)
        exact ⟨[false] ++ q, by rw [e, List.append_assoc]⟩
theorem fold_more {t : PTask} {b : Int} {w : List Int} (h : ∀ i, i < (psons t w).length → ∀ p, ∃ q, proveG t b ((psons t w).getD i default) p = p ++ q) (p : List Bool) {n : Nat} : ∀ m, n ≤ m → m ≤ (psons t w).length → ∃ q, foldTo (fun p son => proveG t b son p) (psons t w) p m = foldTo (fun p son => proveG t b son p) (psons t w) p n ++ q
  | 0, hn, _ => ⟨[], by rw [show n = 0 by omega, List.append_nil]⟩
  | m + 1, hn, hm => by
    by_cases he : n = m + 1
    · subst he; exact ⟨[], by rw [List.append_nil]⟩
    · obtain ⟨q, e⟩ := fold_more h p (n := n) m (by omega) (by omega)
      obtain ⟨q2, e2⟩ := h m (by omega) (foldTo (fun p son => proveG t b son p) (psons t w) p m)
      exact ⟨q ++ q2, by rw [foldTo, e2, e, List.append_assoc]⟩
theorem holds_prove {t : PTask} {b : Int} : ∀ m w p z, w.length ≤ t.jobs.length → t.jobs.length - w.length ≤ m → belowG t b w → holdsG t (proveG t b w p ++ z) b w p.length = (true, (proveG t b w p).length)
  | m, w, p, z, hw, hm, k => by
    rw [holds_eq hw, prove_case hw k]
    by_cases h : hopeG t w ≤ b
    · rw [if_pos h, if_neg (by simp only [List.length_append, List.length_cons, List.length_nil]; omega), if_pos (by rw [List.append_assoc, List.getD_eq_getElem?_getD, List.getElem?_append_right (Nat.le_refl _), Nat.sub_self]; rfl), decide_eq_true h, List.length_append]; rfl
    · rw [if_neg h]
      have hl : ¬ w.length = t.jobs.length := fun e => h (cut_leaf k e)
      cases m with
      | zero => omega
      | succ m =>
        have pre : ∀ i, i < (psons t w).length → ∀ p, ∃ q, proveG t b ((psons t w).getD i default) p = p ++ q := fun i hi p => by
          obtain ⟨y, e, _⟩ := psons_get hi
          exact prove_prefix m _ p (by rw [e, List.length_append]; simp; omega) (by rw [e, List.length_append]; simp; omega) (below_son (by omega) k hi)
        obtain ⟨q, eq⟩ := fold_prefix pre (p ++ [false]) _ (Nat.le_refl _)
        have step : ∀ n, n ≤ (psons t w).length → holdsTo t (foldTo (fun p son => proveG t b son p) (psons t w) (p ++ [false]) (psons t w).length ++ z) b w p.length n = (true, (foldTo (fun p son => proveG t b son p) (psons t w) (p ++ [false]) n).length) := by
          intro n
          induction n with
          | zero => intro _; rw [holdsTo, foldTo, foldTo, List.length_append]; rfl
          | succ n ih =>
            intro hn
            have ih := ih (by omega)
            obtain ⟨y, e, _⟩ := psons_get (t := t) (w := w) (i := n) (by omega)
            obtain ⟨q2, e2⟩ := fold_more pre (p ++ [false]) (n := n + 1) _ hn (Nat.le_refl _)
            have hh := holds_prove m ((psons t w).getD n default) (foldTo (fun p son => proveG t b son p) (psons t w) (p ++ [false]) n) (q2 ++ z) (by rw [e, List.length_append]; simp; omega) (by rw [e, List.length_append]; simp; omega) (below_son (by omega) k (by omega))
            unfold holdsTo at ih ⊢
            rw [foldTo, ih, if_pos rfl, e2, List.append_assoc]
            exact hh
        have a := step _ (Nat.le_refl _)
        rw [if_neg, if_neg, if_neg hl, a]
        · rw [eq, List.append_assoc, List.append_assoc, List.getD_eq_getElem?_getD, List.getElem?_append_right (Nat.le_refl _), Nat.sub_self]; simp
        · rw [eq]; simp only [List.length_append, List.length_cons, List.length_nil]; omega
/-- The law of Best. -/
theorem best_law {t : PTask} (rd : readyG t = 0) : (formedG t (bestP t).1 = 0 ∧ allowedB t (bestP t).1 = true ∧ worthG t (bestP t).1 = (bestP t).2.1) ∧ verifyP t (bestP t).1 (bestP t).2.1 (bestP t).2.2 = 0 ∧ ∀ w, formedG t w = 0 → allowedB t w = true → worthG t w ≤ (bestP t).2.1 := by
  obtain ⟨ok, lok⟩ := ready_ok rd
  obtain ⟨wh, bl⟩ := best_whole ok lok
  have fm := formed_of ok lok wh.wok wh.len
  refine ⟨⟨fm, wh.all, wh.wor⟩, ?_, fun w hf ha => ?_⟩
  · have hp := holds_prove (t := t) (b := (lookG t [] ([], -1)).2) _ [] [] [] (Nat.zero_le _) (Nat.le_refl _) bl
    rw [List.append_nil] at hp
    rw [verifyP, if_neg (by rw [rd]; decide), if_neg (by rintro (h | h); exact h fm; exact h wh.all)]
    refine if_neg ?_
    rintro (h | h | h)
    · exact h wh.wor
    · exact h (by show (holdsG t (proveG t (lookG t [] ([], -1)).2 [] []) (lookG t [] ([], -1)).2 [] 0).1 = true; rw [show (0 : Nat) = ([] : List Bool).length from rfl, hp])
    · exact h (by show (holdsG t (proveG t (lookG t [] ([], -1)).2 [] []) (lookG t [] ([], -1)).2 [] 0).2 = _; rw [show (0 : Nat) = ([] : List Bool).length from rfl, hp]; rfl)
  · obtain ⟨_, wok, hw, _⟩ := formed_iff hf
    exact below_all ok lok bl wok hw ha
end Go.X.Pl

/- The best placement: what each rack holds is within its cap, with the chance that the task states. No condition. -/
set_option linter.unusedVariables false
namespace Go.X.Pl
theorem best_fits {t : PTask} (rd : readyG t = 0) {r : Nat} (hr : r < t.racks.length) : ListOk (inL t (bestP t).1 (r : Int)) ∧ (chanceG (inL t (bestP t).1 (r : Int)) (t.racks.getD r default).cap).2 = 0 ∧
    (chanceG (inL t (bestP t).1 (r : Int)) (t.racks.getD r default).cap).1.n * t.most.d ≤ t.most.n * (chanceG (inL t (bestP t).1 (r : Int)) (t.racks.getD r default).cap).1.d ∧
    (0 ≤ (chanceG (inL t (bestP t).1 (r : Int)) (t.racks.getD r default).cap).1.n ∧ (chanceG (inL t (bestP t).1 (r : Int)) (t.racks.getD r default).cap).1.n ≤ 1099511627776) ∧ (0 ≤ (chanceG (inL t (bestP t).1 (r : Int)) (t.racks.getD r default).cap).1.d ∧ (chanceG (inL t (bestP t).1 (r : Int)) (t.racks.getD r default).cap).1.d ≤ 1099511627776) := by
  obtain ⟨⟨f, a, _⟩, _⟩ := best_law rd
  obtain ⟨ok, wok, wl, lok⟩ := formed_iff f
  have l0 := listed_ok.2 (lok r hr)
  have h := (allowed_iff.1 a).1 r hr
  unfold fitAt fitsG at h
  simp only [Bool.and_eq_true] at h
  have h2 := h.2
  unfold atMostB at h2
  rw [decide_eq_true_eq] at h2
  have e : chanceG (inL t (bestP t).1 (r : Int)) (t.racks.getD r default).cap = (overG (inL t (bestP t).1 (r : Int)) (t.racks.getD r default).cap (prodJ (inL t (bestP t).1 (r : Int)) (inL t (bestP t).1 (r : Int)).length), 0) := by
    unfold chanceG
    rw [if_neg (by rw [l0]; decide), listed_prod (lok r hr)]
  rw [e]
  have lk := lok r hr
  have cl := combos_len lk (inL t (bestP t).1 (r : Int)).length (Nat.le_refl _)
  rw [List.take_length] at cl
  have o := over_rng (inL t (bestP t).1 (r : Int)) (t.racks.getD r default).cap (all := prodJ (inL t (bestP t).1 (r : Int)) (inL t (bestP t).1 (r : Int)).length) ⟨prod_pos lk _ (Nat.le_refl _), lk.prod _ (Nat.le_refl _)⟩ cl
  exact ⟨lk, rfl, h2, o.1, o.2⟩
theorem best_len {t : PTask} (rd : readyG t = 0) : (bestP t).1.length = t.jobs.length := (formed_iff (best_law rd).1.1).2.2.1
end Go.X.Pl

/- What the law makes of numbers. No condition. -/
set_option linter.unusedVariables false
namespace Go.X.Bk
def byt (l : List UInt8) (i : Nat) : Int := ((l.getD i default).toNat : Nat)
theorem byt_ok (l : List UInt8) (i : Nat) : 0 ≤ byt l i ∧ byt l i ≤ 255 := by
  have := (l.getD i default).toNat_lt
  unfold byt
  omega
def batAt (l : List UInt8) (i : Nat) : BBat := ⟨40 * byt l i * byt l (i + 1) / 255, 40 * byt l i, byt l (i + 2), byt l (i + 3) % 40⟩
def genAt (l : List UInt8) (i : Nat) : BGen := ⟨byt l i, 1 + byt l (i + 1) % 60, byt l (i + 2) % 30, byt l (i + 3) % 20, 1 + byt l (i + 4) % 4⟩
def madeTo (l : List UInt8) : Nat → BBank
  | 0 => ⟨[], []⟩
  | k + 1 => if (5 * k) % 2 = 0 then ⟨(madeTo l k).bats ++ [batAt l (5 * k)], (madeTo l k).gens⟩ else ⟨(madeTo l k).bats, (madeTo l k).gens ++ [genAt l (5 * k)]⟩
def madeP (l : List UInt8) : BBank := madeTo l (min 7 (l.length / 5))
theorem batAt_ok (l : List UInt8) (i : Nat) : BatOk (batAt l i) := by
  have h0 := byt_ok l i; have h1 := byt_ok l (i + 1); have h2 := byt_ok l (i + 2); have h3 := byt_ok l (i + 3)
  have m := mulLe (a := 40 * byt l i) (b := byt l (i + 1)) (m := 10200) (n := 255) (by omega) (by omega) h1.1 h1.2
  have m2 : 40 * byt l i * byt l (i + 1) ≤ 40 * byt l i * 255 := Int.mul_le_mul_of_nonneg_left h1.2 (by omega)
  unfold batAt
  exact ⟨by dsimp only; omega, by dsimp only; omega, by dsimp only; omega, by dsimp only; omega, by dsimp only; omega, by dsimp only; omega, by dsimp only; omega⟩
theorem genAt_ok (l : List UInt8) (i : Nat) : GenOk (genAt l i) := by
  have h0 := byt_ok l i; have h1 := byt_ok l (i + 1); have h2 := byt_ok l (i + 2); have h3 := byt_ok l (i + 3); have h4 := byt_ok l (i + 4)
  unfold genAt
  exact ⟨by dsimp only; omega, by dsimp only; omega, by dsimp only; omega, by dsimp only; omega, by dsimp only; omega, by dsimp only; omega, by dsimp only; omega, by dsimp only; omega, by dsimp only; omega, by dsimp only; omega⟩
theorem snoc_mem {α : Type} {p : α → Prop} {l : List α} {x : α} (h : ∀ y ∈ l, p y) (hx : p x) : ∀ y ∈ l ++ [x], p y := fun y hy => by
  rcases List.mem_append.1 hy with hy | hy
  · exact h y hy
  · rw [List.mem_singleton] at hy; subst hy; exact hx
theorem madeTo_ok (l : List UInt8) : ∀ k, (∀ x ∈ (madeTo l k).bats, BatOk x) ∧ (∀ x ∈ (madeTo l k).gens, GenOk x) ∧ (madeTo l k).bats.length ≤ (k + 1) / 2 ∧ (madeTo l k).gens.length ≤ k / 2
  | 0 => ⟨fun x hx => absurd hx List.not_mem_nil, fun x hx => absurd hx List.not_mem_nil, Nat.le_refl _, Nat.le_refl _⟩
  | k + 1 => by
    obtain ⟨h1, h2, h3, h4⟩ := madeTo_ok l k
    rw [madeTo]
    split
    · refine ⟨snoc_mem h1 (batAt_ok l _), h2, ?_, ?_⟩
      · rw [List.length_append, List.length_singleton]; omega
      · dsimp only; omega
    · refine ⟨h1, snoc_mem h2 (genAt_ok l _), ?_, ?_⟩
      · dsimp only; omega
      · rw [List.length_append, List.length_singleton]; omega
theorem made_ok (l : List UInt8) : BOk (madeP l) ∧ (madeP l).bats.length ≤ 4 ∧ (madeP l).gens.length ≤ 3 := by
  obtain ⟨h1, h2, h3, h4⟩ := madeTo_ok l (min 7 (l.length / 5))
  have : (madeP l).bats.length ≤ 4 := by unfold madeP; omega
  have : (madeP l).gens.length ≤ 3 := by unfold madeP; omega
  exact ⟨⟨by omega, by omega, h1, h2⟩, by omega, by omega⟩
def failAt (b : BBank) (l : List UInt8) (i : Nat) : Int := if i < l.length then byt l i % ((b.gens.getD i default).tries + 1) else 0
def failTo (b : BBank) (l : List UInt8) : Nat → List Int
  | 0 => []
  | i + 1 => failTo b l i ++ [failAt b l i]
def failP (b : BBank) (l : List UInt8) : List Int := failTo b l b.gens.length
theorem failTo_len (b : BBank) (l : List UInt8) : ∀ i, (failTo b l i).length = i
  | 0 => rfl
  | i + 1 => by rw [failTo, List.length_append, failTo_len b l i]; rfl
theorem failTo_at (b : BBank) (l : List UInt8) {j : Nat} : ∀ i, j < i → (failTo b l i).getD j default = failAt b l j
  | 0, h => by omega
  | i + 1, h => by
    have hl := failTo_len b l i
    rw [failTo, List.getD_eq_getElem?_getD, List.getElem?_append]
    split
    · rw [← List.getD_eq_getElem?_getD]; exact failTo_at b l i (by omega)
    · have : j = i := by omega
      subst this
      simp [hl]
theorem fail_ok {b : BBank} (h : BOk b) (l : List UInt8) : FOk b (failP b l) := ⟨failTo_len _ _ _, fun i hi => by
  have g := h.gen _ (getD_memB hi)
  have := g.t0
  have hb := byt_ok l i
  rw [failP, failTo_at _ _ _ hi, failAt]
  split
  · exact ⟨Int.emod_nonneg _ (by omega), by have := Int.emod_lt_of_pos (byt l i) (show 0 < (b.gens.getD i default).tries + 1 by omega); omega⟩
  · omega⟩
def laterP (a b : Int) : Bool := decide (a < 0) || (decide (0 ≤ b) && decide (b ≤ a))
end Go.X.Bk

/- Energy is balanced. No condition. -/
set_option linter.unusedVariables false
namespace Go.X.Bk
def sumI (f : Nat → Int) : Nat → Int
  | 0 => 0
  | n + 1 => sumI f n + f n
theorem sumI_congr {f g : Nat → Int} : ∀ n, (∀ j, j < n → f j = g j) → sumI f n = sumI g n
  | 0, _ => rfl
  | n + 1, h => by rw [sumI, sumI, sumI_congr n (fun j hj => h j (by omega)), h n (by omega)]
theorem sumI_upd {f g : Nat → Int} {i : Nat} : ∀ n, i < n → (∀ j, j < n → j ≠ i → g j = f j) → sumI g n = sumI f n + (g i - f i)
  | 0, h, _ => absurd h (Nat.not_lt_zero i)
  | n + 1, h, hg => by
    rw [sumI, sumI]
    rcases Nat.lt_or_ge i n with h1 | h1
    · rw [sumI_upd n h1 (fun j hj hne => hg j (by omega) hne), hg n (by omega) (by omega)]; omega
    · obtain rfl : i = n := by omega
      rw [sumI_congr i (fun j hj => hg j (by omega) (by omega))]; omega
theorem sumI_zero {f : Nat → Int} : ∀ n, (∀ j, j < n → f j = 0) → sumI f n = 0
  | 0, _ => rfl
  | n + 1, h => by rw [sumI, sumI_zero n (fun j hj => h j (by omega)), h n (by omega)]; rfl
abbrev dI (l : List Int) (j : Nat) : Int := l.getD j default
theorem genTo_rest {c : Nat → Int} {u : List Int} {need : Int} : ∀ i, i ≤ u.length → (genTo c u need i).1.length = u.length ∧ ∀ j, i ≤ j → (genTo c u need i).1.getD j default = u.getD j default
  | 0, _ => ⟨rfl, fun j _ => rfl⟩
  | i + 1, hi => by
    obtain ⟨h1, h2⟩ := genTo_rest (c := c) (u := u) (need := need) i (by omega)
    refine ⟨by rw [genTo]; simp [h1], fun j hj => ?_⟩
    rw [genTo]
    dsimp only
    rw [getD_set' (by omega), if_neg (by omega), h2 j (by omega)]
theorem genTo_sum {c : Nat → Int} {u : List Int} {need : Int} {n : Nat} (hn : u.length = n) : ∀ i, i ≤ n → sumI (dI (genTo c u need i).1) n = sumI (dI u) n + need - (genTo c u need i).2
  | 0, _ => by rw [genTo]; dsimp only; omega
  | i + 1, hi => by
    obtain ⟨h1, h2⟩ := genTo_rest (c := c) (u := u) (need := need) i (by omega)
    have ih := genTo_sum (c := c) (need := need) hn i (by omega)
    rw [genTo]
    dsimp only
    rw [sumI_upd (f := dI (genTo c u need i).1) (i := i) n (by omega) (fun j hj hne => by
      show List.getD _ _ _ = _
      rw [getD_set' (by omega), if_neg (by omega)])]
    show _ + (List.getD _ _ _ - List.getD _ _ _) = _
    rw [getD_set' (by omega), if_pos rfl]
    omega
theorem genTo_left {c : Nat → Int} {u : List Int} {need : Int} {n : Nat} (h : UsedOk c n u) (hn : 0 ≤ need) : ∀ i, i ≤ n → (genTo c u need i).2 = max (need - spareTo c u i) 0
  | 0, _ => by rw [genTo, spareTo]; omega
  | i + 1, hi => by
    have hl := h.len
    obtain ⟨h1, h2⟩ := genTo_rest (c := c) (u := u) (need := need) i (by omega)
    have hb := h.b i (by omega)
    rw [genTo, spareTo, genTo_left h hn i (by omega), h2 i (Nat.le_refl _)]
    omega
/-! ### batteries stay what they are -/
def SameBat (cs ds : List BCell) : Prop := ∀ j, (cs.getD j default).bat = (ds.getD j default).bat
theorem SameBat.set {cs ds : List BCell} (h : SameBat cs ds) (i : Nat) (m : Int) : SameBat (cs.set i { bat := (cs.getD i default).bat, now := m }) ds := fun j => by
  rcases Nat.lt_or_ge i cs.length with hi | hi
  · rw [getD_set' hi]
    split
    · rename_i he; subst he; exact h i
    · exact h j
  · rw [List.set_eq_of_length_le hi]; exact h j
theorem begun_at {b : BBank} {j : Nat} (hj : j < b.bats.length) : (begun b).cells.getD j default = ⟨b.bats.getD j default, (b.bats.getD j default).energy⟩ := by
  simp [begun, List.getD_eq_getElem?_getD, List.getElem?_map, List.getElem?_eq_getElem hj]
theorem end_ok (b : BBank) (pw fs : List Int) : endP b pw fs ≤ pw.length ∧ (∀ j, j < endP b pw fs → isDark b pw fs j = false) ∧ ((darkP b pw fs = -1 ∧ endP b pw fs = pw.length) ∨ (darkP b pw fs = (endP b pw fs : Nat) ∧ endP b pw fs < pw.length)) := by
  rcases dark_cases b pw fs with ⟨h1, h2⟩ | ⟨m, h1, h2, h3, h4⟩
  · have e : endP b pw fs = pw.length := (run_never h2).2
    rw [e]; exact ⟨Nat.le_refl _, h2, .inl ⟨h1, rfl⟩⟩
  · have e : endP b pw fs = m := (run_here h1 h4 h3).2
    rw [e]; exact ⟨by omega, h4, .inr ⟨h2, h1⟩⟩
theorem energies_at {cs : List BCell} {j : Nat} (hj : j < cs.length) : (energiesP cs).getD j default = (cs.getD j default).now := by
  rw [energiesP, List.getD_eq_getElem?_getD, List.getElem?_map, List.getElem?_eq_getElem hj, List.getD_eq_getElem?_getD, List.getElem?_eq_getElem hj]; rfl
theorem rowsTo_at (b : BBank) (pw fs : List Int) {i : Nat} : ∀ n, i < n → (rowsTo b pw fs n).getD i default = energiesP (stateP b pw fs true (i + 1)).cells
  | 0, h => absurd h (Nat.not_lt_zero i)
  | n + 1, h => by
    have hl : ∀ m, (rowsTo b pw fs m).length = m := by
      intro m
      induction m with
      | zero => rfl
      | succ m ih => rw [rowsTo, List.length_append, ih]; rfl
    rw [rowsTo, List.getD_eq_getElem?_getD, List.getElem?_append]
    split
    · rename_i h1
      rw [hl] at h1
      rw [← List.getD_eq_getElem?_getD]; exact rowsTo_at b pw fs n h1
    · rename_i h1
      rw [hl] at h1
      have : i = n := by omega
      subst this
      simp [hl]
end Go.X.Bk

/- Sums as the loops form them; bounds. No condition. -/
set_option linter.unusedVariables false
namespace Go.X.Bk
end Go.X.Bk

/- More energy, smaller loads, fewer fails. No condition. -/
set_option linter.unusedVariables false
namespace Go.X.Bk
theorem sumI_le {f g : Nat → Int} : ∀ n, (∀ j, j < n → f j ≤ g j) → sumI f n ≤ sumI g n
  | 0, _ => Int.le_refl _
  | n + 1, h => by
    have := sumI_le n (fun j hj => h j (by omega))
    have := h n (by omega)
    rw [sumI, sumI]; omega
theorem spareTo_eq (c : Nat → Int) (u : List Int) : ∀ n, spareTo c u n = sumI c n - sumI (dI u) n
  | 0 => rfl
  | n + 1 => by rw [spareTo, sumI, sumI, spareTo_eq c u n]; show _ = _ - (_ + List.getD _ _ _); omega
theorem rep_sum (n : Nat) : sumI (dI (List.replicate n 0)) n = 0 := sumI_zero _ fun j hj => by
  show List.getD _ _ _ = _
  rw [List.getD_eq_getElem?_getD, List.getElem?_replicate, if_pos hj]; rfl
theorem gen0_need {gens : List BGen} {sts : List Int} (p : PlayOk gens sts) {t load : Int} (h2 : t ≤ 20000) (h3 : 0 ≤ load) : (gen0 gens sts t load).2 = max (load - sumI (canAt gens sts t) sts.length) 0 := by
  rw [gen0, genTo_left (zero_used fun j hj => (canAt_ok p h2 hj).1) h3 _ (Nat.le_refl _), spareTo_eq, rep_sum]; omega
theorem spare0_eq {gens : List BGen} {sts : List Int} (p : PlayOk gens sts) {t load : Int} (h2 : t ≤ 20000) (h3 : 0 ≤ load) : spare0 gens sts t load = sumI (canAt gens sts t) sts.length - (load - (gen0 gens sts t load).2) := by
  rw [spare0, spareTo_eq]
  have := genTo_sum (c := canAt gens sts t) (u := List.replicate sts.length 0) (need := load) (n := sts.length) (by simp) sts.length (Nat.le_refl _)
  rw [rep_sum] at this
  rw [gen0, this]; omega
def CLe (n : Nat) (cs ds : List BCell) : Prop := ∀ j, j < n → (cs.getD j default).bat.full = (ds.getD j default).bat.full ∧ (cs.getD j default).bat.power = (ds.getD j default).bat.power ∧ (cs.getD j default).bat.charge = (ds.getD j default).bat.charge ∧ (cs.getD j default).now ≤ (ds.getD j default).now
theorem CLe.refl (n : Nat) (cs : List BCell) : CLe n cs cs := fun j hj => ⟨rfl, rfl, rfl, Int.le_refl _⟩
theorem CLe.trans {n : Nat} {a b c : List BCell} (h1 : CLe n a b) (h2 : CLe n b c) : CLe n a c := fun j hj => by
  obtain ⟨p, q, r, s⟩ := h1 j hj
  obtain ⟨p2, q2, r2, s2⟩ := h2 j hj
  exact ⟨p.trans p2, q.trans q2, r.trans r2, Int.le_trans s s2⟩
theorem CLe.set {n i : Nat} {cs ds : List BCell} (h : CLe n cs ds) (l1 : cs.length = n) (l2 : ds.length = n) (hi : i < n) {x y : Int} (hxy : x ≤ y) :
    CLe n (cs.set i { bat := (cs.getD i default).bat, now := x }) (ds.set i { bat := (ds.getD i default).bat, now := y }) := fun j hj => by
  rw [getD_set' (by omega), getD_set' (by omega)]
  obtain ⟨p, q, r, s⟩ := h j hj
  split
  · rename_i he; subst he; exact ⟨p, q, r, hxy⟩
  · exact ⟨p, q, r, s⟩
theorem giveTo_le {n : Nat} {cs ds : List BCell} {m1 m2 : Int} (k1 : CellsOk n cs) (k2 : CellsOk n ds) (h : CLe n cs ds) (h0 : 0 ≤ m2) (hm : m2 ≤ m1) : ∀ i, i ≤ n → CLe n (giveTo cs m1 i).1 (giveTo ds m2 i).1 ∧ (giveTo ds m2 i).2 ≤ (giveTo cs m1 i).2
  | 0, _ => ⟨h, hm⟩
  | i + 1, hi => by
    obtain ⟨h1, h2⟩ := giveTo_le k1 k2 h h0 hm i (by omega)
    have a := giveTo_ok k1 (need := m1) (by omega) i (by omega)
    have b := giveTo_ok k2 (need := m2) h0 i (by omega)
    obtain ⟨p, q, r, s⟩ := h1 i (by omega)
    have ca := a.1.ok i (by omega)
    have cb := b.1.ok i (by omega)
    have n1 := ca.n0; have n2 := cb.n0; have p1 := ca.p0
    rw [giveTo, giveTo]
    dsimp only
    unfold giveC
    refine ⟨h1.set a.1.len b.1.len (by omega) ?_, ?_⟩
    · rw [← q]; omega
    · rw [← q]; omega
theorem takeTo_le {n : Nat} {cs ds : List BCell} {m1 m2 : Int} (k1 : CellsOk n cs) (k2 : CellsOk n ds) (h : CLe n cs ds) (h0 : 0 ≤ m1) (hm : m1 ≤ m2) : ∀ i, i ≤ n → CLe n (takeTo cs m1 i).1 (takeTo ds m2 i).1 ∧ m1 - (takeTo cs m1 i).2 ≤ m2 - (takeTo ds m2 i).2
  | 0, _ => ⟨h, by rw [takeTo, takeTo]; dsimp only; omega⟩
  | i + 1, hi => by
    obtain ⟨h1, h2⟩ := takeTo_le k1 k2 h h0 hm i (by omega)
    have a := takeTo_ok k1 (sp := m1) h0 i (by omega)
    have b := takeTo_ok k2 (sp := m2) (by omega) i (by omega)
    obtain ⟨p, q, r, s⟩ := h1 i (by omega)
    have ca := a.1.ok i (by omega)
    have cb := b.1.ok i (by omega)
    have n1 := ca.nf; have n2 := cb.nf; have c1 := ca.c0
    rw [takeTo, takeTo]
    dsimp only
    unfold takeC
    refine ⟨h1.set a.1.len b.1.len (by omega) ?_, ?_⟩
    · rw [← p, ← r]; omega
    · rw [← p, ← r]; omega
theorem giveTo_less {n : Nat} {cs : List BCell} {m : Int} (k : CellsOk n cs) (h0 : 0 ≤ m) : ∀ i, i ≤ n → CLe n (giveTo cs m i).1 cs
  | 0, _ => CLe.refl n cs
  | i + 1, hi => by
    have a := giveTo_ok k h0 i (by omega)
    have g := giveC_ok (a.1.ok i (by omega)) a.2.1
    have h1 := giveTo_less k h0 i (by omega)
    rw [giveTo]
    refine fun j hj => ?_
    obtain ⟨p, q, r, s⟩ := h1 j hj
    dsimp only
    rw [getD_set' (by have := a.1.len; omega)]
    split
    · rename_i he; subst he; exact ⟨p, q, r, by dsimp only; omega⟩
    · exact ⟨p, q, r, s⟩
theorem takeTo_more {n : Nat} {cs : List BCell} {m : Int} (k : CellsOk n cs) (h0 : 0 ≤ m) : ∀ i, i ≤ n → CLe n cs (takeTo cs m i).1
  | 0, _ => CLe.refl n cs
  | i + 1, hi => by
    have a := takeTo_ok k h0 i (by omega)
    have g := takeC_ok (a.1.ok i (by omega)) (need := m - (takeTo cs m i).2) (by omega)
    have h1 := takeTo_more k h0 i (by omega)
    rw [takeTo]
    refine fun j hj => ?_
    obtain ⟨p, q, r, s⟩ := h1 j hj
    dsimp only
    rw [getD_set' (by have := a.1.len; omega)]
    split
    · rename_i he; subst he; exact ⟨p, q, r, by dsimp only; omega⟩
    · exact ⟨p, q, r, s⟩
structure SLe (sa sb : List Int) : Prop where
  n : sa.length = sb.length
  s : ∀ i, i < sa.length → sa.getD i default = -1 ∨ (0 ≤ sb.getD i default ∧ sb.getD i default ≤ sa.getD i default)
theorem can_le {g : BGen} (gk : GenOk g) {s1 s2 t : Int} (h : s1 = -1 ∨ (0 ≤ s2 ∧ s2 ≤ s1)) : canP g s1 t ≤ canP g s2 t := by
  have := gk.p0; have := gk.r0
  unfold canP
  by_cases h1 : s1 < 0 ∨ t < s1
  · rw [if_pos h1]
    split
    · omega
    · have := Int.mul_nonneg gk.r0 (show (0 : Int) ≤ t - s2 + 1 by omega)
      omega
  · rw [if_neg h1, if_neg (by omega)]
    have := Int.mul_le_mul_of_nonneg_left (show t - s1 + 1 ≤ t - s2 + 1 by omega) gk.r0
    omega
theorem canSum_le {gens : List BGen} {sa sb : List Int} (p : PlayOk gens sa) (h : SLe sa sb) (t : Int) : sumI (canAt gens sa t) sa.length ≤ sumI (canAt gens sb t) sa.length :=
  sumI_le _ fun j hj => can_le (p.g _ (getD_memB (by have := p.n; omega))) (h.s j hj)
theorem second_le {gens : List BGen} {sa sb : List Int} (pa : PlayOk gens sa) (pb : PlayOk gens sb) (hs : SLe sa sb) {t l1 l2 : Int} (ht : t ≤ 20000) (h0 : 0 ≤ l2) (h1 : l2 ≤ l1) {n k : Nat} {u v : BSt} (ku : StOk sa n k u) (kv : StOk sb n k v) (hc : CLe n u.cells v.cells)
    (hd : ¬ 0 < (secondP gens sa t l1 true u).1) : CLe n (secondP gens sa t l1 true u).2.cells (secondP gens sb t l2 true v).2.cells ∧ ¬ 0 < (secondP gens sb t l2 true v).1 := by
  have ea := gen0_need pa ht (show 0 ≤ l1 by omega)
  have eb := gen0_need pb ht h0
  have hsum := canSum_le pa hs t
  rw [hs.n] at hsum
  rw [hs.n] at ea
  have fa := spare0_eq pa ht (show 0 ≤ l1 by omega)
  have fb := spare0_eq pb ht h0
  rw [hs.n] at fa
  have ga := gen0_ok pa ht (show 0 ≤ l1 by omega)
  have gb := gen0_ok pb ht h0
  have sa0 := spare0_ok pa ht (show 0 ≤ l1 by omega)
  have sb0 := spare0_ok pb ht h0
  unfold secondP at hd ⊢
  by_cases c1 : 0 < (gen0 gens sa t l1).2
  · rw [if_pos c1] at hd ⊢
    have hn1 : ¬ (0 < (give0 gens sa t l1 u).2 ∧ true = true) := fun h => by rw [if_pos h] at hd; exact hd h.1
    rw [if_neg hn1] at hd ⊢
    dsimp only at hd
    by_cases c2 : 0 < (gen0 gens sb t l2).2
    · rw [if_pos c2]
      have g := giveTo_le ku.c kv.c hc gb.2.1 (show (gen0 gens sb t l2).2 ≤ (gen0 gens sa t l1).2 by omega) n (Nat.le_refl _)
      have hn2 : ¬ 0 < (give0 gens sb t l2 v).2 := by
        rw [give0, ku.c.len] at hd
        rw [give0, kv.c.len]; omega
      rw [if_neg (fun h => hn2 h.1)]
      refine ⟨?_, hn2⟩
      dsimp only
      rw [give0, give0, ku.c.len, kv.c.len]; exact g.1
    · rw [if_neg c2]
      refine ⟨?_, c2⟩
      dsimp only
      rw [give0, take0, ku.c.len, kv.c.len]
      exact ((giveTo_less ku.c ga.2.1 n (Nat.le_refl _)).trans hc).trans (takeTo_more kv.c sb0.1 n (Nat.le_refl _))
  · rw [if_neg c1]
    have c2 : ¬ 0 < (gen0 gens sb t l2).2 := by omega
    rw [if_neg c2]
    refine ⟨?_, c2⟩
    dsimp only
    rw [take0, take0, ku.c.len, kv.c.len]
    exact (takeTo_le ku.c kv.c hc sa0.1 (by omega) n (Nat.le_refl _)).1
structure BLe (b c : BBank) : Prop where
  g : c.gens = b.gens
  n : c.bats.length = b.bats.length
  b : ∀ i, i < b.bats.length → (c.bats.getD i default).full = (b.bats.getD i default).full ∧ (c.bats.getD i default).power = (b.bats.getD i default).power ∧ (c.bats.getD i default).charge = (b.bats.getD i default).charge ∧ (b.bats.getD i default).energy ≤ (c.bats.getD i default).energy
structure PLe (pw pv : List Int) : Prop where
  n : pv.length = pw.length
  p : ∀ i, i < pw.length → pv.getD i default ≤ pw.getD i default
theorem starts_le {b c : BBank} (hb : BLe b c) (ok : BOk b) {fs gs : List Int} (ff : FOk b fs) (fg : FOk c gs) (h : ∀ i, i < b.gens.length → gs.getD i default ≤ fs.getD i default) : SLe (startsP b fs) (startsP c gs) := by
  have e1 : (startsP b fs).length = b.gens.length := startsTo_len _ _ _
  have e2 : (startsP c gs).length = b.gens.length := by rw [← hb.g]; exact startsTo_len _ _ _
  refine ⟨e1.trans e2.symm, fun i hi => ?_⟩
  rw [e1] at hi
  have f1 := ff.f i hi
  have f2 := fg.f i (by rw [hb.g]; exact hi)
  have f3 := h i hi
  have gk := ok.gen _ (getD_memB hi)
  rw [startsP, startsP, startsTo_at _ _ _ hi, startsTo_at _ _ _ (by rw [hb.g]; exact hi), hb.g]
  rw [hb.g] at f2
  generalize b.gens.getD i default = g at *
  unfold startP
  split
  · exact .inl rfl
  · right
    rw [if_neg (by omega)]
    have m1 := Int.mul_le_mul_of_nonneg_right (show gs.getD i default + 1 ≤ fs.getD i default + 1 by omega) gk.d0
    have m2 := Int.mul_le_mul_of_nonneg_right f3 gk.q0
    have m3 := Int.mul_nonneg (show 0 ≤ gs.getD i default + 1 by omega) gk.d0
    have m4 := Int.mul_nonneg f2.1 gk.q0
    omega
theorem play_le {b c : BBank} (hb : BLe b c) (okb : BOk b) (okc : BOk c) {fs gs pw pv : List Int} (ff : FOk b fs) (fg : FOk c gs) (h : ∀ i, i < b.gens.length → gs.getD i default ≤ fs.getD i default) (wp : PwOk pw) (wv : PwOk pv) (hp : PLe pw pv) :
    ∀ i, i ≤ pw.length → (∀ j, j < i → isDark b pw fs j = false) → CLe b.bats.length (stateP b pw fs true i).cells (stateP c pv gs true i).cells ∧ ∀ j, j < i → isDark c pv gs j = false
  | 0, _, _ => ⟨fun j hj => by
      obtain ⟨p, q, r, s⟩ := hb.b j hj
      show (List.getD (begun b).cells _ _).bat.full = (List.getD (begun c).cells _ _).bat.full ∧ _
      show _ ∧ (List.getD (begun b).cells _ _).bat.power = (List.getD (begun c).cells _ _).bat.power ∧ (List.getD (begun b).cells _ _).bat.charge = (List.getD (begun c).cells _ _).bat.charge ∧ (List.getD (begun b).cells _ _).now ≤ (List.getD (begun c).cells _ _).now
      rw [begun_at hj, begun_at (by rw [hb.n]; exact hj)]
      exact ⟨p.symm, q.symm, r.symm, s⟩, fun j hj => absurd hj (Nat.not_lt_zero j)⟩
  | i + 1, hi, hd => by
    obtain ⟨h1, h2⟩ := play_le hb okb okc ff fg h wp wv hp i (by omega) (fun j hj => hd j (by omega))
    have hdi := hd i (by omega)
    unfold isDark at hdi
    rw [decide_eq_false_iff_not] at hdi
    have ku : StOk (startsP b fs) b.bats.length i (stateP b pw fs true i) := playTo_ok (playOk okb ff) wp (begun_ok okb ff) true i (by omega)
    have kv : StOk (startsP c gs) b.bats.length i (stateP c pv gs true i) := by rw [← hb.n]; exact playTo_ok (playOk okc fg) wv (begun_ok okc fg) true i (by rw [hp.n]; omega)
    have pc := playOk okc fg
    have hl := wv.p i (by rw [hp.n]; omega)
    have hle := hp.p i (by omega)
    have h20 := wp.n
    have e1 : stateP c pv gs true (i + 1) = (secondP b.gens (startsP c gs) (i : Nat) (pv.getD i default) true (stateP c pv gs true i)).2 := by rw [← hb.g]; rfl
    have e2 : lackAt c.gens (startsP c gs) true pv (begun c) i = (secondP b.gens (startsP c gs) (i : Nat) (pv.getD i default) true (stateP c pv gs true i)).1 := by rw [← hb.g]; rfl
    obtain ⟨g1, g2⟩ := second_le (playOk okb ff) (by rw [hb.g] at pc; exact pc) (starts_le hb okb ff fg h) (t := (i : Nat)) (by omega) hl.1 hle ku kv h1 hdi
    refine ⟨by rw [e1]; exact g1, fun j hj => ?_⟩
    rcases Nat.lt_or_ge j i with h3 | h3
    · exact h2 j h3
    · obtain rfl : j = i := by omega
      rw [isDark, e2]; exact decide_eq_false g2
/-- All that the theorem asks. -/
theorem monotone_law {b c : BBank} (hb : BLe b c) (okb : BOk b) (okc : BOk c) {fs gs pw pv : List Int} (ff : FOk b fs) (fg : FOk c gs) (h : ∀ i, i < b.gens.length → gs.getD i default ≤ fs.getD i default) (wp : PwOk pw) (wv : PwOk pv) (hp : PLe pw pv) :
    laterP (darkP c pv gs) (darkP b pw fs) = true ∧ endP b pw fs ≤ endP c pv gs ∧ ∀ i j, i < endP b pw fs → j < b.bats.length → ((traceP b pw fs).getD i default).getD j default ≤ ((traceP c pv gs).getD i default).getD j default := by
  obtain ⟨a1, a2, a3⟩ := end_ok b pw fs
  obtain ⟨b1, b2, b3⟩ := end_ok c pv gs
  obtain ⟨g1, g2⟩ := play_le hb okb okc ff fg h wp wv hp _ a1 a2
  have hle : endP b pw fs ≤ endP c pv gs := by
    rcases dark_cases c pv gs with ⟨d1, d2⟩ | ⟨m, d1, d2, d3, d4⟩
    · have := hp.n; omega
    · have hm : endP c pv gs = m := by omega
      rcases Nat.lt_or_ge m (endP b pw fs) with h5 | h5
      · rw [g2 m h5] at d3; cases d3
      · omega
  refine ⟨?_, hle, fun i j hi hj => ?_⟩
  · unfold laterP
    rw [Bool.or_eq_true, Bool.and_eq_true, decide_eq_true_eq, decide_eq_true_eq, decide_eq_true_eq]
    have := hp.n
    omega
  · obtain ⟨e1, _⟩ := play_le hb okb okc ff fg h wp wv hp (i + 1) (by omega) (fun k hk => a2 k (by omega))
    have ku : StOk (startsP b fs) b.bats.length (i + 1) (stateP b pw fs true (i + 1)) := playTo_ok (playOk okb ff) wp (begun_ok okb ff) true (i + 1) (by omega)
    have kv : StOk (startsP c gs) c.bats.length (i + 1) (stateP c pv gs true (i + 1)) := playTo_ok (playOk okc fg) wv (begun_ok okc fg) true (i + 1) (by rw [hp.n]; omega)
    have cl1 := ku.c.len
    have cl2 := kv.c.len
    have hbn := hb.n
    rw [traceP, traceP, rowsTo_at b pw fs _ hi, rowsTo_at c pv gs _ (by omega), energies_at (by omega), energies_at (by omega)]
    exact (e1 j hj).2.2.2
end Go.X.Bk

/- The type table of this seat as instances; written by program. No condition. -/
namespace Go.X
open Go.Proofs
set_option maxRecDepth 10000
instance : Und Tryz.prog 0 (Go.TypeDesc.tuple #[]) := ⟨Tryz.runUnderlying0⟩
instance : IsAgg Tryz.prog 0 false := ⟨Tryz.isAgg0⟩
instance : TySize Tryz.prog 0 1 := ⟨Tryz.sizeOf0⟩
instance : TyBytes Tryz.prog 0 0 := ⟨_, Tryz.typeInfo0, rfl⟩
instance : Zero Tryz.prog 0 [(Go.Value.tuple #[])] := ⟨_, Tryz.zeroValue0, rfl⟩
instance : Und Tryz.prog 1 (Go.TypeDesc.func #[] #[] Bool.false) := ⟨Tryz.runUnderlying1⟩
instance : IsAgg Tryz.prog 1 false := ⟨Tryz.isAgg1⟩
instance : TySize Tryz.prog 1 1 := ⟨Tryz.sizeOf1⟩
instance : TyBytes Tryz.prog 1 8 := ⟨_, Tryz.typeInfo1, rfl⟩
instance : Zero Tryz.prog 1 [Go.Value.nilFunc] := ⟨_, Tryz.zeroValue1, rfl⟩
instance : Und Tryz.prog 2 (Go.TypeDesc.int Go.IntKind.i64) := ⟨Tryz.runUnderlying2⟩
instance : IsAgg Tryz.prog 2 false := ⟨Tryz.isAgg2⟩
instance : TySize Tryz.prog 2 1 := ⟨Tryz.sizeOf2⟩
instance : TyBytes Tryz.prog 2 8 := ⟨_, Tryz.typeInfo2, rfl⟩
instance : Zero Tryz.prog 2 [(Go.Value.int Go.IntKind.i64 0)] := ⟨_, Tryz.zeroValue2, rfl⟩
instance : Und Tryz.prog 3 (Go.TypeDesc.int Go.IntKind.i64) := ⟨Tryz.runUnderlying3⟩
instance : IsAgg Tryz.prog 3 false := ⟨Tryz.isAgg3⟩
instance : TySize Tryz.prog 3 1 := ⟨Tryz.sizeOf3⟩
instance : TyBytes Tryz.prog 3 8 := ⟨_, Tryz.typeInfo3, rfl⟩
instance : Zero Tryz.prog 3 [(Go.Value.int Go.IntKind.i64 0)] := ⟨_, Tryz.zeroValue3, rfl⟩
instance : Und Tryz.prog 4 Go.TypeDesc.bool := ⟨Tryz.runUnderlying4⟩
instance : IsAgg Tryz.prog 4 false := ⟨Tryz.isAgg4⟩
instance : TySize Tryz.prog 4 1 := ⟨Tryz.sizeOf4⟩
instance : TyBytes Tryz.prog 4 1 := ⟨_, Tryz.typeInfo4, rfl⟩
instance : Zero Tryz.prog 4 [(Go.Value.bool Bool.false)] := ⟨_, Tryz.zeroValue4, rfl⟩
instance : Und Tryz.prog 5 (Go.TypeDesc.int Go.IntKind.u8) := ⟨Tryz.runUnderlying5⟩
instance : IsAgg Tryz.prog 5 false := ⟨Tryz.isAgg5⟩
instance : TySize Tryz.prog 5 1 := ⟨Tryz.sizeOf5⟩
instance : TyBytes Tryz.prog 5 1 := ⟨_, Tryz.typeInfo5, rfl⟩
instance : Zero Tryz.prog 5 [(Go.Value.int Go.IntKind.u8 0)] := ⟨_, Tryz.zeroValue5, rfl⟩
instance : Und Tryz.prog 9 Go.TypeDesc.string := ⟨Tryz.runUnderlying9⟩
instance : IsAgg Tryz.prog 9 false := ⟨Tryz.isAgg9⟩
instance : TySize Tryz.prog 9 1 := ⟨Tryz.sizeOf9⟩
instance : TyBytes Tryz.prog 9 16 := ⟨_, Tryz.typeInfo9, rfl⟩
instance : Zero Tryz.prog 9 [(Go.Value.string (ByteArray.mk #[]))] := ⟨_, Tryz.zeroValue9, rfl⟩
instance : Und Tryz.prog 22 (Go.TypeDesc.slice 5) := ⟨Tryz.runUnderlying22⟩
instance : IsAgg Tryz.prog 22 false := ⟨Tryz.isAgg22⟩
instance : TySize Tryz.prog 22 1 := ⟨Tryz.sizeOf22⟩
instance : TyBytes Tryz.prog 22 24 := ⟨_, Tryz.typeInfo22, rfl⟩
instance : Zero Tryz.prog 22 [(Go.Value.slice none 0 0)] := ⟨_, Tryz.zeroValue22, rfl⟩
instance : Und Tryz.prog 23 (Go.TypeDesc.slice 55) := ⟨Tryz.runUnderlying23⟩
instance : IsAgg Tryz.prog 23 false := ⟨Tryz.isAgg23⟩
instance : TySize Tryz.prog 23 1 := ⟨Tryz.sizeOf23⟩
instance : TyBytes Tryz.prog 23 24 := ⟨_, Tryz.typeInfo23, rfl⟩
instance : Zero Tryz.prog 23 [(Go.Value.slice none 0 0)] := ⟨_, Tryz.zeroValue23, rfl⟩
instance : Und Tryz.prog 24 (Go.TypeDesc.slice 164) := ⟨Tryz.runUnderlying24⟩
instance : IsAgg Tryz.prog 24 false := ⟨Tryz.isAgg24⟩
instance : TySize Tryz.prog 24 1 := ⟨Tryz.sizeOf24⟩
instance : TyBytes Tryz.prog 24 24 := ⟨_, Tryz.typeInfo24, rfl⟩
instance : Zero Tryz.prog 24 [(Go.Value.slice none 0 0)] := ⟨_, Tryz.zeroValue24, rfl⟩
instance : Und Tryz.prog 25 (Go.TypeDesc.slice 166) := ⟨Tryz.runUnderlying25⟩
instance : IsAgg Tryz.prog 25 false := ⟨Tryz.isAgg25⟩
instance : TySize Tryz.prog 25 1 := ⟨Tryz.sizeOf25⟩
instance : TyBytes Tryz.prog 25 24 := ⟨_, Tryz.typeInfo25, rfl⟩
instance : Zero Tryz.prog 25 [(Go.Value.slice none 0 0)] := ⟨_, Tryz.zeroValue25, rfl⟩
instance : Und Tryz.prog 26 (Go.TypeDesc.slice 168) := ⟨Tryz.runUnderlying26⟩
instance : IsAgg Tryz.prog 26 false := ⟨Tryz.isAgg26⟩
instance : TySize Tryz.prog 26 1 := ⟨Tryz.sizeOf26⟩
instance : TyBytes Tryz.prog 26 24 := ⟨_, Tryz.typeInfo26, rfl⟩
instance : Zero Tryz.prog 26 [(Go.Value.slice none 0 0)] := ⟨_, Tryz.zeroValue26, rfl⟩
instance : Und Tryz.prog 28 (Go.TypeDesc.struct #[(Go.Field.mk "Rooms" 23 0 Bool.false "" "" 0), (Go.Field.mk "Walls" 24 1 Bool.false "" "" 24), (Go.Field.mk "Branches" 25 2 Bool.false "" "" 48), (Go.Field.mk "Coolers" 26 3 Bool.false "" "" 72)]) := ⟨Tryz.runUnderlying28⟩
instance : IsAgg Tryz.prog 28 true := ⟨Tryz.isAgg28⟩
instance : TySize Tryz.prog 28 4 := ⟨Tryz.sizeOf28⟩
instance : TyBytes Tryz.prog 28 96 := ⟨_, Tryz.typeInfo28, rfl⟩
instance : Zero Tryz.prog 28 [(Go.Value.slice none 0 0), (Go.Value.slice none 0 0), (Go.Value.slice none 0 0), (Go.Value.slice none 0 0)] := ⟨_, Tryz.zeroValue28, rfl⟩
instance : Fld Tryz.prog 28 0 0 := Fld.of (n := 1) ⟨Tryz.runUnderlying28⟩ rfl ⟨Tryz.sizeOf23⟩ (by decide) rfl
instance : Fld Tryz.prog 28 1 1 := Fld.of (n := 1) ⟨Tryz.runUnderlying28⟩ rfl ⟨Tryz.sizeOf24⟩ (by decide) rfl
instance : Fld Tryz.prog 28 2 2 := Fld.of (n := 1) ⟨Tryz.runUnderlying28⟩ rfl ⟨Tryz.sizeOf25⟩ (by decide) rfl
instance : Fld Tryz.prog 28 3 3 := Fld.of (n := 1) ⟨Tryz.runUnderlying28⟩ rfl ⟨Tryz.sizeOf26⟩ (by decide) rfl
instance : Places Tryz.prog 28 (fun i => ([(0, 1), (1, 1), (2, 1), (3, 1)] : List (Nat × Nat))[i]?) := Places.struct ⟨Tryz.runUnderlying28⟩ (.c Tryz.sizeOf23 (.c Tryz.sizeOf24 (.c Tryz.sizeOf25 (.c Tryz.sizeOf26 .n))))
instance : Und Tryz.prog 29 (Go.TypeDesc.slice 3) := ⟨Tryz.runUnderlying29⟩
instance : IsAgg Tryz.prog 29 false := ⟨Tryz.isAgg29⟩
instance : TySize Tryz.prog 29 1 := ⟨Tryz.sizeOf29⟩
instance : TyBytes Tryz.prog 29 24 := ⟨_, Tryz.typeInfo29, rfl⟩
instance : Zero Tryz.prog 29 [(Go.Value.slice none 0 0)] := ⟨_, Tryz.zeroValue29, rfl⟩
instance : Und Tryz.prog 31 (Go.TypeDesc.struct #[(Go.Field.mk "Load" 29 0 Bool.false "" "" 0), (Go.Field.mk "Out" 3 1 Bool.false "" "" 24), (Go.Field.mk "Pump" 3 2 Bool.false "" "" 32)]) := ⟨Tryz.runUnderlying31⟩
instance : IsAgg Tryz.prog 31 true := ⟨Tryz.isAgg31⟩
instance : TySize Tryz.prog 31 3 := ⟨Tryz.sizeOf31⟩
instance : TyBytes Tryz.prog 31 40 := ⟨_, Tryz.typeInfo31, rfl⟩
instance : Zero Tryz.prog 31 [(Go.Value.slice none 0 0), (Go.Value.int Go.IntKind.i64 0), (Go.Value.int Go.IntKind.i64 0)] := ⟨_, Tryz.zeroValue31, rfl⟩
instance : Fld Tryz.prog 31 0 0 := Fld.of (n := 1) ⟨Tryz.runUnderlying31⟩ rfl ⟨Tryz.sizeOf29⟩ (by decide) rfl
instance : Fld Tryz.prog 31 1 1 := Fld.of (n := 1) ⟨Tryz.runUnderlying31⟩ rfl ⟨Tryz.sizeOf3⟩ (by decide) rfl
instance : Fld Tryz.prog 31 2 2 := Fld.of (n := 1) ⟨Tryz.runUnderlying31⟩ rfl ⟨Tryz.sizeOf3⟩ (by decide) rfl
instance : Places Tryz.prog 31 (fun i => ([(0, 1), (1, 1), (2, 1)] : List (Nat × Nat))[i]?) := Places.struct ⟨Tryz.runUnderlying31⟩ (.c Tryz.sizeOf29 (.c Tryz.sizeOf3 (.c Tryz.sizeOf3 .n)))
instance : Und Tryz.prog 38 (Go.TypeDesc.struct #[(Go.Field.mk "l" 22 0 Bool.false "" "switchgear/switchgeartop" 0), (Go.Field.mk "i" 3 1 Bool.false "" "switchgear/switchgeartop" 24)]) := ⟨Tryz.runUnderlying38⟩
instance : IsAgg Tryz.prog 38 true := ⟨Tryz.isAgg38⟩
instance : TySize Tryz.prog 38 2 := ⟨Tryz.sizeOf38⟩
instance : TyBytes Tryz.prog 38 32 := ⟨_, Tryz.typeInfo38, rfl⟩
instance : Zero Tryz.prog 38 [(Go.Value.slice none 0 0), (Go.Value.int Go.IntKind.i64 0)] := ⟨_, Tryz.zeroValue38, rfl⟩
instance : Fld Tryz.prog 38 0 0 := Fld.of (n := 1) ⟨Tryz.runUnderlying38⟩ rfl ⟨Tryz.sizeOf22⟩ (by decide) rfl
instance : Fld Tryz.prog 38 1 1 := Fld.of (n := 1) ⟨Tryz.runUnderlying38⟩ rfl ⟨Tryz.sizeOf3⟩ (by decide) rfl
instance : Places Tryz.prog 38 (fun i => ([(0, 1), (1, 1)] : List (Nat × Nat))[i]?) := Places.struct ⟨Tryz.runUnderlying38⟩ (.c Tryz.sizeOf22 (.c Tryz.sizeOf3 .n))
instance : Und Tryz.prog 39 (Go.TypeDesc.func #[3] #[3] Bool.false) := ⟨Tryz.runUnderlying39⟩
instance : IsAgg Tryz.prog 39 false := ⟨Tryz.isAgg39⟩
instance : TySize Tryz.prog 39 1 := ⟨Tryz.sizeOf39⟩
instance : TyBytes Tryz.prog 39 8 := ⟨_, Tryz.typeInfo39, rfl⟩
instance : Zero Tryz.prog 39 [Go.Value.nilFunc] := ⟨_, Tryz.zeroValue39, rfl⟩
instance : Und Tryz.prog 40 (Go.TypeDesc.slice 4) := ⟨Tryz.runUnderlying40⟩
instance : IsAgg Tryz.prog 40 false := ⟨Tryz.isAgg40⟩
instance : TySize Tryz.prog 40 1 := ⟨Tryz.sizeOf40⟩
instance : TyBytes Tryz.prog 40 24 := ⟨_, Tryz.typeInfo40, rfl⟩
instance : Zero Tryz.prog 40 [(Go.Value.slice none 0 0)] := ⟨_, Tryz.zeroValue40, rfl⟩
instance : Und Tryz.prog 42 (Go.TypeDesc.struct #[(Go.Field.mk "States" 3 0 Bool.false "" "" 0), (Go.Field.mk "Controls" 3 1 Bool.false "" "" 8), (Go.Field.mk "Shocks" 3 2 Bool.false "" "" 16), (Go.Field.mk "Next" 29 3 Bool.false "" "" 24), (Go.Field.mk "Good" 40 4 Bool.false "" "" 48)]) := ⟨Tryz.runUnderlying42⟩
instance : IsAgg Tryz.prog 42 true := ⟨Tryz.isAgg42⟩
instance : TySize Tryz.prog 42 5 := ⟨Tryz.sizeOf42⟩
instance : TyBytes Tryz.prog 42 72 := ⟨_, Tryz.typeInfo42, rfl⟩
instance : Zero Tryz.prog 42 [(Go.Value.int Go.IntKind.i64 0), (Go.Value.int Go.IntKind.i64 0), (Go.Value.int Go.IntKind.i64 0), (Go.Value.slice none 0 0), (Go.Value.slice none 0 0)] := ⟨_, Tryz.zeroValue42, rfl⟩
instance : Fld Tryz.prog 42 0 0 := Fld.of (n := 1) ⟨Tryz.runUnderlying42⟩ rfl ⟨Tryz.sizeOf3⟩ (by decide) rfl
instance : Fld Tryz.prog 42 1 1 := Fld.of (n := 1) ⟨Tryz.runUnderlying42⟩ rfl ⟨Tryz.sizeOf3⟩ (by decide) rfl
instance : Fld Tryz.prog 42 2 2 := Fld.of (n := 1) ⟨Tryz.runUnderlying42⟩ rfl ⟨Tryz.sizeOf3⟩ (by decide) rfl
instance : Fld Tryz.prog 42 3 3 := Fld.of (n := 1) ⟨Tryz.runUnderlying42⟩ rfl ⟨Tryz.sizeOf29⟩ (by decide) rfl
instance : Fld Tryz.prog 42 4 4 := Fld.of (n := 1) ⟨Tryz.runUnderlying42⟩ rfl ⟨Tryz.sizeOf40⟩ (by decide) rfl
instance : Places Tryz.prog 42 (fun i => ([(0, 1), (1, 1), (2, 1), (3, 1), (4, 1)] : List (Nat × Nat))[i]?) := Places.struct ⟨Tryz.runUnderlying42⟩ (.c Tryz.sizeOf3 (.c Tryz.sizeOf3 (.c Tryz.sizeOf3 (.c Tryz.sizeOf29 (.c Tryz.sizeOf40 .n)))))
instance : Und Tryz.prog 48 (Go.TypeDesc.struct #[(Go.Field.mk "In" 40 0 Bool.false "" "" 0), (Go.Field.mk "Control" 29 1 Bool.false "" "" 24), (Go.Field.mk "Rank" 29 2 Bool.false "" "" 48)]) := ⟨Tryz.runUnderlying48⟩
instance : IsAgg Tryz.prog 48 true := ⟨Tryz.isAgg48⟩
instance : TySize Tryz.prog 48 3 := ⟨Tryz.sizeOf48⟩
instance : TyBytes Tryz.prog 48 72 := ⟨_, Tryz.typeInfo48, rfl⟩
instance : Zero Tryz.prog 48 [(Go.Value.slice none 0 0), (Go.Value.slice none 0 0), (Go.Value.slice none 0 0)] := ⟨_, Tryz.zeroValue48, rfl⟩
instance : Fld Tryz.prog 48 0 0 := Fld.of (n := 1) ⟨Tryz.runUnderlying48⟩ rfl ⟨Tryz.sizeOf40⟩ (by decide) rfl
instance : Fld Tryz.prog 48 1 1 := Fld.of (n := 1) ⟨Tryz.runUnderlying48⟩ rfl ⟨Tryz.sizeOf29⟩ (by decide) rfl
instance : Fld Tryz.prog 48 2 2 := Fld.of (n := 1) ⟨Tryz.runUnderlying48⟩ rfl ⟨Tryz.sizeOf29⟩ (by decide) rfl
instance : Places Tryz.prog 48 (fun i => ([(0, 1), (1, 1), (2, 1)] : List (Nat × Nat))[i]?) := Places.struct ⟨Tryz.runUnderlying48⟩ (.c Tryz.sizeOf40 (.c Tryz.sizeOf29 (.c Tryz.sizeOf29 .n)))
instance : Und Tryz.prog 49 (Go.TypeDesc.int Go.IntKind.i64) := ⟨Tryz.runUnderlying49⟩
instance : IsAgg Tryz.prog 49 false := ⟨Tryz.isAgg49⟩
instance : TySize Tryz.prog 49 1 := ⟨Tryz.sizeOf49⟩
instance : TyBytes Tryz.prog 49 8 := ⟨_, Tryz.typeInfo49, rfl⟩
instance : Zero Tryz.prog 49 [(Go.Value.int Go.IntKind.i64 0)] := ⟨_, Tryz.zeroValue49, rfl⟩
instance : Und Tryz.prog 55 (Go.TypeDesc.struct #[(Go.Field.mk "Store" 3 0 Bool.false "" "" 0), (Go.Field.mk "Limit" 3 1 Bool.false "" "" 8)]) := ⟨Tryz.runUnderlying55⟩
instance : IsAgg Tryz.prog 55 true := ⟨Tryz.isAgg55⟩
instance : TySize Tryz.prog 55 2 := ⟨Tryz.sizeOf55⟩
instance : TyBytes Tryz.prog 55 16 := ⟨_, Tryz.typeInfo55, rfl⟩
instance : Zero Tryz.prog 55 [(Go.Value.int Go.IntKind.i64 0), (Go.Value.int Go.IntKind.i64 0)] := ⟨_, Tryz.zeroValue55, rfl⟩
instance : Fld Tryz.prog 55 0 0 := Fld.of (n := 1) ⟨Tryz.runUnderlying55⟩ rfl ⟨Tryz.sizeOf3⟩ (by decide) rfl
instance : Fld Tryz.prog 55 1 1 := Fld.of (n := 1) ⟨Tryz.runUnderlying55⟩ rfl ⟨Tryz.sizeOf3⟩ (by decide) rfl
instance : Places Tryz.prog 55 (fun i => ([(0, 1), (1, 1)] : List (Nat × Nat))[i]?) := Places.struct ⟨Tryz.runUnderlying55⟩ (.c Tryz.sizeOf3 (.c Tryz.sizeOf3 .n))
instance : Und Tryz.prog 66 (Go.TypeDesc.slice 29) := ⟨Tryz.runUnderlying66⟩
instance : IsAgg Tryz.prog 66 false := ⟨Tryz.isAgg66⟩
instance : TySize Tryz.prog 66 1 := ⟨Tryz.sizeOf66⟩
instance : TyBytes Tryz.prog 66 24 := ⟨_, Tryz.typeInfo66, rfl⟩
instance : Zero Tryz.prog 66 [(Go.Value.slice none 0 0)] := ⟨_, Tryz.zeroValue66, rfl⟩
instance : Und Tryz.prog 72 (Go.TypeDesc.slice 88) := ⟨Tryz.runUnderlying72⟩
instance : IsAgg Tryz.prog 72 false := ⟨Tryz.isAgg72⟩
instance : TySize Tryz.prog 72 1 := ⟨Tryz.sizeOf72⟩
instance : TyBytes Tryz.prog 72 24 := ⟨_, Tryz.typeInfo72, rfl⟩
instance : Zero Tryz.prog 72 [(Go.Value.slice none 0 0)] := ⟨_, Tryz.zeroValue72, rfl⟩
instance : Und Tryz.prog 73 (Go.TypeDesc.slice 85) := ⟨Tryz.runUnderlying73⟩
instance : IsAgg Tryz.prog 73 false := ⟨Tryz.isAgg73⟩
instance : TySize Tryz.prog 73 1 := ⟨Tryz.sizeOf73⟩
instance : TyBytes Tryz.prog 73 24 := ⟨_, Tryz.typeInfo73, rfl⟩
instance : Zero Tryz.prog 73 [(Go.Value.slice none 0 0)] := ⟨_, Tryz.zeroValue73, rfl⟩
instance : Und Tryz.prog 75 (Go.TypeDesc.struct #[(Go.Field.mk "N" 3 0 Bool.false "" "" 0), (Go.Field.mk "D" 3 1 Bool.false "" "" 8)]) := ⟨Tryz.runUnderlying75⟩
instance : IsAgg Tryz.prog 75 true := ⟨Tryz.isAgg75⟩
instance : TySize Tryz.prog 75 2 := ⟨Tryz.sizeOf75⟩
instance : TyBytes Tryz.prog 75 16 := ⟨_, Tryz.typeInfo75, rfl⟩
instance : Zero Tryz.prog 75 [(Go.Value.int Go.IntKind.i64 0), (Go.Value.int Go.IntKind.i64 0)] := ⟨_, Tryz.zeroValue75, rfl⟩
instance : Fld Tryz.prog 75 0 0 := Fld.of (n := 1) ⟨Tryz.runUnderlying75⟩ rfl ⟨Tryz.sizeOf3⟩ (by decide) rfl
instance : Fld Tryz.prog 75 1 1 := Fld.of (n := 1) ⟨Tryz.runUnderlying75⟩ rfl ⟨Tryz.sizeOf3⟩ (by decide) rfl
instance : Places Tryz.prog 75 (fun i => ([(0, 1), (1, 1)] : List (Nat × Nat))[i]?) := Places.struct ⟨Tryz.runUnderlying75⟩ (.c Tryz.sizeOf3 (.c Tryz.sizeOf3 .n))
instance : Und Tryz.prog 77 (Go.TypeDesc.struct #[(Go.Field.mk "Jobs" 72 0 Bool.false "" "" 0), (Go.Field.mk "Racks" 73 1 Bool.false "" "" 24), (Go.Field.mk "Most" 75 2 Bool.false "" "" 48)]) := ⟨Tryz.runUnderlying77⟩
instance : IsAgg Tryz.prog 77 true := ⟨Tryz.isAgg77⟩
instance : TySize Tryz.prog 77 4 := ⟨Tryz.sizeOf77⟩
instance : TyBytes Tryz.prog 77 64 := ⟨_, Tryz.typeInfo77, rfl⟩
instance : Zero Tryz.prog 77 [(Go.Value.slice none 0 0), (Go.Value.slice none 0 0), (Go.Value.int Go.IntKind.i64 0), (Go.Value.int Go.IntKind.i64 0)] := ⟨_, Tryz.zeroValue77, rfl⟩
instance : Fld Tryz.prog 77 0 0 := Fld.of (n := 1) ⟨Tryz.runUnderlying77⟩ rfl ⟨Tryz.sizeOf72⟩ (by decide) rfl
instance : Fld Tryz.prog 77 1 1 := Fld.of (n := 1) ⟨Tryz.runUnderlying77⟩ rfl ⟨Tryz.sizeOf73⟩ (by decide) rfl
instance : Fld Tryz.prog 77 2 2 := Fld.of (n := 2) ⟨Tryz.runUnderlying77⟩ rfl ⟨Tryz.sizeOf75⟩ (by decide) rfl
instance : Places Tryz.prog 77 (fun i => ([(0, 1), (1, 1), (2, 2)] : List (Nat × Nat))[i]?) := Places.struct ⟨Tryz.runUnderlying77⟩ (.c Tryz.sizeOf72 (.c Tryz.sizeOf73 (.c Tryz.sizeOf75 .n)))
instance : Und Tryz.prog 80 (Go.TypeDesc.struct #[(Go.Field.mk "Where" 29 0 Bool.false "" "" 0), (Go.Field.mk "Worth" 3 1 Bool.false "" "" 24), (Go.Field.mk "Proof" 40 2 Bool.false "" "" 32)]) := ⟨Tryz.runUnderlying80⟩
instance : IsAgg Tryz.prog 80 true := ⟨Tryz.isAgg80⟩
instance : TySize Tryz.prog 80 3 := ⟨Tryz.sizeOf80⟩
instance : TyBytes Tryz.prog 80 56 := ⟨_, Tryz.typeInfo80, rfl⟩
instance : Zero Tryz.prog 80 [(Go.Value.slice none 0 0), (Go.Value.int Go.IntKind.i64 0), (Go.Value.slice none 0 0)] := ⟨_, Tryz.zeroValue80, rfl⟩
instance : Fld Tryz.prog 80 0 0 := Fld.of (n := 1) ⟨Tryz.runUnderlying80⟩ rfl ⟨Tryz.sizeOf29⟩ (by decide) rfl
instance : Fld Tryz.prog 80 1 1 := Fld.of (n := 1) ⟨Tryz.runUnderlying80⟩ rfl ⟨Tryz.sizeOf3⟩ (by decide) rfl
instance : Fld Tryz.prog 80 2 2 := Fld.of (n := 1) ⟨Tryz.runUnderlying80⟩ rfl ⟨Tryz.sizeOf40⟩ (by decide) rfl
instance : Places Tryz.prog 80 (fun i => ([(0, 1), (1, 1), (2, 1)] : List (Nat × Nat))[i]?) := Places.struct ⟨Tryz.runUnderlying80⟩ (.c Tryz.sizeOf29 (.c Tryz.sizeOf3 (.c Tryz.sizeOf40 .n)))
instance : Und Tryz.prog 83 (Go.TypeDesc.array 3 3) := ⟨Tryz.runUnderlying83⟩
instance : IsAgg Tryz.prog 83 true := ⟨Tryz.isAgg83⟩
instance : TySize Tryz.prog 83 3 := ⟨Tryz.sizeOf83⟩
instance : TyBytes Tryz.prog 83 24 := ⟨_, Tryz.typeInfo83, rfl⟩
instance : Zero Tryz.prog 83 [(Go.Value.int Go.IntKind.i64 0), (Go.Value.int Go.IntKind.i64 0), (Go.Value.int Go.IntKind.i64 0)] := ⟨_, Tryz.zeroValue83, rfl⟩
instance : Places Tryz.prog 83 (fun i => some (i * 1, 1)) := Places.array ⟨Tryz.runUnderlying83⟩ ⟨Tryz.sizeOf3⟩
instance : Und Tryz.prog 85 (Go.TypeDesc.struct #[(Go.Field.mk "Room" 83 0 Bool.false "" "" 0), (Go.Field.mk "Cap" 3 3 Bool.false "" "" 24), (Go.Field.mk "Domain" 3 4 Bool.false "" "" 32)]) := ⟨Tryz.runUnderlying85⟩
instance : IsAgg Tryz.prog 85 true := ⟨Tryz.isAgg85⟩
instance : TySize Tryz.prog 85 5 := ⟨Tryz.sizeOf85⟩
instance : TyBytes Tryz.prog 85 40 := ⟨_, Tryz.typeInfo85, rfl⟩
instance : Zero Tryz.prog 85 [(Go.Value.int Go.IntKind.i64 0), (Go.Value.int Go.IntKind.i64 0), (Go.Value.int Go.IntKind.i64 0), (Go.Value.int Go.IntKind.i64 0), (Go.Value.int Go.IntKind.i64 0)] := ⟨_, Tryz.zeroValue85, rfl⟩
instance : Fld Tryz.prog 85 0 0 := Fld.of (n := 3) ⟨Tryz.runUnderlying85⟩ rfl ⟨Tryz.sizeOf83⟩ (by decide) rfl
instance : Fld Tryz.prog 85 1 3 := Fld.of (n := 1) ⟨Tryz.runUnderlying85⟩ rfl ⟨Tryz.sizeOf3⟩ (by decide) rfl
instance : Fld Tryz.prog 85 2 4 := Fld.of (n := 1) ⟨Tryz.runUnderlying85⟩ rfl ⟨Tryz.sizeOf3⟩ (by decide) rfl
instance : Places Tryz.prog 85 (fun i => ([(0, 3), (3, 1), (4, 1)] : List (Nat × Nat))[i]?) := Places.struct ⟨Tryz.runUnderlying85⟩ (.c Tryz.sizeOf83 (.c Tryz.sizeOf3 (.c Tryz.sizeOf3 .n)))
instance : Und Tryz.prog 86 (Go.TypeDesc.slice 90) := ⟨Tryz.runUnderlying86⟩
instance : IsAgg Tryz.prog 86 false := ⟨Tryz.isAgg86⟩
instance : TySize Tryz.prog 86 1 := ⟨Tryz.sizeOf86⟩
instance : TyBytes Tryz.prog 86 24 := ⟨_, Tryz.typeInfo86, rfl⟩
instance : Zero Tryz.prog 86 [(Go.Value.slice none 0 0)] := ⟨_, Tryz.zeroValue86, rfl⟩
instance : Und Tryz.prog 88 (Go.TypeDesc.struct #[(Go.Field.mk "Need" 83 0 Bool.false "" "" 0), (Go.Field.mk "Draws" 86 3 Bool.false "" "" 24), (Go.Field.mk "Group" 3 4 Bool.false "" "" 48), (Go.Field.mk "Worth" 3 5 Bool.false "" "" 56)]) := ⟨Tryz.runUnderlying88⟩
instance : IsAgg Tryz.prog 88 true := ⟨Tryz.isAgg88⟩
instance : TySize Tryz.prog 88 6 := ⟨Tryz.sizeOf88⟩
instance : TyBytes Tryz.prog 88 64 := ⟨_, Tryz.typeInfo88, rfl⟩
instance : Zero Tryz.prog 88 [(Go.Value.int Go.IntKind.i64 0), (Go.Value.int Go.IntKind.i64 0), (Go.Value.int Go.IntKind.i64 0), (Go.Value.slice none 0 0), (Go.Value.int Go.IntKind.i64 0), (Go.Value.int Go.IntKind.i64 0)] := ⟨_, Tryz.zeroValue88, rfl⟩
instance : Fld Tryz.prog 88 0 0 := Fld.of (n := 3) ⟨Tryz.runUnderlying88⟩ rfl ⟨Tryz.sizeOf83⟩ (by decide) rfl
instance : Fld Tryz.prog 88 1 3 := Fld.of (n := 1) ⟨Tryz.runUnderlying88⟩ rfl ⟨Tryz.sizeOf86⟩ (by decide) rfl
instance : Fld Tryz.prog 88 2 4 := Fld.of (n := 1) ⟨Tryz.runUnderlying88⟩ rfl ⟨Tryz.sizeOf3⟩ (by decide) rfl
instance : Fld Tryz.prog 88 3 5 := Fld.of (n := 1) ⟨Tryz.runUnderlying88⟩ rfl ⟨Tryz.sizeOf3⟩ (by decide) rfl
instance : Places Tryz.prog 88 (fun i => ([(0, 3), (3, 1), (4, 1), (5, 1)] : List (Nat × Nat))[i]?) := Places.struct ⟨Tryz.runUnderlying88⟩ (.c Tryz.sizeOf83 (.c Tryz.sizeOf86 (.c Tryz.sizeOf3 (.c Tryz.sizeOf3 .n))))
instance : Und Tryz.prog 90 (Go.TypeDesc.struct #[(Go.Field.mk "Power" 3 0 Bool.false "" "" 0), (Go.Field.mk "Count" 3 1 Bool.false "" "" 8)]) := ⟨Tryz.runUnderlying90⟩
instance : IsAgg Tryz.prog 90 true := ⟨Tryz.isAgg90⟩
instance : TySize Tryz.prog 90 2 := ⟨Tryz.sizeOf90⟩
instance : TyBytes Tryz.prog 90 16 := ⟨_, Tryz.typeInfo90, rfl⟩
instance : Zero Tryz.prog 90 [(Go.Value.int Go.IntKind.i64 0), (Go.Value.int Go.IntKind.i64 0)] := ⟨_, Tryz.zeroValue90, rfl⟩
instance : Fld Tryz.prog 90 0 0 := Fld.of (n := 1) ⟨Tryz.runUnderlying90⟩ rfl ⟨Tryz.sizeOf3⟩ (by decide) rfl
instance : Fld Tryz.prog 90 1 1 := Fld.of (n := 1) ⟨Tryz.runUnderlying90⟩ rfl ⟨Tryz.sizeOf3⟩ (by decide) rfl
instance : Places Tryz.prog 90 (fun i => ([(0, 1), (1, 1)] : List (Nat × Nat))[i]?) := Places.struct ⟨Tryz.runUnderlying90⟩ (.c Tryz.sizeOf3 (.c Tryz.sizeOf3 .n))
instance : Und Tryz.prog 93 (Go.TypeDesc.slice 174) := ⟨Tryz.runUnderlying93⟩
instance : IsAgg Tryz.prog 93 false := ⟨Tryz.isAgg93⟩
instance : TySize Tryz.prog 93 1 := ⟨Tryz.sizeOf93⟩
instance : TyBytes Tryz.prog 93 24 := ⟨_, Tryz.typeInfo93, rfl⟩
instance : Zero Tryz.prog 93 [(Go.Value.slice none 0 0)] := ⟨_, Tryz.zeroValue93, rfl⟩
instance : Und Tryz.prog 94 (Go.TypeDesc.slice 215) := ⟨Tryz.runUnderlying94⟩
instance : IsAgg Tryz.prog 94 false := ⟨Tryz.isAgg94⟩
instance : TySize Tryz.prog 94 1 := ⟨Tryz.sizeOf94⟩
instance : TyBytes Tryz.prog 94 24 := ⟨_, Tryz.typeInfo94, rfl⟩
instance : Zero Tryz.prog 94 [(Go.Value.slice none 0 0)] := ⟨_, Tryz.zeroValue94, rfl⟩
instance : Und Tryz.prog 96 (Go.TypeDesc.struct #[(Go.Field.mk "Batteries" 93 0 Bool.false "" "" 0), (Go.Field.mk "Generators" 94 1 Bool.false "" "" 24)]) := ⟨Tryz.runUnderlying96⟩
instance : IsAgg Tryz.prog 96 true := ⟨Tryz.isAgg96⟩
instance : TySize Tryz.prog 96 2 := ⟨Tryz.sizeOf96⟩
instance : TyBytes Tryz.prog 96 48 := ⟨_, Tryz.typeInfo96, rfl⟩
instance : Zero Tryz.prog 96 [(Go.Value.slice none 0 0), (Go.Value.slice none 0 0)] := ⟨_, Tryz.zeroValue96, rfl⟩
instance : Fld Tryz.prog 96 0 0 := Fld.of (n := 1) ⟨Tryz.runUnderlying96⟩ rfl ⟨Tryz.sizeOf93⟩ (by decide) rfl
instance : Fld Tryz.prog 96 1 1 := Fld.of (n := 1) ⟨Tryz.runUnderlying96⟩ rfl ⟨Tryz.sizeOf94⟩ (by decide) rfl
instance : Places Tryz.prog 96 (fun i => ([(0, 1), (1, 1)] : List (Nat × Nat))[i]?) := Places.struct ⟨Tryz.runUnderlying96⟩ (.c Tryz.sizeOf93 (.c Tryz.sizeOf94 .n))
instance : Und Tryz.prog 100 (Go.TypeDesc.struct #[(Go.Field.mk "Dark" 3 0 Bool.false "" "" 0), (Go.Field.mk "Energy" 29 1 Bool.false "" "" 8), (Go.Field.mk "Burnt" 29 2 Bool.false "" "" 32), (Go.Field.mk "Served" 3 3 Bool.false "" "" 56)]) := ⟨Tryz.runUnderlying100⟩
instance : IsAgg Tryz.prog 100 true := ⟨Tryz.isAgg100⟩
instance : TySize Tryz.prog 100 4 := ⟨Tryz.sizeOf100⟩
instance : TyBytes Tryz.prog 100 64 := ⟨_, Tryz.typeInfo100, rfl⟩
instance : Zero Tryz.prog 100 [(Go.Value.int Go.IntKind.i64 0), (Go.Value.slice none 0 0), (Go.Value.slice none 0 0), (Go.Value.int Go.IntKind.i64 0)] := ⟨_, Tryz.zeroValue100, rfl⟩
instance : Fld Tryz.prog 100 0 0 := Fld.of (n := 1) ⟨Tryz.runUnderlying100⟩ rfl ⟨Tryz.sizeOf3⟩ (by decide) rfl
instance : Fld Tryz.prog 100 1 1 := Fld.of (n := 1) ⟨Tryz.runUnderlying100⟩ rfl ⟨Tryz.sizeOf29⟩ (by decide) rfl
instance : Fld Tryz.prog 100 2 2 := Fld.of (n := 1) ⟨Tryz.runUnderlying100⟩ rfl ⟨Tryz.sizeOf29⟩ (by decide) rfl
instance : Fld Tryz.prog 100 3 3 := Fld.of (n := 1) ⟨Tryz.runUnderlying100⟩ rfl ⟨Tryz.sizeOf3⟩ (by decide) rfl
instance : Places Tryz.prog 100 (fun i => ([(0, 1), (1, 1), (2, 1), (3, 1)] : List (Nat × Nat))[i]?) := Places.struct ⟨Tryz.runUnderlying100⟩ (.c Tryz.sizeOf3 (.c Tryz.sizeOf29 (.c Tryz.sizeOf29 (.c Tryz.sizeOf3 .n))))
instance : Und Tryz.prog 104 (Go.TypeDesc.struct #[(Go.Field.mk "Seconds" 3 0 Bool.false "" "" 0), (Go.Field.mk "Power" 3 1 Bool.false "" "" 8)]) := ⟨Tryz.runUnderlying104⟩
instance : IsAgg Tryz.prog 104 true := ⟨Tryz.isAgg104⟩
instance : TySize Tryz.prog 104 2 := ⟨Tryz.sizeOf104⟩
instance : TyBytes Tryz.prog 104 16 := ⟨_, Tryz.typeInfo104, rfl⟩
instance : Zero Tryz.prog 104 [(Go.Value.int Go.IntKind.i64 0), (Go.Value.int Go.IntKind.i64 0)] := ⟨_, Tryz.zeroValue104, rfl⟩
instance : Fld Tryz.prog 104 0 0 := Fld.of (n := 1) ⟨Tryz.runUnderlying104⟩ rfl ⟨Tryz.sizeOf3⟩ (by decide) rfl
instance : Fld Tryz.prog 104 1 1 := Fld.of (n := 1) ⟨Tryz.runUnderlying104⟩ rfl ⟨Tryz.sizeOf3⟩ (by decide) rfl
instance : Places Tryz.prog 104 (fun i => ([(0, 1), (1, 1)] : List (Nat × Nat))[i]?) := Places.struct ⟨Tryz.runUnderlying104⟩ (.c Tryz.sizeOf3 (.c Tryz.sizeOf3 .n))
instance : Und Tryz.prog 105 (Go.TypeDesc.slice 104) := ⟨Tryz.runUnderlying105⟩
instance : IsAgg Tryz.prog 105 false := ⟨Tryz.isAgg105⟩
instance : TySize Tryz.prog 105 1 := ⟨Tryz.sizeOf105⟩
instance : TyBytes Tryz.prog 105 24 := ⟨_, Tryz.typeInfo105, rfl⟩
instance : Zero Tryz.prog 105 [(Go.Value.slice none 0 0)] := ⟨_, Tryz.zeroValue105, rfl⟩
instance : Und Tryz.prog 111 (Go.TypeDesc.slice 146) := ⟨Tryz.runUnderlying111⟩
instance : IsAgg Tryz.prog 111 false := ⟨Tryz.isAgg111⟩
instance : TySize Tryz.prog 111 1 := ⟨Tryz.sizeOf111⟩
instance : TyBytes Tryz.prog 111 24 := ⟨_, Tryz.typeInfo111, rfl⟩
instance : Zero Tryz.prog 111 [(Go.Value.slice none 0 0)] := ⟨_, Tryz.zeroValue111, rfl⟩
instance : Und Tryz.prog 113 (Go.TypeDesc.struct #[(Go.Field.mk "Energy" 3 0 Bool.false "" "" 0), (Go.Field.mk "Full" 3 1 Bool.false "" "" 8), (Go.Field.mk "Power" 3 2 Bool.false "" "" 16), (Go.Field.mk "End" 3 3 Bool.false "" "" 24)]) := ⟨Tryz.runUnderlying113⟩
instance : IsAgg Tryz.prog 113 true := ⟨Tryz.isAgg113⟩
instance : TySize Tryz.prog 113 4 := ⟨Tryz.sizeOf113⟩
instance : TyBytes Tryz.prog 113 32 := ⟨_, Tryz.typeInfo113, rfl⟩
instance : Zero Tryz.prog 113 [(Go.Value.int Go.IntKind.i64 0), (Go.Value.int Go.IntKind.i64 0), (Go.Value.int Go.IntKind.i64 0), (Go.Value.int Go.IntKind.i64 0)] := ⟨_, Tryz.zeroValue113, rfl⟩
instance : Fld Tryz.prog 113 0 0 := Fld.of (n := 1) ⟨Tryz.runUnderlying113⟩ rfl ⟨Tryz.sizeOf3⟩ (by decide) rfl
instance : Fld Tryz.prog 113 1 1 := Fld.of (n := 1) ⟨Tryz.runUnderlying113⟩ rfl ⟨Tryz.sizeOf3⟩ (by decide) rfl
instance : Fld Tryz.prog 113 2 2 := Fld.of (n := 1) ⟨Tryz.runUnderlying113⟩ rfl ⟨Tryz.sizeOf3⟩ (by decide) rfl
instance : Fld Tryz.prog 113 3 3 := Fld.of (n := 1) ⟨Tryz.runUnderlying113⟩ rfl ⟨Tryz.sizeOf3⟩ (by decide) rfl
instance : Places Tryz.prog 113 (fun i => ([(0, 1), (1, 1), (2, 1), (3, 1)] : List (Nat × Nat))[i]?) := Places.struct ⟨Tryz.runUnderlying113⟩ (.c Tryz.sizeOf3 (.c Tryz.sizeOf3 (.c Tryz.sizeOf3 (.c Tryz.sizeOf3 .n))))
instance : Und Tryz.prog 114 (Go.TypeDesc.slice 292) := ⟨Tryz.runUnderlying114⟩
instance : IsAgg Tryz.prog 114 false := ⟨Tryz.isAgg114⟩
instance : TySize Tryz.prog 114 1 := ⟨Tryz.sizeOf114⟩
instance : TyBytes Tryz.prog 114 24 := ⟨_, Tryz.typeInfo114, rfl⟩
instance : Zero Tryz.prog 114 [(Go.Value.slice none 0 0)] := ⟨_, Tryz.zeroValue114, rfl⟩
instance : Und Tryz.prog 116 (Go.TypeDesc.struct #[(Go.Field.mk "Hours" 111 0 Bool.false "" "" 0), (Go.Field.mk "Store" 113 1 Bool.false "" "" 24), (Go.Field.mk "Jobs" 114 5 Bool.false "" "" 56), (Go.Field.mk "Most" 3 6 Bool.false "" "" 80), (Go.Field.mk "Peak" 3 7 Bool.false "" "" 88)]) := ⟨Tryz.runUnderlying116⟩
instance : IsAgg Tryz.prog 116 true := ⟨Tryz.isAgg116⟩
instance : TySize Tryz.prog 116 8 := ⟨Tryz.sizeOf116⟩
instance : TyBytes Tryz.prog 116 96 := ⟨_, Tryz.typeInfo116, rfl⟩
instance : Zero Tryz.prog 116 [(Go.Value.slice none 0 0), (Go.Value.int Go.IntKind.i64 0), (Go.Value.int Go.IntKind.i64 0), (Go.Value.int Go.IntKind.i64 0), (Go.Value.int Go.IntKind.i64 0), (Go.Value.slice none 0 0), (Go.Value.int Go.IntKind.i64 0), (Go.Value.int Go.IntKind.i64 0)] := ⟨_, Tryz.zeroValue116, rfl⟩
instance : Fld Tryz.prog 116 0 0 := Fld.of (n := 1) ⟨Tryz.runUnderlying116⟩ rfl ⟨Tryz.sizeOf111⟩ (by decide) rfl
instance : Fld Tryz.prog 116 1 1 := Fld.of (n := 4) ⟨Tryz.runUnderlying116⟩ rfl ⟨Tryz.sizeOf113⟩ (by decide) rfl
instance : Fld Tryz.prog 116 2 5 := Fld.of (n := 1) ⟨Tryz.runUnderlying116⟩ rfl ⟨Tryz.sizeOf114⟩ (by decide) rfl
instance : Fld Tryz.prog 116 3 6 := Fld.of (n := 1) ⟨Tryz.runUnderlying116⟩ rfl ⟨Tryz.sizeOf3⟩ (by decide) rfl
instance : Fld Tryz.prog 116 4 7 := Fld.of (n := 1) ⟨Tryz.runUnderlying116⟩ rfl ⟨Tryz.sizeOf3⟩ (by decide) rfl
instance : Places Tryz.prog 116 (fun i => ([(0, 1), (1, 4), (5, 1), (6, 1), (7, 1)] : List (Nat × Nat))[i]?) := Places.struct ⟨Tryz.runUnderlying116⟩ (.c Tryz.sizeOf111 (.c Tryz.sizeOf113 (.c Tryz.sizeOf114 (.c Tryz.sizeOf3 (.c Tryz.sizeOf3 .n)))))
instance : Und Tryz.prog 118 (Go.TypeDesc.struct #[(Go.Field.mk "Starts" 29 0 Bool.false "" "" 0), (Go.Field.mk "Charge" 29 1 Bool.false "" "" 24), (Go.Field.mk "Cost" 3 2 Bool.false "" "" 48)]) := ⟨Tryz.runUnderlying118⟩
instance : IsAgg Tryz.prog 118 true := ⟨Tryz.isAgg118⟩
instance : TySize Tryz.prog 118 3 := ⟨Tryz.sizeOf118⟩
instance : TyBytes Tryz.prog 118 56 := ⟨_, Tryz.typeInfo118, rfl⟩
instance : Zero Tryz.prog 118 [(Go.Value.slice none 0 0), (Go.Value.slice none 0 0), (Go.Value.int Go.IntKind.i64 0)] := ⟨_, Tryz.zeroValue118, rfl⟩
instance : Fld Tryz.prog 118 0 0 := Fld.of (n := 1) ⟨Tryz.runUnderlying118⟩ rfl ⟨Tryz.sizeOf29⟩ (by decide) rfl
instance : Fld Tryz.prog 118 1 1 := Fld.of (n := 1) ⟨Tryz.runUnderlying118⟩ rfl ⟨Tryz.sizeOf29⟩ (by decide) rfl
instance : Fld Tryz.prog 118 2 2 := Fld.of (n := 1) ⟨Tryz.runUnderlying118⟩ rfl ⟨Tryz.sizeOf3⟩ (by decide) rfl
instance : Places Tryz.prog 118 (fun i => ([(0, 1), (1, 1), (2, 1)] : List (Nat × Nat))[i]?) := Places.struct ⟨Tryz.runUnderlying118⟩ (.c Tryz.sizeOf29 (.c Tryz.sizeOf29 (.c Tryz.sizeOf3 .n)))
instance : Und Tryz.prog 127 (Go.TypeDesc.struct #[(Go.Field.mk "Up" 3 0 Bool.false "" "" 0), (Go.Field.mk "Low" 3 1 Bool.false "" "" 8), (Go.Field.mk "High" 3 2 Bool.false "" "" 16)]) := ⟨Tryz.runUnderlying127⟩
instance : IsAgg Tryz.prog 127 true := ⟨Tryz.isAgg127⟩
instance : TySize Tryz.prog 127 3 := ⟨Tryz.sizeOf127⟩
instance : TyBytes Tryz.prog 127 24 := ⟨_, Tryz.typeInfo127, rfl⟩
instance : Zero Tryz.prog 127 [(Go.Value.int Go.IntKind.i64 0), (Go.Value.int Go.IntKind.i64 0), (Go.Value.int Go.IntKind.i64 0)] := ⟨_, Tryz.zeroValue127, rfl⟩
instance : Fld Tryz.prog 127 0 0 := Fld.of (n := 1) ⟨Tryz.runUnderlying127⟩ rfl ⟨Tryz.sizeOf3⟩ (by decide) rfl
instance : Fld Tryz.prog 127 1 1 := Fld.of (n := 1) ⟨Tryz.runUnderlying127⟩ rfl ⟨Tryz.sizeOf3⟩ (by decide) rfl
instance : Fld Tryz.prog 127 2 2 := Fld.of (n := 1) ⟨Tryz.runUnderlying127⟩ rfl ⟨Tryz.sizeOf3⟩ (by decide) rfl
instance : Places Tryz.prog 127 (fun i => ([(0, 1), (1, 1), (2, 1)] : List (Nat × Nat))[i]?) := Places.struct ⟨Tryz.runUnderlying127⟩ (.c Tryz.sizeOf3 (.c Tryz.sizeOf3 (.c Tryz.sizeOf3 .n)))
instance : Und Tryz.prog 128 (Go.TypeDesc.slice 127) := ⟨Tryz.runUnderlying128⟩
instance : IsAgg Tryz.prog 128 false := ⟨Tryz.isAgg128⟩
instance : TySize Tryz.prog 128 1 := ⟨Tryz.sizeOf128⟩
instance : TyBytes Tryz.prog 128 24 := ⟨_, Tryz.typeInfo128, rfl⟩
instance : Zero Tryz.prog 128 [(Go.Value.slice none 0 0)] := ⟨_, Tryz.zeroValue128, rfl⟩
instance : Und Tryz.prog 130 (Go.TypeDesc.struct #[(Go.Field.mk "Nodes" 128 0 Bool.false "" "" 0), (Go.Field.mk "Values" 29 1 Bool.false "" "" 24)]) := ⟨Tryz.runUnderlying130⟩
instance : IsAgg Tryz.prog 130 true := ⟨Tryz.isAgg130⟩
instance : TySize Tryz.prog 130 2 := ⟨Tryz.sizeOf130⟩
instance : TyBytes Tryz.prog 130 48 := ⟨_, Tryz.typeInfo130, rfl⟩
instance : Zero Tryz.prog 130 [(Go.Value.slice none 0 0), (Go.Value.slice none 0 0)] := ⟨_, Tryz.zeroValue130, rfl⟩
instance : Fld Tryz.prog 130 0 0 := Fld.of (n := 1) ⟨Tryz.runUnderlying130⟩ rfl ⟨Tryz.sizeOf128⟩ (by decide) rfl
instance : Fld Tryz.prog 130 1 1 := Fld.of (n := 1) ⟨Tryz.runUnderlying130⟩ rfl ⟨Tryz.sizeOf29⟩ (by decide) rfl
instance : Places Tryz.prog 130 (fun i => ([(0, 1), (1, 1)] : List (Nat × Nat))[i]?) := Places.struct ⟨Tryz.runUnderlying130⟩ (.c Tryz.sizeOf128 (.c Tryz.sizeOf29 .n))
instance : Und Tryz.prog 138 (Go.TypeDesc.int Go.IntKind.u64) := ⟨Tryz.runUnderlying138⟩
instance : IsAgg Tryz.prog 138 false := ⟨Tryz.isAgg138⟩
instance : TySize Tryz.prog 138 1 := ⟨Tryz.sizeOf138⟩
instance : TyBytes Tryz.prog 138 8 := ⟨_, Tryz.typeInfo138, rfl⟩
instance : Zero Tryz.prog 138 [(Go.Value.int Go.IntKind.u64 0)] := ⟨_, Tryz.zeroValue138, rfl⟩
instance : Und Tryz.prog 146 (Go.TypeDesc.struct #[(Go.Field.mk "Buy" 3 0 Bool.false "" "" 0), (Go.Field.mk "Sell" 3 1 Bool.false "" "" 8), (Go.Field.mk "Sun" 3 2 Bool.false "" "" 16), (Go.Field.mk "Load" 3 3 Bool.false "" "" 24), (Go.Field.mk "Carbon" 3 4 Bool.false "" "" 32), (Go.Field.mk "Water" 3 5 Bool.false "" "" 40)]) := ⟨Tryz.runUnderlying146⟩
instance : IsAgg Tryz.prog 146 true := ⟨Tryz.isAgg146⟩
instance : TySize Tryz.prog 146 6 := ⟨Tryz.sizeOf146⟩
instance : TyBytes Tryz.prog 146 48 := ⟨_, Tryz.typeInfo146, rfl⟩
instance : Zero Tryz.prog 146 [(Go.Value.int Go.IntKind.i64 0), (Go.Value.int Go.IntKind.i64 0), (Go.Value.int Go.IntKind.i64 0), (Go.Value.int Go.IntKind.i64 0), (Go.Value.int Go.IntKind.i64 0), (Go.Value.int Go.IntKind.i64 0)] := ⟨_, Tryz.zeroValue146, rfl⟩
instance : Fld Tryz.prog 146 0 0 := Fld.of (n := 1) ⟨Tryz.runUnderlying146⟩ rfl ⟨Tryz.sizeOf3⟩ (by decide) rfl
instance : Fld Tryz.prog 146 1 1 := Fld.of (n := 1) ⟨Tryz.runUnderlying146⟩ rfl ⟨Tryz.sizeOf3⟩ (by decide) rfl
instance : Fld Tryz.prog 146 2 2 := Fld.of (n := 1) ⟨Tryz.runUnderlying146⟩ rfl ⟨Tryz.sizeOf3⟩ (by decide) rfl
instance : Fld Tryz.prog 146 3 3 := Fld.of (n := 1) ⟨Tryz.runUnderlying146⟩ rfl ⟨Tryz.sizeOf3⟩ (by decide) rfl
instance : Fld Tryz.prog 146 4 4 := Fld.of (n := 1) ⟨Tryz.runUnderlying146⟩ rfl ⟨Tryz.sizeOf3⟩ (by decide) rfl
instance : Fld Tryz.prog 146 5 5 := Fld.of (n := 1) ⟨Tryz.runUnderlying146⟩ rfl ⟨Tryz.sizeOf3⟩ (by decide) rfl
instance : Places Tryz.prog 146 (fun i => ([(0, 1), (1, 1), (2, 1), (3, 1), (4, 1), (5, 1)] : List (Nat × Nat))[i]?) := Places.struct ⟨Tryz.runUnderlying146⟩ (.c Tryz.sizeOf3 (.c Tryz.sizeOf3 (.c Tryz.sizeOf3 (.c Tryz.sizeOf3 (.c Tryz.sizeOf3 (.c Tryz.sizeOf3 .n))))))
instance : Und Tryz.prog 161 (Go.TypeDesc.array 2 3) := ⟨Tryz.runUnderlying161⟩
instance : IsAgg Tryz.prog 161 true := ⟨Tryz.isAgg161⟩
instance : TySize Tryz.prog 161 2 := ⟨Tryz.sizeOf161⟩
instance : TyBytes Tryz.prog 161 16 := ⟨_, Tryz.typeInfo161, rfl⟩
instance : Zero Tryz.prog 161 [(Go.Value.int Go.IntKind.i64 0), (Go.Value.int Go.IntKind.i64 0)] := ⟨_, Tryz.zeroValue161, rfl⟩
instance : Places Tryz.prog 161 (fun i => some (i * 1, 1)) := Places.array ⟨Tryz.runUnderlying161⟩ ⟨Tryz.sizeOf3⟩
instance : Und Tryz.prog 164 (Go.TypeDesc.struct #[(Go.Field.mk "A" 3 0 Bool.false "" "" 0), (Go.Field.mk "B" 3 1 Bool.false "" "" 8), (Go.Field.mk "Pass" 3 2 Bool.false "" "" 16)]) := ⟨Tryz.runUnderlying164⟩
instance : IsAgg Tryz.prog 164 true := ⟨Tryz.isAgg164⟩
instance : TySize Tryz.prog 164 3 := ⟨Tryz.sizeOf164⟩
instance : TyBytes Tryz.prog 164 24 := ⟨_, Tryz.typeInfo164, rfl⟩
instance : Zero Tryz.prog 164 [(Go.Value.int Go.IntKind.i64 0), (Go.Value.int Go.IntKind.i64 0), (Go.Value.int Go.IntKind.i64 0)] := ⟨_, Tryz.zeroValue164, rfl⟩
instance : Fld Tryz.prog 164 0 0 := Fld.of (n := 1) ⟨Tryz.runUnderlying164⟩ rfl ⟨Tryz.sizeOf3⟩ (by decide) rfl
instance : Fld Tryz.prog 164 1 1 := Fld.of (n := 1) ⟨Tryz.runUnderlying164⟩ rfl ⟨Tryz.sizeOf3⟩ (by decide) rfl
instance : Fld Tryz.prog 164 2 2 := Fld.of (n := 1) ⟨Tryz.runUnderlying164⟩ rfl ⟨Tryz.sizeOf3⟩ (by decide) rfl
instance : Places Tryz.prog 164 (fun i => ([(0, 1), (1, 1), (2, 1)] : List (Nat × Nat))[i]?) := Places.struct ⟨Tryz.runUnderlying164⟩ (.c Tryz.sizeOf3 (.c Tryz.sizeOf3 (.c Tryz.sizeOf3 .n)))
instance : Und Tryz.prog 166 (Go.TypeDesc.struct #[(Go.Field.mk "Up" 3 0 Bool.false "" "" 0), (Go.Field.mk "Open" 3 1 Bool.false "" "" 8), (Go.Field.mk "Leak" 3 2 Bool.false "" "" 16)]) := ⟨Tryz.runUnderlying166⟩
instance : IsAgg Tryz.prog 166 true := ⟨Tryz.isAgg166⟩
instance : TySize Tryz.prog 166 3 := ⟨Tryz.sizeOf166⟩
instance : TyBytes Tryz.prog 166 24 := ⟨_, Tryz.typeInfo166, rfl⟩
instance : Zero Tryz.prog 166 [(Go.Value.int Go.IntKind.i64 0), (Go.Value.int Go.IntKind.i64 0), (Go.Value.int Go.IntKind.i64 0)] := ⟨_, Tryz.zeroValue166, rfl⟩
instance : Fld Tryz.prog 166 0 0 := Fld.of (n := 1) ⟨Tryz.runUnderlying166⟩ rfl ⟨Tryz.sizeOf3⟩ (by decide) rfl
instance : Fld Tryz.prog 166 1 1 := Fld.of (n := 1) ⟨Tryz.runUnderlying166⟩ rfl ⟨Tryz.sizeOf3⟩ (by decide) rfl
instance : Fld Tryz.prog 166 2 2 := Fld.of (n := 1) ⟨Tryz.runUnderlying166⟩ rfl ⟨Tryz.sizeOf3⟩ (by decide) rfl
instance : Places Tryz.prog 166 (fun i => ([(0, 1), (1, 1), (2, 1)] : List (Nat × Nat))[i]?) := Places.struct ⟨Tryz.runUnderlying166⟩ (.c Tryz.sizeOf3 (.c Tryz.sizeOf3 (.c Tryz.sizeOf3 .n)))
instance : Und Tryz.prog 168 (Go.TypeDesc.struct #[(Go.Field.mk "Room" 3 0 Bool.false "" "" 0), (Go.Field.mk "Branch" 3 1 Bool.false "" "" 8), (Go.Field.mk "Gain" 3 2 Bool.false "" "" 16), (Go.Field.mk "Carry" 3 3 Bool.false "" "" 24), (Go.Field.mk "Supply" 3 4 Bool.false "" "" 32)]) := ⟨Tryz.runUnderlying168⟩
instance : IsAgg Tryz.prog 168 true := ⟨Tryz.isAgg168⟩
instance : TySize Tryz.prog 168 5 := ⟨Tryz.sizeOf168⟩
instance : TyBytes Tryz.prog 168 40 := ⟨_, Tryz.typeInfo168, rfl⟩
instance : Zero Tryz.prog 168 [(Go.Value.int Go.IntKind.i64 0), (Go.Value.int Go.IntKind.i64 0), (Go.Value.int Go.IntKind.i64 0), (Go.Value.int Go.IntKind.i64 0), (Go.Value.int Go.IntKind.i64 0)] := ⟨_, Tryz.zeroValue168, rfl⟩
instance : Fld Tryz.prog 168 0 0 := Fld.of (n := 1) ⟨Tryz.runUnderlying168⟩ rfl ⟨Tryz.sizeOf3⟩ (by decide) rfl
instance : Fld Tryz.prog 168 1 1 := Fld.of (n := 1) ⟨Tryz.runUnderlying168⟩ rfl ⟨Tryz.sizeOf3⟩ (by decide) rfl
instance : Fld Tryz.prog 168 2 2 := Fld.of (n := 1) ⟨Tryz.runUnderlying168⟩ rfl ⟨Tryz.sizeOf3⟩ (by decide) rfl
instance : Fld Tryz.prog 168 3 3 := Fld.of (n := 1) ⟨Tryz.runUnderlying168⟩ rfl ⟨Tryz.sizeOf3⟩ (by decide) rfl
instance : Fld Tryz.prog 168 4 4 := Fld.of (n := 1) ⟨Tryz.runUnderlying168⟩ rfl ⟨Tryz.sizeOf3⟩ (by decide) rfl
instance : Places Tryz.prog 168 (fun i => ([(0, 1), (1, 1), (2, 1), (3, 1), (4, 1)] : List (Nat × Nat))[i]?) := Places.struct ⟨Tryz.runUnderlying168⟩ (.c Tryz.sizeOf3 (.c Tryz.sizeOf3 (.c Tryz.sizeOf3 (.c Tryz.sizeOf3 (.c Tryz.sizeOf3 .n)))))
instance : Und Tryz.prog 171 (Go.TypeDesc.func #[42, 3, 3] #[4] Bool.false) := ⟨Tryz.runUnderlying171⟩
instance : IsAgg Tryz.prog 171 false := ⟨Tryz.isAgg171⟩
instance : TySize Tryz.prog 171 1 := ⟨Tryz.sizeOf171⟩
instance : TyBytes Tryz.prog 171 8 := ⟨_, Tryz.typeInfo171, rfl⟩
instance : Zero Tryz.prog 171 [Go.Value.nilFunc] := ⟨_, Tryz.zeroValue171, rfl⟩
instance : Und Tryz.prog 174 (Go.TypeDesc.struct #[(Go.Field.mk "Energy" 3 0 Bool.false "" "" 0), (Go.Field.mk "Full" 3 1 Bool.false "" "" 8), (Go.Field.mk "Power" 3 2 Bool.false "" "" 16), (Go.Field.mk "Charge" 3 3 Bool.false "" "" 24)]) := ⟨Tryz.runUnderlying174⟩
instance : IsAgg Tryz.prog 174 true := ⟨Tryz.isAgg174⟩
instance : TySize Tryz.prog 174 4 := ⟨Tryz.sizeOf174⟩
instance : TyBytes Tryz.prog 174 32 := ⟨_, Tryz.typeInfo174, rfl⟩
instance : Zero Tryz.prog 174 [(Go.Value.int Go.IntKind.i64 0), (Go.Value.int Go.IntKind.i64 0), (Go.Value.int Go.IntKind.i64 0), (Go.Value.int Go.IntKind.i64 0)] := ⟨_, Tryz.zeroValue174, rfl⟩
instance : Fld Tryz.prog 174 0 0 := Fld.of (n := 1) ⟨Tryz.runUnderlying174⟩ rfl ⟨Tryz.sizeOf3⟩ (by decide) rfl
instance : Fld Tryz.prog 174 1 1 := Fld.of (n := 1) ⟨Tryz.runUnderlying174⟩ rfl ⟨Tryz.sizeOf3⟩ (by decide) rfl
instance : Fld Tryz.prog 174 2 2 := Fld.of (n := 1) ⟨Tryz.runUnderlying174⟩ rfl ⟨Tryz.sizeOf3⟩ (by decide) rfl
instance : Fld Tryz.prog 174 3 3 := Fld.of (n := 1) ⟨Tryz.runUnderlying174⟩ rfl ⟨Tryz.sizeOf3⟩ (by decide) rfl
instance : Places Tryz.prog 174 (fun i => ([(0, 1), (1, 1), (2, 1), (3, 1)] : List (Nat × Nat))[i]?) := Places.struct ⟨Tryz.runUnderlying174⟩ (.c Tryz.sizeOf3 (.c Tryz.sizeOf3 (.c Tryz.sizeOf3 (.c Tryz.sizeOf3 .n))))
instance : Und Tryz.prog 200 (Go.TypeDesc.struct #[(Go.Field.mk "l" 22 0 Bool.false "" "switchgear/switchgearlaw09" 0), (Go.Field.mk "i" 3 1 Bool.false "" "switchgear/switchgearlaw09" 24)]) := ⟨Tryz.runUnderlying200⟩
instance : IsAgg Tryz.prog 200 true := ⟨Tryz.isAgg200⟩
instance : TySize Tryz.prog 200 2 := ⟨Tryz.sizeOf200⟩
instance : TyBytes Tryz.prog 200 32 := ⟨_, Tryz.typeInfo200, rfl⟩
instance : Zero Tryz.prog 200 [(Go.Value.slice none 0 0), (Go.Value.int Go.IntKind.i64 0)] := ⟨_, Tryz.zeroValue200, rfl⟩
instance : Fld Tryz.prog 200 0 0 := Fld.of (n := 1) ⟨Tryz.runUnderlying200⟩ rfl ⟨Tryz.sizeOf22⟩ (by decide) rfl
instance : Fld Tryz.prog 200 1 1 := Fld.of (n := 1) ⟨Tryz.runUnderlying200⟩ rfl ⟨Tryz.sizeOf3⟩ (by decide) rfl
instance : Places Tryz.prog 200 (fun i => ([(0, 1), (1, 1)] : List (Nat × Nat))[i]?) := Places.struct ⟨Tryz.runUnderlying200⟩ (.c Tryz.sizeOf22 (.c Tryz.sizeOf3 .n))
instance : Und Tryz.prog 201 (Go.TypeDesc.slice 75) := ⟨Tryz.runUnderlying201⟩
instance : IsAgg Tryz.prog 201 false := ⟨Tryz.isAgg201⟩
instance : TySize Tryz.prog 201 1 := ⟨Tryz.sizeOf201⟩
instance : TyBytes Tryz.prog 201 24 := ⟨_, Tryz.typeInfo201, rfl⟩
instance : Zero Tryz.prog 201 [(Go.Value.slice none 0 0)] := ⟨_, Tryz.zeroValue201, rfl⟩
instance : Und Tryz.prog 203 (Go.TypeDesc.pointer 206) := ⟨Tryz.runUnderlying203⟩
instance : IsAgg Tryz.prog 203 false := ⟨Tryz.isAgg203⟩
instance : TySize Tryz.prog 203 1 := ⟨Tryz.sizeOf203⟩
instance : TyBytes Tryz.prog 203 8 := ⟨_, Tryz.typeInfo203, rfl⟩
instance : Zero Tryz.prog 203 [(Go.Value.pointer none)] := ⟨_, Tryz.zeroValue203, rfl⟩
instance : Und Tryz.prog 204 (Go.TypeDesc.map 161 4) := ⟨Tryz.runUnderlying204⟩
instance : IsAgg Tryz.prog 204 false := ⟨Tryz.isAgg204⟩
instance : TySize Tryz.prog 204 1 := ⟨Tryz.sizeOf204⟩
instance : TyBytes Tryz.prog 204 8 := ⟨_, Tryz.typeInfo204, rfl⟩
instance : Zero Tryz.prog 204 [(Go.Value.map none)] := ⟨_, Tryz.zeroValue204, rfl⟩
instance : Und Tryz.prog 206 (Go.TypeDesc.struct #[(Go.Field.mk "Task" 77 0 Bool.true "" "" 0), (Go.Field.mk "known" 204 4 Bool.false "" "switchgear/place" 64)]) := ⟨Tryz.runUnderlying206⟩
instance : IsAgg Tryz.prog 206 true := ⟨Tryz.isAgg206⟩
instance : TySize Tryz.prog 206 5 := ⟨Tryz.sizeOf206⟩
instance : TyBytes Tryz.prog 206 72 := ⟨_, Tryz.typeInfo206, rfl⟩
instance : Zero Tryz.prog 206 [(Go.Value.slice none 0 0), (Go.Value.slice none 0 0), (Go.Value.int Go.IntKind.i64 0), (Go.Value.int Go.IntKind.i64 0), (Go.Value.map none)] := ⟨_, Tryz.zeroValue206, rfl⟩
instance : Fld Tryz.prog 206 0 0 := Fld.of (n := 4) ⟨Tryz.runUnderlying206⟩ rfl ⟨Tryz.sizeOf77⟩ (by decide) rfl
instance : Fld Tryz.prog 206 1 4 := Fld.of (n := 1) ⟨Tryz.runUnderlying206⟩ rfl ⟨Tryz.sizeOf204⟩ (by decide) rfl
instance : Places Tryz.prog 206 (fun i => ([(0, 4), (4, 1)] : List (Nat × Nat))[i]?) := Places.struct ⟨Tryz.runUnderlying206⟩ (.c Tryz.sizeOf77 (.c Tryz.sizeOf204 .n))
instance : Und Tryz.prog 207 (Go.TypeDesc.func #[29] #[] Bool.false) := ⟨Tryz.runUnderlying207⟩
instance : IsAgg Tryz.prog 207 false := ⟨Tryz.isAgg207⟩
instance : TySize Tryz.prog 207 1 := ⟨Tryz.sizeOf207⟩
instance : TyBytes Tryz.prog 207 8 := ⟨_, Tryz.typeInfo207, rfl⟩
instance : Zero Tryz.prog 207 [Go.Value.nilFunc] := ⟨_, Tryz.zeroValue207, rfl⟩
instance : Und Tryz.prog 215 (Go.TypeDesc.struct #[(Go.Field.mk "Power" 3 0 Bool.false "" "" 0), (Go.Field.mk "Ramp" 3 1 Bool.false "" "" 8), (Go.Field.mk "Delay" 3 2 Bool.false "" "" 16), (Go.Field.mk "Pause" 3 3 Bool.false "" "" 24), (Go.Field.mk "Tries" 3 4 Bool.false "" "" 32)]) := ⟨Tryz.runUnderlying215⟩
instance : IsAgg Tryz.prog 215 true := ⟨Tryz.isAgg215⟩
instance : TySize Tryz.prog 215 5 := ⟨Tryz.sizeOf215⟩
instance : TyBytes Tryz.prog 215 40 := ⟨_, Tryz.typeInfo215, rfl⟩
instance : Zero Tryz.prog 215 [(Go.Value.int Go.IntKind.i64 0), (Go.Value.int Go.IntKind.i64 0), (Go.Value.int Go.IntKind.i64 0), (Go.Value.int Go.IntKind.i64 0), (Go.Value.int Go.IntKind.i64 0)] := ⟨_, Tryz.zeroValue215, rfl⟩
instance : Fld Tryz.prog 215 0 0 := Fld.of (n := 1) ⟨Tryz.runUnderlying215⟩ rfl ⟨Tryz.sizeOf3⟩ (by decide) rfl
instance : Fld Tryz.prog 215 1 1 := Fld.of (n := 1) ⟨Tryz.runUnderlying215⟩ rfl ⟨Tryz.sizeOf3⟩ (by decide) rfl
instance : Fld Tryz.prog 215 2 2 := Fld.of (n := 1) ⟨Tryz.runUnderlying215⟩ rfl ⟨Tryz.sizeOf3⟩ (by decide) rfl
instance : Fld Tryz.prog 215 3 3 := Fld.of (n := 1) ⟨Tryz.runUnderlying215⟩ rfl ⟨Tryz.sizeOf3⟩ (by decide) rfl
instance : Fld Tryz.prog 215 4 4 := Fld.of (n := 1) ⟨Tryz.runUnderlying215⟩ rfl ⟨Tryz.sizeOf3⟩ (by decide) rfl
instance : Places Tryz.prog 215 (fun i => ([(0, 1), (1, 1), (2, 1), (3, 1), (4, 1)] : List (Nat × Nat))[i]?) := Places.struct ⟨Tryz.runUnderlying215⟩ (.c Tryz.sizeOf3 (.c Tryz.sizeOf3 (.c Tryz.sizeOf3 (.c Tryz.sizeOf3 (.c Tryz.sizeOf3 .n)))))
instance : Und Tryz.prog 231 (Go.TypeDesc.pointer 302) := ⟨Tryz.runUnderlying231⟩
instance : IsAgg Tryz.prog 231 false := ⟨Tryz.isAgg231⟩
instance : TySize Tryz.prog 231 1 := ⟨Tryz.sizeOf231⟩
instance : TyBytes Tryz.prog 231 8 := ⟨_, Tryz.typeInfo231, rfl⟩
instance : Zero Tryz.prog 231 [(Go.Value.pointer none)] := ⟨_, Tryz.zeroValue231, rfl⟩
instance : Und Tryz.prog 242 (Go.TypeDesc.map 3 3) := ⟨Tryz.runUnderlying242⟩
instance : IsAgg Tryz.prog 242 false := ⟨Tryz.isAgg242⟩
instance : TySize Tryz.prog 242 1 := ⟨Tryz.sizeOf242⟩
instance : TyBytes Tryz.prog 242 8 := ⟨_, Tryz.typeInfo242, rfl⟩
instance : Zero Tryz.prog 242 [(Go.Value.map none)] := ⟨_, Tryz.zeroValue242, rfl⟩
instance : Und Tryz.prog 248 (Go.TypeDesc.func #[3] #[4] Bool.false) := ⟨Tryz.runUnderlying248⟩
instance : IsAgg Tryz.prog 248 false := ⟨Tryz.isAgg248⟩
instance : TySize Tryz.prog 248 1 := ⟨Tryz.sizeOf248⟩
instance : TyBytes Tryz.prog 248 8 := ⟨_, Tryz.typeInfo248, rfl⟩
instance : Zero Tryz.prog 248 [Go.Value.nilFunc] := ⟨_, Tryz.zeroValue248, rfl⟩
instance : Und Tryz.prog 257 (Go.TypeDesc.slice 49) := ⟨Tryz.runUnderlying257⟩
instance : IsAgg Tryz.prog 257 false := ⟨Tryz.isAgg257⟩
instance : TySize Tryz.prog 257 1 := ⟨Tryz.sizeOf257⟩
instance : TyBytes Tryz.prog 257 24 := ⟨_, Tryz.typeInfo257, rfl⟩
instance : Zero Tryz.prog 257 [(Go.Value.slice none 0 0)] := ⟨_, Tryz.zeroValue257, rfl⟩
instance : Und Tryz.prog 261 (Go.TypeDesc.array 3 39) := ⟨Tryz.runUnderlying261⟩
instance : IsAgg Tryz.prog 261 true := ⟨Tryz.isAgg261⟩
instance : TySize Tryz.prog 261 3 := ⟨Tryz.sizeOf261⟩
instance : TyBytes Tryz.prog 261 24 := ⟨_, Tryz.typeInfo261, rfl⟩
instance : Zero Tryz.prog 261 [Go.Value.nilFunc, Go.Value.nilFunc, Go.Value.nilFunc] := ⟨_, Tryz.zeroValue261, rfl⟩
instance : Places Tryz.prog 261 (fun i => some (i * 1, 1)) := Places.array ⟨Tryz.runUnderlying261⟩ ⟨Tryz.sizeOf39⟩
instance : Und Tryz.prog 273 (Go.TypeDesc.pointer 282) := ⟨Tryz.runUnderlying273⟩
instance : IsAgg Tryz.prog 273 false := ⟨Tryz.isAgg273⟩
instance : TySize Tryz.prog 273 1 := ⟨Tryz.sizeOf273⟩
instance : TyBytes Tryz.prog 273 8 := ⟨_, Tryz.typeInfo273, rfl⟩
instance : Zero Tryz.prog 273 [(Go.Value.pointer none)] := ⟨_, Tryz.zeroValue273, rfl⟩
instance : Und Tryz.prog 275 (Go.TypeDesc.func #[3, 3, 4] #[3] Bool.false) := ⟨Tryz.runUnderlying275⟩
instance : IsAgg Tryz.prog 275 false := ⟨Tryz.isAgg275⟩
instance : TySize Tryz.prog 275 1 := ⟨Tryz.sizeOf275⟩
instance : TyBytes Tryz.prog 275 8 := ⟨_, Tryz.typeInfo275, rfl⟩
instance : Zero Tryz.prog 275 [Go.Value.nilFunc] := ⟨_, Tryz.zeroValue275, rfl⟩
instance : Und Tryz.prog 280 (Go.TypeDesc.slice 329) := ⟨Tryz.runUnderlying280⟩
instance : IsAgg Tryz.prog 280 false := ⟨Tryz.isAgg280⟩
instance : TySize Tryz.prog 280 1 := ⟨Tryz.sizeOf280⟩
instance : TyBytes Tryz.prog 280 24 := ⟨_, Tryz.typeInfo280, rfl⟩
instance : Zero Tryz.prog 280 [(Go.Value.slice none 0 0)] := ⟨_, Tryz.zeroValue280, rfl⟩
instance : Und Tryz.prog 282 (Go.TypeDesc.struct #[(Go.Field.mk "bank" 96 0 Bool.false "" "switchgear/bank" 0), (Go.Field.mk "starts" 29 2 Bool.false "" "switchgear/bank" 48), (Go.Field.mk "cells" 280 3 Bool.false "" "switchgear/bank" 72), (Go.Field.mk "burnt" 29 4 Bool.false "" "switchgear/bank" 96), (Go.Field.mk "served" 3 5 Bool.false "" "switchgear/bank" 120)]) := ⟨Tryz.runUnderlying282⟩
instance : IsAgg Tryz.prog 282 true := ⟨Tryz.isAgg282⟩
instance : TySize Tryz.prog 282 6 := ⟨Tryz.sizeOf282⟩
instance : TyBytes Tryz.prog 282 128 := ⟨_, Tryz.typeInfo282, rfl⟩
instance : Zero Tryz.prog 282 [(Go.Value.slice none 0 0), (Go.Value.slice none 0 0), (Go.Value.slice none 0 0), (Go.Value.slice none 0 0), (Go.Value.slice none 0 0), (Go.Value.int Go.IntKind.i64 0)] := ⟨_, Tryz.zeroValue282, rfl⟩
instance : Fld Tryz.prog 282 0 0 := Fld.of (n := 2) ⟨Tryz.runUnderlying282⟩ rfl ⟨Tryz.sizeOf96⟩ (by decide) rfl
instance : Fld Tryz.prog 282 1 2 := Fld.of (n := 1) ⟨Tryz.runUnderlying282⟩ rfl ⟨Tryz.sizeOf29⟩ (by decide) rfl
instance : Fld Tryz.prog 282 2 3 := Fld.of (n := 1) ⟨Tryz.runUnderlying282⟩ rfl ⟨Tryz.sizeOf280⟩ (by decide) rfl
instance : Fld Tryz.prog 282 3 4 := Fld.of (n := 1) ⟨Tryz.runUnderlying282⟩ rfl ⟨Tryz.sizeOf29⟩ (by decide) rfl
instance : Fld Tryz.prog 282 4 5 := Fld.of (n := 1) ⟨Tryz.runUnderlying282⟩ rfl ⟨Tryz.sizeOf3⟩ (by decide) rfl
instance : Places Tryz.prog 282 (fun i => ([(0, 2), (2, 1), (3, 1), (4, 1), (5, 1)] : List (Nat × Nat))[i]?) := Places.struct ⟨Tryz.runUnderlying282⟩ (.c Tryz.sizeOf96 (.c Tryz.sizeOf29 (.c Tryz.sizeOf280 (.c Tryz.sizeOf29 (.c Tryz.sizeOf3 .n)))))
instance : Und Tryz.prog 292 (Go.TypeDesc.struct #[(Go.Field.mk "From" 3 0 Bool.false "" "" 0), (Go.Field.mk "To" 3 1 Bool.false "" "" 8), (Go.Field.mk "Hours" 3 2 Bool.false "" "" 16), (Go.Field.mk "Power" 3 3 Bool.false "" "" 24)]) := ⟨Tryz.runUnderlying292⟩
instance : IsAgg Tryz.prog 292 true := ⟨Tryz.isAgg292⟩
instance : TySize Tryz.prog 292 4 := ⟨Tryz.sizeOf292⟩
instance : TyBytes Tryz.prog 292 32 := ⟨_, Tryz.typeInfo292, rfl⟩
instance : Zero Tryz.prog 292 [(Go.Value.int Go.IntKind.i64 0), (Go.Value.int Go.IntKind.i64 0), (Go.Value.int Go.IntKind.i64 0), (Go.Value.int Go.IntKind.i64 0)] := ⟨_, Tryz.zeroValue292, rfl⟩
instance : Fld Tryz.prog 292 0 0 := Fld.of (n := 1) ⟨Tryz.runUnderlying292⟩ rfl ⟨Tryz.sizeOf3⟩ (by decide) rfl
instance : Fld Tryz.prog 292 1 1 := Fld.of (n := 1) ⟨Tryz.runUnderlying292⟩ rfl ⟨Tryz.sizeOf3⟩ (by decide) rfl
instance : Fld Tryz.prog 292 2 2 := Fld.of (n := 1) ⟨Tryz.runUnderlying292⟩ rfl ⟨Tryz.sizeOf3⟩ (by decide) rfl
instance : Fld Tryz.prog 292 3 3 := Fld.of (n := 1) ⟨Tryz.runUnderlying292⟩ rfl ⟨Tryz.sizeOf3⟩ (by decide) rfl
instance : Places Tryz.prog 292 (fun i => ([(0, 1), (1, 1), (2, 1), (3, 1)] : List (Nat × Nat))[i]?) := Places.struct ⟨Tryz.runUnderlying292⟩ (.c Tryz.sizeOf3 (.c Tryz.sizeOf3 (.c Tryz.sizeOf3 (.c Tryz.sizeOf3 .n))))
instance : Und Tryz.prog 300 (Go.TypeDesc.slice 304) := ⟨Tryz.runUnderlying300⟩
instance : IsAgg Tryz.prog 300 false := ⟨Tryz.isAgg300⟩
instance : TySize Tryz.prog 300 1 := ⟨Tryz.sizeOf300⟩
instance : TyBytes Tryz.prog 300 24 := ⟨_, Tryz.typeInfo300, rfl⟩
instance : Zero Tryz.prog 300 [(Go.Value.slice none 0 0)] := ⟨_, Tryz.zeroValue300, rfl⟩
instance : Und Tryz.prog 302 (Go.TypeDesc.struct #[(Go.Field.mk "Case" 130 0 Bool.true "" "" 0), (Go.Field.mk "set" 29 2 Bool.false "" "switchgear/meter" 48), (Go.Field.mk "may" 300 3 Bool.false "" "switchgear/meter" 72)]) := ⟨Tryz.runUnderlying302⟩
instance : IsAgg Tryz.prog 302 true := ⟨Tryz.isAgg302⟩
instance : TySize Tryz.prog 302 4 := ⟨Tryz.sizeOf302⟩
instance : TyBytes Tryz.prog 302 96 := ⟨_, Tryz.typeInfo302, rfl⟩
instance : Zero Tryz.prog 302 [(Go.Value.slice none 0 0), (Go.Value.slice none 0 0), (Go.Value.slice none 0 0), (Go.Value.slice none 0 0)] := ⟨_, Tryz.zeroValue302, rfl⟩
instance : Fld Tryz.prog 302 0 0 := Fld.of (n := 2) ⟨Tryz.runUnderlying302⟩ rfl ⟨Tryz.sizeOf130⟩ (by decide) rfl
instance : Fld Tryz.prog 302 1 2 := Fld.of (n := 1) ⟨Tryz.runUnderlying302⟩ rfl ⟨Tryz.sizeOf29⟩ (by decide) rfl
instance : Fld Tryz.prog 302 2 3 := Fld.of (n := 1) ⟨Tryz.runUnderlying302⟩ rfl ⟨Tryz.sizeOf300⟩ (by decide) rfl
instance : Places Tryz.prog 302 (fun i => ([(0, 2), (2, 1), (3, 1)] : List (Nat × Nat))[i]?) := Places.struct ⟨Tryz.runUnderlying302⟩ (.c Tryz.sizeOf130 (.c Tryz.sizeOf29 (.c Tryz.sizeOf300 .n)))
instance : Und Tryz.prog 304 (Go.TypeDesc.struct #[(Go.Field.mk "first" 3 0 Bool.false "" "switchgear/meter" 0), (Go.Field.mk "last" 3 1 Bool.false "" "switchgear/meter" 8)]) := ⟨Tryz.runUnderlying304⟩
instance : IsAgg Tryz.prog 304 true := ⟨Tryz.isAgg304⟩
instance : TySize Tryz.prog 304 2 := ⟨Tryz.sizeOf304⟩
instance : TyBytes Tryz.prog 304 16 := ⟨_, Tryz.typeInfo304, rfl⟩
instance : Zero Tryz.prog 304 [(Go.Value.int Go.IntKind.i64 0), (Go.Value.int Go.IntKind.i64 0)] := ⟨_, Tryz.zeroValue304, rfl⟩
instance : Fld Tryz.prog 304 0 0 := Fld.of (n := 1) ⟨Tryz.runUnderlying304⟩ rfl ⟨Tryz.sizeOf3⟩ (by decide) rfl
instance : Fld Tryz.prog 304 1 1 := Fld.of (n := 1) ⟨Tryz.runUnderlying304⟩ rfl ⟨Tryz.sizeOf3⟩ (by decide) rfl
instance : Places Tryz.prog 304 (fun i => ([(0, 1), (1, 1)] : List (Nat × Nat))[i]?) := Places.struct ⟨Tryz.runUnderlying304⟩ (.c Tryz.sizeOf3 (.c Tryz.sizeOf3 .n))
instance : Und Tryz.prog 314 (Go.TypeDesc.int Go.IntKind.u64) := ⟨Tryz.runUnderlying314⟩
instance : IsAgg Tryz.prog 314 false := ⟨Tryz.isAgg314⟩
instance : TySize Tryz.prog 314 1 := ⟨Tryz.sizeOf314⟩
instance : TyBytes Tryz.prog 314 8 := ⟨_, Tryz.typeInfo314, rfl⟩
instance : Zero Tryz.prog 314 [(Go.Value.int Go.IntKind.u64 0)] := ⟨_, Tryz.zeroValue314, rfl⟩
instance : Und Tryz.prog 321 (Go.TypeDesc.struct #[(Go.Field.mk "Hall" 28 0 Bool.true "" "" 0), (Go.Field.mk "Case" 31 4 Bool.true "" "" 96), (Go.Field.mk "t" 29 7 Bool.false "" "switchgear/heat" 136), (Go.Field.mk "taken" 29 8 Bool.false "" "switchgear/heat" 160)]) := ⟨Tryz.runUnderlying321⟩
instance : IsAgg Tryz.prog 321 true := ⟨Tryz.isAgg321⟩
instance : TySize Tryz.prog 321 9 := ⟨Tryz.sizeOf321⟩
instance : TyBytes Tryz.prog 321 184 := ⟨_, Tryz.typeInfo321, rfl⟩
instance : Zero Tryz.prog 321 [(Go.Value.slice none 0 0), (Go.Value.slice none 0 0), (Go.Value.slice none 0 0), (Go.Value.slice none 0 0), (Go.Value.slice none 0 0), (Go.Value.int Go.IntKind.i64 0), (Go.Value.int Go.IntKind.i64 0), (Go.Value.slice none 0 0), (Go.Value.slice none 0 0)] := ⟨_, Tryz.zeroValue321, rfl⟩
instance : Fld Tryz.prog 321 0 0 := Fld.of (n := 4) ⟨Tryz.runUnderlying321⟩ rfl ⟨Tryz.sizeOf28⟩ (by decide) rfl
instance : Fld Tryz.prog 321 1 4 := Fld.of (n := 3) ⟨Tryz.runUnderlying321⟩ rfl ⟨Tryz.sizeOf31⟩ (by decide) rfl
instance : Fld Tryz.prog 321 2 7 := Fld.of (n := 1) ⟨Tryz.runUnderlying321⟩ rfl ⟨Tryz.sizeOf29⟩ (by decide) rfl
instance : Fld Tryz.prog 321 3 8 := Fld.of (n := 1) ⟨Tryz.runUnderlying321⟩ rfl ⟨Tryz.sizeOf29⟩ (by decide) rfl
instance : Places Tryz.prog 321 (fun i => ([(0, 4), (4, 3), (7, 1), (8, 1)] : List (Nat × Nat))[i]?) := Places.struct ⟨Tryz.runUnderlying321⟩ (.c Tryz.sizeOf28 (.c Tryz.sizeOf31 (.c Tryz.sizeOf29 (.c Tryz.sizeOf29 .n))))
instance : Und Tryz.prog 329 (Go.TypeDesc.struct #[(Go.Field.mk "Battery" 174 0 Bool.true "" "" 0), (Go.Field.mk "now" 3 4 Bool.false "" "switchgear/bank" 32)]) := ⟨Tryz.runUnderlying329⟩
instance : IsAgg Tryz.prog 329 true := ⟨Tryz.isAgg329⟩
instance : TySize Tryz.prog 329 5 := ⟨Tryz.sizeOf329⟩
instance : TyBytes Tryz.prog 329 40 := ⟨_, Tryz.typeInfo329, rfl⟩
instance : Zero Tryz.prog 329 [(Go.Value.int Go.IntKind.i64 0), (Go.Value.int Go.IntKind.i64 0), (Go.Value.int Go.IntKind.i64 0), (Go.Value.int Go.IntKind.i64 0), (Go.Value.int Go.IntKind.i64 0)] := ⟨_, Tryz.zeroValue329, rfl⟩
instance : Fld Tryz.prog 329 0 0 := Fld.of (n := 4) ⟨Tryz.runUnderlying329⟩ rfl ⟨Tryz.sizeOf174⟩ (by decide) rfl
instance : Fld Tryz.prog 329 1 4 := Fld.of (n := 1) ⟨Tryz.runUnderlying329⟩ rfl ⟨Tryz.sizeOf3⟩ (by decide) rfl
instance : Places Tryz.prog 329 (fun i => ([(0, 4), (4, 1)] : List (Nat × Nat))[i]?) := Places.struct ⟨Tryz.runUnderlying329⟩ (.c Tryz.sizeOf174 (.c Tryz.sizeOf3 .n))
instance : Und Tryz.prog 344 (Go.TypeDesc.int Go.IntKind.u32) := ⟨Tryz.runUnderlying344⟩
instance : IsAgg Tryz.prog 344 false := ⟨Tryz.isAgg344⟩
instance : TySize Tryz.prog 344 1 := ⟨Tryz.sizeOf344⟩
instance : TyBytes Tryz.prog 344 4 := ⟨_, Tryz.typeInfo344, rfl⟩
instance : Zero Tryz.prog 344 [(Go.Value.int Go.IntKind.u32 0)] := ⟨_, Tryz.zeroValue344, rfl⟩
instance : Und Tryz.prog 349 (Go.TypeDesc.func #[3, 3] #[] Bool.false) := ⟨Tryz.runUnderlying349⟩
instance : IsAgg Tryz.prog 349 false := ⟨Tryz.isAgg349⟩
instance : TySize Tryz.prog 349 1 := ⟨Tryz.sizeOf349⟩
instance : TyBytes Tryz.prog 349 8 := ⟨_, Tryz.typeInfo349, rfl⟩
instance : Zero Tryz.prog 349 [Go.Value.nilFunc] := ⟨_, Tryz.zeroValue349, rfl⟩
theorem _root_.Go.Proofs.Tryz.mixed : Tryz.prog.follows .mixedOrders = true := by kernel_rfl
end Go.X

set_option linter.unusedSimpArgs false
set_option linter.unusedVariables false
set_option maxRecDepth 20000
namespace Go.X.Bk
open Go.Proofs
def encBat (x : BBat) : List Value := [.int .i64 x.energy, .int .i64 x.full, .int .i64 x.power, .int .i64 x.charge]
def encGen (x : BGen) : List Value := [.int .i64 x.power, .int .i64 x.ramp, .int .i64 x.delay, .int .i64 x.pause, .int .i64 x.tries]
def encSpan (x : BSpan) : List Value := [.int .i64 x.seconds, .int .i64 x.power]
def encCell (x : BCell) : List Value := [.int .i64 x.bat.energy, .int .i64 x.bat.full, .int .i64 x.bat.power, .int .i64 x.bat.charge, .int .i64 x.now]
abbrev batV (x : BBat) : Value := .agg #[.int .i64 x.energy, .int .i64 x.full, .int .i64 x.power, .int .i64 x.charge]
abbrev genV (x : BGen) : Value := .agg #[.int .i64 x.power, .int .i64 x.ramp, .int .i64 x.delay, .int .i64 x.pause, .int .i64 x.tries]
theorem cloneI (v : Value) (h : PHeap) (xs : List Int) [s : Arr v encI 1 h xs] (hl : xs.length ≤ 68719476736) :
  Spec Tryz.prog 59 #[v] [] [h] (fun v' hs => ∃ h', hs = [h'] ∧ OArr v' encI 1 3 h' xs) := by
 refine Spec.intro (fn := Tryz.f59) (N := 8) Tryz.func59 rfl Tryz.ntmps59 rfl fun B => ?_
 refine XK.seq (XK.region rfl (XO.q (Q.assign rfl) (XO.done (XK.seq (XK.seq ?_)))))
 refine XK.region rfl (XO.q (Q.move rfl) ?_)
 refine XO.eqNil rfl fun z4 hz4 => ?_
 refine XO.done ?_
 refine XK.if rfl (fun c0 => ?_) (fun c0 => ?_)
 ·skip
  refine XK.seq (XK.region rfl (XO.q (Q.assign rfl) (XO.done ?_)))
  refine XK.rt [emp] Tryz.func59 Tryz.results59 (.t rfl .n) ?_
  exact ⟨emp, rfl, by rw [(hz4 c0).1]; exact OArr.nil (fun _ => rfl)⟩
 ·skip
  refine XK.skip (XK.seq (XK.region rfl ?_))
  refine XO.lit [] [] [] encI (by rfl) (by rfl) rfl (by rfl) (by exact .n _) (fun _ => rfl) (by rfl) rfl (by infer_instance) rfl fun v5 h5 O5 => ?_
  refine XO.q (Q.move rfl) ?_
  refine XO.append rfl rfl rfl rfl (by first | omega | (simp; omega)) fun v7 h7 O7 => ?_
  refine XO.q (Q.assign rfl) (XO.done ?_)
  refine XK.rt [h7] Tryz.func59 Tryz.results59 (.t rfl .n) ?_
  exact ⟨h7, rfl, O7⟩
theorem cloneC (v : Value) (h : PHeap) (xs : List BCell) [s : Arr v encCell 5 h xs] (hl : xs.length ≤ 68719476736) :
  Spec Tryz.prog 176 #[v] [] [h] (fun v' hs => ∃ h', hs = [h'] ∧ OArr v' encCell 5 329 h' xs) := by
 refine Spec.intro (fn := Tryz.f176) (N := 8) Tryz.func176 rfl Tryz.ntmps176 rfl fun B => ?_
 refine XK.seq (XK.region rfl (XO.q (Q.assign rfl) (XO.done (XK.seq (XK.seq ?_)))))
 refine XK.region rfl (XO.q (Q.move rfl) ?_)
 refine XO.eqNil rfl fun z4 hz4 => ?_
 refine XO.done ?_
 refine XK.if rfl (fun c0 => ?_) (fun c0 => ?_)
 ·skip
  refine XK.seq (XK.region rfl (XO.q (Q.assign rfl) (XO.done ?_)))
  refine XK.rt [emp] Tryz.func176 Tryz.results176 (.t rfl .n) ?_
  exact ⟨emp, rfl, by rw [(hz4 c0).1]; exact OArr.nil (fun _ => rfl)⟩
 ·skip
  refine XK.skip (XK.seq (XK.region rfl ?_))
  refine XO.lit [] [] [] encCell (by rfl) (by rfl) rfl (by rfl) (by exact .n _) (fun _ => rfl) (by rfl) rfl (by infer_instance) rfl fun v5 h5 O5 => ?_
  refine XO.q (Q.move rfl) ?_
  refine XO.append rfl rfl rfl rfl (by first | omega | (simp; omega)) fun v7 h7 O7 => ?_
  refine XO.q (Q.assign rfl) (XO.done ?_)
  refine XK.rt [h7] Tryz.func176 Tryz.results176 (.t rfl .n) ?_
  exact ⟨h7, rfl, O7⟩
theorem equalI (v1 v2 : Value) (h1 h2 : PHeap) (xs ys : List Int) [s1 : Arr v1 encI 1 h1 xs] [s2 : Arr v2 encI 1 h2 ys] :
  Spec Tryz.prog 35 #[v1, v2] [] [h1, h2] (fun v hs => v = .bool (decide (xs = ys)) ∧ hs = []) := by
 refine Spec.intro (fn := Tryz.f35) (N := 26) Tryz.func35 rfl Tryz.ntmps35 rfl fun B => ?_
 refine XK.seq (XK.region rfl (XO.q (Q.assign rfl) (XO.done (XK.seq (XK.seq ?_)))))
 refine XK.region rfl (XO.q (Q.move rfl) ?_)
 refine XO.len rfl fun l7 => ?_
 refine XO.q (Q.move rfl) ?_
 refine XO.len rfl fun l9 => ?_
 refine XO.q (Q.neq rfl rfl) ?_
 refine XO.done ?_
 refine XK.if rfl (fun c0 => ?_) (fun c0 => ?_)
 ·skip
  refine XK.seq (XK.region rfl (XO.q (Q.assign rfl) (XO.done ?_)))
  refine XK.rt [] Tryz.func35 Tryz.results35 (.t rfl .n) ?_
  exact ⟨by rw [decide_eq_false (fun h => c0 (by rw [h]))], rfl⟩
 ·skip
  refine XK.skip (XK.seq (XK.seq (XK.region rfl (XO.q (Q.move rfl) ?_))))
  refine XO.len rfl fun l12 => ?_
  refine XO.q (Q.move rfl) (XO.done (XK.block ?_))
  refine XK.while (X := Nat) [4, 5, 13, 14, 15, 16, 17, 18, 19, 20, 21, 22, 23, 24, 25] (fun i => [(13, some (.int .i64 (i : Nat)))]) (fun i => []) (fun i => i ≤ xs.length ∧ xs.take i = ys.take i) (fun i => xs.length - i) (0) [] rfl ⟨by omega, rfl⟩ (.c rfl (.base 0 rfl rfl)) ?_
  rintro i ⟨hi, ht⟩ ih0
  dsimp only [lcA, lnA] at ih0 ⊢
  refine XK.seq (XK.region rfl ?_)
  refine XO.q (Q.lss rfl rfl) ?_
  refine XO.done (XK.seq ?_)
  refine XK.if rfl (fun c1 => ?_) (fun c1 => ?_)
  ·skip
   refine XK.skip (XK.seq (XK.block (XK.seq (XK.region rfl (XO.q (Q.move rfl) ?_)))))
   refine XO.q (Q.assign rfl) (XO.done (XK.seq ?_))
   refine XK.drawn [0, 1, 2, 3, 4, 5, 6, 7, 8] [] [] (.q 0 (.q 1 (.q 2 (.q 3 (.q 4 (.q 5 (.q 6 (.q 7 (.q 8 .done))))))))) Tryz.mixed rfl (by kernel_rfl) ?_
   refine XT.q rfl rfl (Q.move rfl) ?_
   refine XT.q rfl rfl (Q.move rfl) ?_
   refine XT.ix rfl rfl rfl rfl (by omega) (by omega) fun i18 => ?_
   refine XT.q rfl rfl (Q.ldE rfl (by first | assumption | omega) rfl) ?_
   refine XT.q rfl rfl (Q.move rfl) ?_
   refine XT.q rfl rfl (Q.move rfl) ?_
   refine XT.ix rfl rfl rfl rfl (by omega) (by omega) fun i22 => ?_
   refine XT.q rfl rfl (Q.ldE rfl (by first | assumption | omega) rfl) ?_
   refine XT.q rfl rfl (Q.neq rfl rfl) ?_
   refine XT.done ?_
   refine XK.if rfl (fun c2 => ?_) (fun c2 => ?_)
   ·skip
    refine XK.seq (XK.region rfl (XO.q (Q.assign rfl) (XO.done ?_)))
    refine XK.rt [] Tryz.func35 Tryz.results35 (.t rfl .n) ?_
    exact ⟨by rw [decide_eq_false (fun h => c2 (by rw [h]))], rfl⟩
   ·skip
    refine XK.skip ?_
    refine XK.inBlock ?_
    refine XK.region rfl ?_
    refine XO.q (Q.add rfl rfl ⟨by omega, by omega⟩) ?_
    refine XO.q (Q.move rfl) (XO.done ?_)
    exact ih0 (i + 1) _ _ ⟨by omega, take_step ht (by omega) (by omega) (Decidable.of_not_not c2)⟩ (by first | omega | (dsimp only; omega)) (.c rfl (.base 30 rfl rfl)) inferInstance
  ·skip
   refine XK.exit rfl ?_
   refine XK.seq (XK.region rfl (XO.q (Q.assign rfl) (XO.done ?_)))
   refine XK.rt [] Tryz.func35 Tryz.results35 (.t rfl .n) ?_
   exact ⟨by rw [decide_eq_true (take_all ht c1 (by omega))], rfl⟩
theorem indexFuncI (v : Value) (h : PHeap) (xs : List Int) [s : Arr v encI 1 h xs] (gid : FuncId) (cap : List Value) (Hr : List PHeap) (p : Int → Bool)
  (hc : ∀ args w, (callFunc gid args).run Tryz.prog w = .ok (.enter gid args) w) (hS : ∀ x ∈ xs, Spec Tryz.prog gid (.int .i64 x :: cap).toArray [] Hr (fun v hs => v = .bool (p x) ∧ hs = [])) :
  Spec Tryz.prog 159 #[v, .func (.func gid) #[] cap.toArray] [] (h :: Hr) (fun v hs => v = .int .i64 (findFirst p xs) ∧ hs = []) := by
 refine Spec.intro (fn := Tryz.f159) (N := 19) Tryz.func159 rfl Tryz.ntmps159 rfl fun B => ?_
 refine XK.seq (XK.region rfl (XO.q (Q.assign rfl) (XO.done (XK.seq (XK.seq ?_)))))
 refine XK.region rfl (XO.q (Q.move rfl) ?_)
 refine XO.len rfl fun l7 => ?_
 refine XO.q (Q.move rfl) (XO.done (XK.block ?_))
 refine XK.while (X := Nat) [4, 5, 8, 9, 10, 11, 12, 13, 14, 15, 16, 17, 18] (fun i => [(8, some (.int .i64 (i : Nat)))]) (fun i => []) (fun i => i ≤ xs.length ∧ (xs.take i).any p = false) (fun i => xs.length - i) (0) [] rfl ⟨by omega, rfl⟩ (.c rfl (.base 0 rfl rfl)) ?_
 rintro i ⟨hi, ht⟩ ih0
 dsimp only [lcA, lnA] at ih0 ⊢
 refine XK.seq (XK.region rfl ?_)
 refine XO.q (Q.lss rfl rfl) ?_
 refine XO.done (XK.seq ?_)
 refine XK.if rfl (fun c0 => ?_) (fun c0 => ?_)
 ·skip
  refine XK.skip (XK.seq (XK.block (XK.seq (XK.region rfl (XO.q (Q.move rfl) ?_)))))
  refine XO.q (Q.assign rfl) (XO.done (XK.seq (XK.region rfl (XO.q (Q.move rfl) (XO.q (Q.move rfl) ?_)))))
  refine XO.q (Q.move rfl) ?_
  refine XO.ix rfl rfl (by omega) (by omega) fun i14 => ?_
  refine XO.q (Q.ldE rfl (by first | assumption | omega) rfl) ?_
  refine XO.call hc rfl rfl rfl (hS _ (getD_mem (by omega))) fun v16 s16 R16 => ?_
  obtain ⟨rfl, rfl⟩ := R16
  dsimp only [lcA, lnA]
  refine XO.done ?_
  refine XK.if rfl (fun c1 => ?_) (fun c1 => ?_)
  ·skip
   refine XK.seq (XK.region rfl (XO.q (Q.move rfl) (XO.q (Q.assign rfl) (XO.done ?_))))
   refine XK.rt [] Tryz.func159 Tryz.results159 (.t rfl .n) ?_
   exact ⟨by rw [findFirst_here ht (by omega) c1], rfl⟩
  ·skip
   refine XK.skip ?_
   refine XK.inBlock ?_
   refine XK.region rfl ?_
   refine XO.q (Q.add rfl rfl ⟨by omega, by omega⟩) ?_
   refine XO.q (Q.move rfl) (XO.done ?_)
   exact ih0 (i + 1) _ _ ⟨by omega, any_step ht (by omega) (Bool.eq_false_iff.2 c1)⟩ (by first | omega | (dsimp only; omega)) (.c rfl (.base 25 rfl rfl)) inferInstance
 ·skip
  refine XK.exit rfl ?_
  refine XK.seq (XK.region rfl (XO.q (Q.assign rfl) (XO.done ?_)))
  refine XK.rt [] Tryz.func159 Tryz.results159 (.t rfl .n) ?_
  exact ⟨by rw [findFirst_none ht c0], rfl⟩
theorem containsFuncI (v : Value) (h : PHeap) (xs : List Int) [s : Arr v encI 1 h xs] (gid : FuncId) (cap : List Value) (Hr : List PHeap) (p : Int → Bool)
  (hc : ∀ args w, (callFunc gid args).run Tryz.prog w = .ok (.enter gid args) w) (hS : ∀ x ∈ xs, Spec Tryz.prog gid (.int .i64 x :: cap).toArray [] Hr (fun v hs => v = .bool (p x) ∧ hs = [])) :
  Spec Tryz.prog 97 #[v, .func (.func gid) #[] cap.toArray] [] (h :: Hr) (fun v hs => v = .bool (xs.any p) ∧ hs = []) := by
 refine Spec.intro (fn := Tryz.f97) (N := 9) Tryz.func97 rfl Tryz.ntmps97 rfl fun B => ?_
 refine XK.seq (XK.region rfl (XO.q (Q.assign rfl) (XO.done (XK.seq (XK.region rfl ?_)))))
 refine XO.q (Q.move rfl) (XO.q (Q.move rfl) ?_)
 refine XO.call Tryz.call159 rfl rfl rfl (indexFuncI v h xs gid cap Hr p hc hS) fun v7 s7 R7 => ?_
 obtain ⟨rfl, rfl⟩ := R7
 dsimp only [lcA, lnA]
 refine XO.q (Q.geq rfl rfl) ?_
 refine XO.q (Q.assign rfl) (XO.done ?_)
 refine XK.rt [] Tryz.func97 Tryz.results97 (.t rfl .n) ?_
 exact ⟨by rw [← findFirst_any], rfl⟩
theorem indexFuncB (v : Value) (h : PHeap) (xs : List BBat) [s : Arr v encBat 4 h xs] (gid : FuncId) (cap : List Value) (Hr : List PHeap) (p : BBat → Bool)
  (hc : ∀ args w, (callFunc gid args).run Tryz.prog w = .ok (.enter gid args) w) (hS : ∀ x ∈ xs, Spec Tryz.prog gid (batV x :: cap).toArray [] Hr (fun v hs => v = .bool (p x) ∧ hs = [])) :
  Spec Tryz.prog 182 #[v, .func (.func gid) #[] cap.toArray] [] (h :: Hr) (fun v hs => v = .int .i64 (findFirst p xs) ∧ hs = []) := by
 refine Spec.intro (fn := Tryz.f182) (N := 19) Tryz.func182 rfl Tryz.ntmps182 rfl fun B => ?_
 refine XK.seq (XK.region rfl (XO.q (Q.assign rfl) (XO.done (XK.seq (XK.seq ?_)))))
 refine XK.region rfl (XO.q (Q.move rfl) ?_)
 refine XO.len rfl fun l7 => ?_
 refine XO.q (Q.move rfl) (XO.done (XK.block ?_))
 refine XK.while (X := Nat) [4, 5, 8, 9, 10, 11, 12, 13, 14, 15, 16, 17, 18] (fun i => [(8, some (.int .i64 (i : Nat)))]) (fun i => []) (fun i => i ≤ xs.length ∧ (xs.take i).any p = false) (fun i => xs.length - i) (0) [] rfl ⟨by omega, rfl⟩ (.c rfl (.base 0 rfl rfl)) ?_
 rintro i ⟨hi, ht⟩ ih0
 dsimp only [lcA, lnA] at ih0 ⊢
 refine XK.seq (XK.region rfl ?_)
 refine XO.q (Q.lss rfl rfl) ?_
 refine XO.done (XK.seq ?_)
 refine XK.if rfl (fun c0 => ?_) (fun c0 => ?_)
 ·skip
  refine XK.skip (XK.seq (XK.block (XK.seq (XK.region rfl (XO.q (Q.move rfl) ?_)))))
  refine XO.q (Q.assign rfl) (XO.done (XK.seq (XK.region rfl (XO.q (Q.move rfl) (XO.q (Q.move rfl) ?_)))))
  refine XO.q (Q.move rfl) ?_
  refine XO.ix rfl rfl (by omega) (by omega) fun i14 => ?_
  refine XO.q (Q.ldEA [_, _, _, _] rfl (by first | assumption | omega) rfl rfl) ?_
  refine XO.call hc rfl rfl rfl (hS _ (getD_mem (by omega))) fun v16 s16 R16 => ?_
  obtain ⟨rfl, rfl⟩ := R16
  dsimp only [lcA, lnA]
  refine XO.done ?_
  refine XK.if rfl (fun c1 => ?_) (fun c1 => ?_)
  ·skip
   refine XK.seq (XK.region rfl (XO.q (Q.move rfl) (XO.q (Q.assign rfl) (XO.done ?_))))
   refine XK.rt [] Tryz.func182 Tryz.results182 (.t rfl .n) ?_
   exact ⟨by rw [findFirst_here ht (by omega) c1], rfl⟩
  ·skip
   refine XK.skip ?_
   refine XK.inBlock ?_
   refine XK.region rfl ?_
   refine XO.q (Q.add rfl rfl ⟨by omega, by omega⟩) ?_
   refine XO.q (Q.move rfl) (XO.done ?_)
   exact ih0 (i + 1) _ _ ⟨by omega, any_step ht (by omega) (Bool.eq_false_iff.2 c1)⟩ (by first | omega | (dsimp only; omega)) (.c rfl (.base 25 rfl rfl)) inferInstance
 ·skip
  refine XK.exit rfl ?_
  refine XK.seq (XK.region rfl (XO.q (Q.assign rfl) (XO.done ?_)))
  refine XK.rt [] Tryz.func182 Tryz.results182 (.t rfl .n) ?_
  exact ⟨by rw [findFirst_none ht c0], rfl⟩
theorem containsFuncB (v : Value) (h : PHeap) (xs : List BBat) [s : Arr v encBat 4 h xs] (gid : FuncId) (cap : List Value) (Hr : List PHeap) (p : BBat → Bool)
  (hc : ∀ args w, (callFunc gid args).run Tryz.prog w = .ok (.enter gid args) w) (hS : ∀ x ∈ xs, Spec Tryz.prog gid (batV x :: cap).toArray [] Hr (fun v hs => v = .bool (p x) ∧ hs = [])) :
  Spec Tryz.prog 135 #[v, .func (.func gid) #[] cap.toArray] [] (h :: Hr) (fun v hs => v = .bool (xs.any p) ∧ hs = []) := by
 refine Spec.intro (fn := Tryz.f135) (N := 9) Tryz.func135 rfl Tryz.ntmps135 rfl fun B => ?_
 refine XK.seq (XK.region rfl (XO.q (Q.assign rfl) (XO.done (XK.seq (XK.region rfl ?_)))))
 refine XO.q (Q.move rfl) (XO.q (Q.move rfl) ?_)
 refine XO.call Tryz.call182 rfl rfl rfl (indexFuncB v h xs gid cap Hr p hc hS) fun v7 s7 R7 => ?_
 obtain ⟨rfl, rfl⟩ := R7
 dsimp only [lcA, lnA]
 refine XO.q (Q.geq rfl rfl) ?_
 refine XO.q (Q.assign rfl) (XO.done ?_)
 refine XK.rt [] Tryz.func135 Tryz.results135 (.t rfl .n) ?_
 exact ⟨by rw [← findFirst_any], rfl⟩
theorem indexFuncG (v : Value) (h : PHeap) (xs : List BGen) [s : Arr v encGen 5 h xs] (gid : FuncId) (cap : List Value) (Hr : List PHeap) (p : BGen → Bool)
  (hc : ∀ args w, (callFunc gid args).run Tryz.prog w = .ok (.enter gid args) w) (hS : ∀ x ∈ xs, Spec Tryz.prog gid (genV x :: cap).toArray [] Hr (fun v hs => v = .bool (p x) ∧ hs = [])) :
  Spec Tryz.prog 183 #[v, .func (.func gid) #[] cap.toArray] [] (h :: Hr) (fun v hs => v = .int .i64 (findFirst p xs) ∧ hs = []) := by
 refine Spec.intro (fn := Tryz.f183) (N := 19) Tryz.func183 rfl Tryz.ntmps183 rfl fun B => ?_
 refine XK.seq (XK.region rfl (XO.q (Q.assign rfl) (XO.done (XK.seq (XK.seq ?_)))))
 refine XK.region rfl (XO.q (Q.move rfl) ?_)
 refine XO.len rfl fun l7 => ?_
 refine XO.q (Q.move rfl) (XO.done (XK.block ?_))
 refine XK.while (X := Nat) [4, 5, 8, 9, 10, 11, 12, 13, 14, 15, 16, 17, 18] (fun i => [(8, some (.int .i64 (i : Nat)))]) (fun i => []) (fun i => i ≤ xs.length ∧ (xs.take i).any p = false) (fun i => xs.length - i) (0) [] rfl ⟨by omega, rfl⟩ (.c rfl (.base 0 rfl rfl)) ?_
 rintro i ⟨hi, ht⟩ ih0
 dsimp only [lcA, lnA] at ih0 ⊢
 refine XK.seq (XK.region rfl ?_)
 refine XO.q (Q.lss rfl rfl) ?_
 refine XO.done (XK.seq ?_)
 refine XK.if rfl (fun c0 => ?_) (fun c0 => ?_)
 ·skip
  refine XK.skip (XK.seq (XK.block (XK.seq (XK.region rfl (XO.q (Q.move rfl) ?_)))))
  refine XO.q (Q.assign rfl) (XO.done (XK.seq (XK.region rfl (XO.q (Q.move rfl) (XO.q (Q.move rfl) ?_)))))
  refine XO.q (Q.move rfl) ?_
  refine XO.ix rfl rfl (by omega) (by omega) fun i14 => ?_
  refine XO.q (Q.ldEA [_, _, _, _, _] rfl (by first | assumption | omega) rfl rfl) ?_
  refine XO.call hc rfl rfl rfl (hS _ (getD_mem (by omega))) fun v16 s16 R16 => ?_
  obtain ⟨rfl, rfl⟩ := R16
  dsimp only [lcA, lnA]
  refine XO.done ?_
  refine XK.if rfl (fun c1 => ?_) (fun c1 => ?_)
  ·skip
   refine XK.seq (XK.region rfl (XO.q (Q.move rfl) (XO.q (Q.assign rfl) (XO.done ?_))))
   refine XK.rt [] Tryz.func183 Tryz.results183 (.t rfl .n) ?_
   exact ⟨by rw [findFirst_here ht (by omega) c1], rfl⟩
  ·skip
   refine XK.skip ?_
   refine XK.inBlock ?_
   refine XK.region rfl ?_
   refine XO.q (Q.add rfl rfl ⟨by omega, by omega⟩) ?_
   refine XO.q (Q.move rfl) (XO.done ?_)
   exact ih0 (i + 1) _ _ ⟨by omega, any_step ht (by omega) (Bool.eq_false_iff.2 c1)⟩ (by first | omega | (dsimp only; omega)) (.c rfl (.base 25 rfl rfl)) inferInstance
 ·skip
  refine XK.exit rfl ?_
  refine XK.seq (XK.region rfl (XO.q (Q.assign rfl) (XO.done ?_)))
  refine XK.rt [] Tryz.func183 Tryz.results183 (.t rfl .n) ?_
  exact ⟨by rw [findFirst_none ht c0], rfl⟩
theorem containsFuncG (v : Value) (h : PHeap) (xs : List BGen) [s : Arr v encGen 5 h xs] (gid : FuncId) (cap : List Value) (Hr : List PHeap) (p : BGen → Bool)
  (hc : ∀ args w, (callFunc gid args).run Tryz.prog w = .ok (.enter gid args) w) (hS : ∀ x ∈ xs, Spec Tryz.prog gid (genV x :: cap).toArray [] Hr (fun v hs => v = .bool (p x) ∧ hs = [])) :
  Spec Tryz.prog 138 #[v, .func (.func gid) #[] cap.toArray] [] (h :: Hr) (fun v hs => v = .bool (xs.any p) ∧ hs = []) := by
 refine Spec.intro (fn := Tryz.f138) (N := 9) Tryz.func138 rfl Tryz.ntmps138 rfl fun B => ?_
 refine XK.seq (XK.region rfl (XO.q (Q.assign rfl) (XO.done (XK.seq (XK.region rfl ?_)))))
 refine XO.q (Q.move rfl) (XO.q (Q.move rfl) ?_)
 refine XO.call Tryz.call183 rfl rfl rfl (indexFuncG v h xs gid cap Hr p hc hS) fun v7 s7 R7 => ?_
 obtain ⟨rfl, rfl⟩ := R7
 dsimp only [lcA, lnA]
 refine XO.q (Q.geq rfl rfl) ?_
 refine XO.q (Q.assign rfl) (XO.done ?_)
 refine XK.rt [] Tryz.func138 Tryz.results138 (.t rfl .n) ?_
 exact ⟨by rw [← findFirst_any], rfl⟩
theorem within1 (b : Nat) (m x : Int) : Spec Tryz.prog 141 #[.int .i64 x, ptr b 0] [] [blk b [.int .i64 m] 3] (fun v hs => v = .bool (outP m x) ∧ hs = []) := by
 refine Spec.intro (fn := Tryz.f141) (N := 11) Tryz.func141 rfl Tryz.ntmps141 rfl fun B => ?_
 refine XK.seq (XK.region rfl (XO.q (Q.assign rfl) (XO.done (XK.seq (XK.region rfl ?_)))))
 refine XO.q (Q.move rfl) ?_
 refine XO.q (Q.lss rfl rfl) ?_
 refine XO.q (Q.move rfl) ?_
 refine XO.q (Quiet.guardF rfl rfl fun g7 p7 => Q.move rfl) ?_
 refine XO.q (Quiet.guardF rfl rfl fun g8 p8 => Q.ld rfl rfl) ?_
 refine XO.q (Quiet.guardF rfl rfl fun g9 p9 => Q.gtr (lzv g9 rfl) (lzv g9 rfl)) ?_
 refine XO.q (Q.or rfl (fun hp => lzv hp rfl)) ?_
 refine XO.q (Q.assign rfl) (XO.done ?_)
 refine XK.rt [] Tryz.func141 Tryz.results141 (.t rfl .n) ?_
 exact ⟨rfl, rfl⟩
theorem within_spec (m : Int) (v : Value) (h : PHeap) (xs : List Int) [s : Arr v encI 1 h xs] : Spec Tryz.prog 78 #[.int .i64 m, v] [] [h] (fun v hs => v = .bool (inA m xs) ∧ hs = []) := by
 refine Spec.intro (fn := Tryz.f78) (N := 9) Tryz.func78 rfl Tryz.ntmps78 rfl fun B => ?_
 refine XK.seq (XK.region rfl ?_)
 refine XO.box rfl fun b2 => ?_
 refine XO.q (Q.assign rfl) (XO.done (XK.seq (XK.region rfl (XO.q (Q.move rfl) ?_))))
 refine XO.q (Q.func (fun _ he => rfl) (fun _ he => evs_rel he rfl)) ?_
 refine XO.call Tryz.call97 rfl rfl rfl (containsFuncI v h xs 141 [ptr b2 0] [blk b2 [.int .i64 m] 3] (outP m) Tryz.call141 (fun x hx => within1 b2 m x)) fun v7 s7 R7 => ?_
 obtain ⟨rfl, rfl⟩ := R7
 dsimp only [lcA, lnA]
 refine XO.q (Q.not rfl) ?_
 refine XO.q (Q.assign rfl) (XO.done ?_)
 refine XK.rt [] Tryz.func78 Tryz.results78 (.t rfl .n) ?_
 exact ⟨rfl, rfl⟩
theorem batRight (x : BBat) : Spec Tryz.prog 137 #[batV x] [] [] (fun v hs => v = .bool (batOk x) ∧ hs = []) := by
 refine Spec.intro (fn := Tryz.f137) (N := 24) Tryz.func137 rfl Tryz.ntmps137 rfl fun B => ?_
 refine XK.seq (XK.region rfl ?_)
 refine XO.box rfl fun b1 => ?_
 refine XO.q (Q.assign rfl) (XO.done (XK.seq (XK.region rfl ?_)))
 refine XO.q (Q.fieldAddr rfl) ?_
 refine XO.q (Q.ld rfl rfl) ?_
 refine XO.q (Q.fieldAddr rfl) ?_
 refine XO.q (Q.ld rfl rfl) ?_
 refine XO.lit [_, _] [_, _] [x.energy, x.full] encI (by rfl) (by rfl) rfl (by rfl) (by exact .c 0 1 rfl rfl rfl (.c 1 1 rfl rfl rfl (.n _))) (fun _ => rfl) (by rfl) rfl (by infer_instance) rfl fun v7 h7 O7 => ?_
 refine XO.call Tryz.call78 rfl rfl rfl (within_spec 100000000000 v7 h7 [x.energy, x.full]) fun v8 s8 R8 => ?_
 obtain ⟨rfl, rfl⟩ := R8
 dsimp only [lcA, lnA]
 refine XO.q (Q.move rfl) ?_
 refine XO.q (Quiet.guardT rfl rfl fun g10 p10 => Q.fieldAddr rfl) ?_
 refine XO.q (Quiet.guardT rfl rfl fun g11 p11 => Q.ld (lzv g11 rfl) rfl) ?_
 refine XO.q (Quiet.guardT rfl rfl fun g12 p12 => Q.fieldAddr rfl) ?_
 refine XO.q (Quiet.guardT rfl rfl fun g13 p13 => Q.ld (lzv g13 rfl) rfl) ?_
 refine XO.q (Quiet.guardT rfl rfl fun g14 p14 => Q.leq (lzv g14 rfl) (lzv g14 rfl)) ?_
 refine XO.q (Q.and rfl (fun hp => lzv hp rfl)) ?_
 refine XO.q (Q.move rfl) ?_
 refine XO.q (Quiet.guardT rfl rfl fun g17 p17 => Q.fieldAddr rfl) ?_
 refine XO.q (Quiet.guardT rfl rfl fun g18 p18 => Q.ld (lzv g18 rfl) rfl) ?_
 refine XO.q (Quiet.guardT rfl rfl fun g19 p19 => Q.fieldAddr rfl) ?_
 refine XO.q (Quiet.guardT rfl rfl fun g20 p20 => Q.ld (lzv g20 rfl) rfl) ?_
 refine XO.lit1 [_, _] [_, _] [x.power, x.charge] encI rfl rfl (by rfl) (by rfl) rfl (by rfl) (fun g21 => by exact .c 0 1 (lzv g21 rfl) rfl rfl (.c 1 1 (lzv g21 rfl) rfl rfl (.n _))) (fun _ => rfl) (by rfl) rfl (fun _ => by infer_instance) rfl (fun v21 h21 O21 => ?_)
 refine XO.gcallT rfl rfl Tryz.call78 rfl (fun g22 => .c rfl (.c (lzv g22 rfl) .n)) rfl (fun g22 p22 => by haveI := O21 g22; exact within_spec 1000000 v21 h21 [x.power, x.charge]) ?_
 refine XO.q (Q.and rfl (fun hp => lzv hp rfl)) ?_
 refine XO.q (Q.assign rfl) (XO.done ?_)
 refine XK.rt [] Tryz.func137 Tryz.results137 (.t rfl .n) ?_
 exact ⟨rfl, rfl⟩
theorem genRight (x : BGen) : Spec Tryz.prog 140 #[genV x] [] [] (fun v hs => v = .bool (genOk x) ∧ hs = []) := by
 refine Spec.intro (fn := Tryz.f140) (N := 27) Tryz.func140 rfl Tryz.ntmps140 rfl fun B => ?_
 refine XK.seq (XK.region rfl ?_)
 refine XO.box rfl fun b1 => ?_
 refine XO.q (Q.assign rfl) (XO.done (XK.seq (XK.region rfl ?_)))
 refine XO.q (Q.fieldAddr rfl) ?_
 refine XO.q (Q.ld rfl rfl) ?_
 refine XO.q (Q.fieldAddr rfl) ?_
 refine XO.q (Q.ld rfl rfl) ?_
 refine XO.lit [_, _] [_, _] [x.power, x.ramp] encI (by rfl) (by rfl) rfl (by rfl) (by exact .c 0 1 rfl rfl rfl (.c 1 1 rfl rfl rfl (.n _))) (fun _ => rfl) (by rfl) rfl (by infer_instance) rfl fun v7 h7 O7 => ?_
 refine XO.call Tryz.call78 rfl rfl rfl (within_spec 1000000 v7 h7 [x.power, x.ramp]) fun v8 s8 R8 => ?_
 obtain ⟨rfl, rfl⟩ := R8
 dsimp only [lcA, lnA]
 refine XO.q (Q.move rfl) ?_
 refine XO.q (Quiet.guardT rfl rfl fun g10 p10 => Q.fieldAddr rfl) ?_
 refine XO.q (Quiet.guardT rfl rfl fun g11 p11 => Q.ld (lzv g11 rfl) rfl) ?_
 refine XO.q (Quiet.guardT rfl rfl fun g12 p12 => Q.fieldAddr rfl) ?_
 refine XO.q (Quiet.guardT rfl rfl fun g13 p13 => Q.ld (lzv g13 rfl) rfl) ?_
 refine XO.lit1 [_, _] [_, _] [x.delay, x.pause] encI rfl rfl (by rfl) (by rfl) rfl (by rfl) (fun g14 => by exact .c 0 1 (lzv g14 rfl) rfl rfl (.c 1 1 (lzv g14 rfl) rfl rfl (.n _))) (fun _ => rfl) (by rfl) rfl (fun _ => by infer_instance) rfl (fun v14 h14 O14 => ?_)
 refine XO.gcallT rfl rfl Tryz.call78 rfl (fun g15 => .c rfl (.c (lzv g15 rfl) .n)) rfl (fun g15 p15 => by haveI := O14 g15; exact within_spec 3600 v14 h14 [x.delay, x.pause]) ?_
 refine XO.q (Q.and rfl (fun hp => lzv hp rfl)) ?_
 refine XO.q (Q.move rfl) ?_
 refine XO.q (Quiet.guardT rfl rfl fun g18 p18 => Q.fieldAddr rfl) ?_
 refine XO.q (Quiet.guardT rfl rfl fun g19 p19 => Q.ld (lzv g19 rfl) rfl) ?_
 refine XO.q (Quiet.guardT rfl rfl fun g20 p20 => Q.geq (lzv g20 rfl) rfl) ?_
 refine XO.q (Q.and rfl (fun hp => lzv hp rfl)) ?_
 refine XO.q (Q.move rfl) ?_
 refine XO.q (Quiet.guardT rfl rfl fun g23 p23 => Q.fieldAddr rfl) ?_
 refine XO.q (Quiet.guardT rfl rfl fun g24 p24 => Q.ld (lzv g24 rfl) rfl) ?_
 refine XO.q (Quiet.guardT rfl rfl fun g25 p25 => Q.leq (lzv g25 rfl) rfl) ?_
 refine XO.q (Q.and rfl (fun hp => lzv hp rfl)) ?_
 refine XO.q (Q.assign rfl) (XO.done ?_)
 refine XK.rt [] Tryz.func140 Tryz.results140 (.t rfl .n) ?_
 exact ⟨rfl, rfl⟩
theorem check1 (x : BBat) : Spec Tryz.prog 136 #[batV x] [] [] (fun v hs => v = .bool (!batOk x) ∧ hs = []) := by
 refine Spec.intro (fn := Tryz.f136) (N := 6) Tryz.func136 rfl Tryz.ntmps136 rfl fun B => ?_
 refine XK.seq (XK.region rfl ?_)
 refine XO.box rfl fun b1 => ?_
 refine XO.q (Q.assign rfl) (XO.done (XK.seq (XK.region rfl ?_)))
 refine XO.q (Q.ldA [_, _, _, _] rfl rfl rfl) ?_
 refine XO.call Tryz.call137 rfl rfl rfl (batRight x) fun v4 s4 R4 => ?_
 obtain ⟨rfl, rfl⟩ := R4
 dsimp only [lcA, lnA]
 refine XO.q (Q.not rfl) ?_
 refine XO.q (Q.assign rfl) (XO.done ?_)
 refine XK.rt [] Tryz.func136 Tryz.results136 (.t rfl .n) ?_
 exact ⟨rfl, rfl⟩
theorem check2 (x : BGen) : Spec Tryz.prog 139 #[genV x] [] [] (fun v hs => v = .bool (!genOk x) ∧ hs = []) := by
 refine Spec.intro (fn := Tryz.f139) (N := 6) Tryz.func139 rfl Tryz.ntmps139 rfl fun B => ?_
 refine XK.seq (XK.region rfl ?_)
 refine XO.box rfl fun b1 => ?_
 refine XO.q (Q.assign rfl) (XO.done (XK.seq (XK.region rfl ?_)))
 refine XO.q (Q.ldA [_, _, _, _, _] rfl rfl rfl) ?_
 refine XO.call Tryz.call140 rfl rfl rfl (genRight x) fun v4 s4 R4 => ?_
 obtain ⟨rfl, rfl⟩ := R4
 dsimp only [lcA, lnA]
 refine XO.q (Q.not rfl) ?_
 refine XO.q (Q.assign rfl) (XO.done ?_)
 refine XK.rt [] Tryz.func139 Tryz.results139 (.t rfl .n) ?_
 exact ⟨rfl, rfl⟩
theorem Check_spec (b : BBank) (vb vg : Value) (hb hg : PHeap) [ib : Arr vb encBat 4 hb b.bats] [ig : Arr vg encGen 5 hg b.gens] : Spec Tryz.prog 77 #[.agg #[vb, vg]] [] [hb, hg] (fun v hs => v = .int .i64 (bcheck b) ∧ hs = []) := by
 have lb := ib.le
 have lg := ig.le
 refine Spec.intro (fn := Tryz.f77) (N := 23) Tryz.func77 rfl Tryz.ntmps77 rfl fun B => ?_
 refine XK.seq (XK.region rfl ?_)
 refine XO.box rfl fun b1 => ?_
 refine XO.q (Q.assign rfl) (XO.done (XK.seq (XK.block (XK.seq (XK.region rfl ?_)))))
 refine XO.q (Q.fieldAddr rfl) ?_
 refine XO.q (Q.ld rfl rfl) ?_
 refine XO.len rfl fun l6 => ?_
 refine XO.q (Q.gtr rfl rfl) ?_
 refine XO.q (Q.move rfl) ?_
 refine XO.q (Quiet.guardF rfl rfl fun g9 p9 => Q.fieldAddr rfl) ?_
 refine XO.q (Quiet.guardF rfl rfl fun g10 p10 => Q.ld (lzv g10 rfl) rfl) ?_
 refine XO.q (Quiet.guardF rfl rfl fun g11 p11 => Q.len (lzv g11 rfl)) ?_
 refine XO.q (Quiet.guardF rfl rfl fun g12 p12 => Q.gtr (lzv g12 rfl) rfl) ?_
 refine XO.q (Q.or rfl (fun hp => lzv hp rfl)) ?_
 refine XO.q (Q.assign rfl) (XO.done ?_)
 refine XK.if rfl (fun c0 => ?_) (fun c0 => ?_)
 ·skip
  refine XK.seq (XK.region rfl (XO.q (Q.assign rfl) (XO.done ?_)))
  refine XK.rt [] Tryz.func77 Tryz.results77 (.t rfl .n) ?_
  exact ⟨by rw [bcheck, if_pos (by omega)], rfl⟩
 ·skip
  refine XK.seq (XK.region rfl ?_)
  refine XO.q (Q.fieldAddr rfl) ?_
  refine XO.q (Q.ld rfl rfl) ?_
  refine XO.call Tryz.call135 rfl rfl rfl (containsFuncB vb hb b.bats 136 [] [] (fun x => !batOk x) Tryz.call136 (fun x hx => check1 x)) fun v17 s17 R17 => ?_
  obtain ⟨rfl, rfl⟩ := R17
  dsimp only [lcA, lnA]
  refine XO.q (Q.move rfl) ?_
  refine XO.q (Quiet.guardF rfl rfl fun g19 p19 => Q.fieldAddr rfl) ?_
  refine XO.q (Quiet.guardF rfl rfl fun g20 p20 => Q.ld (lzv g20 rfl) rfl) ?_
  refine XO.gcallF rfl rfl Tryz.call138 rfl (fun g21 => .c (lzv g21 rfl) (.c rfl .n)) rfl (fun g21 p21 => containsFuncG vg hg b.gens 139 [] [] (fun x => !genOk x) Tryz.call139 (fun x hx => check2 x)) ?_
  refine XO.q (Q.or rfl (fun hp => lzv hp rfl)) ?_
  refine XO.q (Q.assign rfl) (XO.done ?_)
  refine XK.if rfl (fun c1 => ?_) (fun c1 => ?_)
  ·skip
   refine XK.seq (XK.region rfl (XO.q (Q.assign rfl) (XO.done ?_)))
   refine XK.rt [] Tryz.func77 Tryz.results77 (.t rfl .n) ?_
   exact ⟨by rw [bcheck, if_neg (by omega), if_pos (by simpa using c1)], rfl⟩
  ·skip
   refine XK.skip ?_
   refine XK.inBlock ?_
   refine XK.seq (XK.region rfl (XO.q (Q.assign rfl) (XO.done ?_)))
   refine XK.rt [] Tryz.func77 Tryz.results77 (.t rfl .n) ?_
   exact ⟨by rw [bcheck, if_neg (by omega), if_neg (by simpa using c1)], rfl⟩
end Go.X.Bk

set_option linter.unusedSimpArgs false
set_option linter.unusedVariables false
set_option maxRecDepth 20000
namespace Go.X.Bk
open Go.Proofs
theorem mul_le {a b m n : Int} (h1 : 0 ≤ a) (h2 : a ≤ m) (h3 : 0 ≤ b) (h4 : b ≤ n) : 0 ≤ a * b ∧ a * b ≤ m * n :=
 ⟨Int.mul_nonneg h1 h3, Int.mul_le_mul h2 h4 h3 (by omega)⟩
theorem start_spec (g : BGen) (gk : GenOk g) (f : Int) (hf : 0 ≤ f) (hf1 : f ≤ g.tries) : Spec Tryz.prog 175 #[genV g, .int .i64 f] [] [] (fun v hs => v = .int .i64 (startP g f) ∧ hs = []) := by
 have q1 := gk.t1
 have m1 := mul_le (a := f + 1) (b := g.delay) (m := 6) (n := 3600) (by omega) (by omega) gk.d0 gk.d1
 have m2 := mul_le (a := f) (b := g.pause) (m := 5) (n := 3600) (by omega) (by omega) gk.q0 gk.q1
 refine Spec.intro (fn := Tryz.f175) (N := 19) Tryz.func175 rfl Tryz.ntmps175 rfl fun B => ?_
 refine XK.seq (XK.region rfl ?_)
 refine XO.box rfl fun b2 => ?_
 refine XO.q (Q.assign rfl) (XO.done (XK.seq (XK.seq (XK.region rfl (XO.q (Q.move rfl) ?_)))))
 refine XO.q (Q.fieldAddr rfl) ?_
 refine XO.q (Q.ld rfl rfl) ?_
 refine XO.q (Q.eql rfl rfl) ?_
 refine XO.done ?_
 refine XK.if rfl (fun c0 => ?_) (fun c0 => ?_)
 ·skip
  refine XK.seq (XK.region rfl (XO.q (Q.assign rfl) (XO.done ?_)))
  refine XK.rt [] Tryz.func175 Tryz.results175 (.t rfl .n) ?_
  exact ⟨by rw [startP, if_pos c0], rfl⟩
 ·skip
  refine XK.skip (XK.seq (XK.region rfl (XO.q (Q.move rfl) ?_)))
  refine XO.q (Q.add rfl rfl ⟨by omega, by omega⟩) ?_
  refine XO.q (Q.fieldAddr rfl) ?_
  refine XO.q (Q.ld rfl rfl) ?_
  refine XO.q (Q.mul rfl rfl ⟨by omega, by omega⟩) ?_
  refine XO.q (Q.move rfl) ?_
  refine XO.q (Q.fieldAddr rfl) ?_
  refine XO.q (Q.ld rfl rfl) ?_
  refine XO.q (Q.mul rfl rfl ⟨by omega, by omega⟩) ?_
  refine XO.q (Q.add rfl rfl ⟨by omega, by omega⟩) ?_
  refine XO.q (Q.assign rfl) (XO.done ?_)
  refine XK.rt [] Tryz.func175 Tryz.results175 (.t rfl .n) ?_
  exact ⟨by rw [startP, if_neg c0], rfl⟩
theorem loaded_spec (l : List BSpan) (vl : Value) (hl : PHeap) [il : Arr vl encSpan 2 hl l] : Spec Tryz.prog 129 #[vl] [] [hl] (fun v hs => v = .tuple #[.int .i64 (loadedP l).1, .int .i64 (loadedP l).2] ∧ hs = []) := by
 have ll := il.le
 refine Spec.intro (fn := Tryz.f129) (N := 39) Tryz.func129 rfl Tryz.ntmps129 rfl fun B => ?_
 refine XK.seq (XK.region rfl (XO.q (Q.assign rfl) (XO.q (Q.assign rfl) (XO.done (XK.seq ?_)))))
 refine XK.seq (XK.region rfl (XO.q (Q.move rfl) ?_))
 refine XO.len rfl fun l8 => ?_
 refine XO.q (Q.gtr rfl rfl) ?_
 refine XO.done ?_
 refine XK.if rfl (fun c0 => ?_) (fun c0 => ?_)
 ·skip
  refine XK.seq (XK.region rfl (XO.q (Q.assign rfl) (XO.q (Q.assign rfl) (XO.done ?_))))
  refine XK.rt [] Tryz.func129 Tryz.results129 (.t rfl (.t rfl .n)) ?_
  exact ⟨by rw [loadedP, if_pos (by omega)], rfl⟩
 ·skip
  refine XK.skip (XK.seq (XK.region rfl (XO.q (Q.assign rfl) (XO.done (XK.seq ?_)))))
  refine XK.seq (XK.region rfl (XO.q (Q.move rfl) ?_))
  refine XO.len rfl fun l11 => ?_
  refine XO.q (Q.move rfl) (XO.done (XK.block ?_))
  refine XK.while (X := Nat) [2, 3, 4, 6, 12, 13, 14, 15, 16, 17, 18, 19, 20, 21, 22, 23, 24, 25, 26, 27, 28, 29, 30, 31, 32, 33, 34, 35] (fun i => [(4, some (.int .i64 (secs l i))), (12, some (.int .i64 (i : Nat)))]) (fun i => []) (fun i => i ≤ l.length ∧ i ≤ 64 ∧ (l.take i).any badSpan = false ∧ 0 ≤ secs l i ∧ secs l i ≤ 3600 * i) (fun i => l.length - i) (0) [] rfl ⟨by omega, by omega, rfl, by simp [secs], by simp [secs]⟩ (.c rfl (.c rfl (.base 0 rfl rfl))) ?_
  rintro i ⟨hi, hi2, ha, hs0, hs1⟩ ih0
  dsimp only [lcA, lnA] at ih0 ⊢
  refine XK.seq (XK.region rfl ?_)
  refine XO.q (Q.lss rfl rfl) ?_
  refine XO.done (XK.seq ?_)
  refine XK.if rfl (fun c1 => ?_) (fun c1 => ?_)
  ·skip
   refine XK.skip (XK.seq (XK.block (XK.seq (XK.region rfl ?_))))
   refine XO.ix rfl rfl (by omega) (by omega) fun i14 => ?_
   refine XO.q (Q.ldEA [_, _] rfl (by first | assumption | omega) rfl rfl) ?_
   refine XO.alloc fun b6 => ?_
   refine XO.st rfl rfl rfl ?_
   refine XO.done (XK.seq (XK.seq (XK.region rfl ?_)))
   refine XO.q (Q.fieldAddr rfl) ?_
   refine XO.q (Q.ld rfl rfl) ?_
   refine XO.q (Q.lss rfl rfl) ?_
   refine XO.q (Q.move rfl) ?_
   refine XO.q (Quiet.guardF rfl rfl fun g20 p20 => Q.fieldAddr rfl) ?_
   refine XO.q (Quiet.guardF rfl rfl fun g21 p21 => Q.ld (lzv g21 rfl) rfl) ?_
   refine XO.q (Quiet.guardF rfl rfl fun g22 p22 => Q.gtr (lzv g22 rfl) rfl) ?_
   refine XO.q (Q.or rfl (fun hp => lzv hp rfl)) ?_
   refine XO.q (Q.move rfl) ?_
   refine XO.q (Quiet.guardF rfl rfl fun g25 p25 => Q.fieldAddr rfl) ?_
   refine XO.q (Quiet.guardF rfl rfl fun g26 p26 => Q.ld (lzv g26 rfl) rfl) ?_
   refine XO.lit1 [_] [_] [(l.getD i default).power] encI rfl rfl (by rfl) (by rfl) rfl (by rfl) (fun g27 => by exact .c 0 1 (lzv g27 rfl) rfl rfl (.n _)) (fun _ => rfl) (by rfl) rfl (fun _ => by infer_instance) rfl (fun v27 h27 O27 => ?_)
   refine XO.gcallF rfl rfl Tryz.call78 rfl (fun g28 => .c rfl (.c (lzv g28 rfl) .n)) rfl (fun g28 p28 => by haveI := O27 g28; exact within_spec 1000000 v27 h27 [(l.getD i default).power]) ?_
   refine XO.q (Quiet.guardF rfl rfl fun g29 p29 => Q.not (lzv g29 rfl)) ?_
   refine XO.q (Q.or rfl (fun hp => lzv hp rfl)) ?_
   refine XO.done ?_
   refine XK.if rfl (fun c2 => ?_) (fun c2 => ?_)
   ·skip
    refine XK.seq (XK.region rfl (XO.q (Q.assign rfl) (XO.q (Q.assign rfl) (XO.done ?_))))
    refine XK.rt [] Tryz.func129 Tryz.results129 (.t rfl (.t rfl .n)) ?_
    have hb : badSpan (l.getD i default) = true := by simpa [badSpan, or_assoc] using c2
    exact ⟨by rw [loadedP, if_neg (by omega), if_pos (List.any_eq_true.2 ⟨_, getD_mem (by omega), hb⟩)], rfl⟩
   ·skip
    have bs : badSpan (l.getD i default) = false := by
     rw [Bool.eq_false_iff]
     exact fun hh => c2 (by simpa [badSpan, or_assoc] using hh)
    have bt := badSpan_false.1 bs
    refine XK.skip (XK.region rfl (XO.q (Q.move rfl) ?_))
    refine XO.q (Q.fieldAddr rfl) ?_
    refine XO.q (Q.ld rfl rfl) ?_
    refine XO.q (Q.add rfl rfl ⟨by omega, by omega⟩) ?_
    refine XO.q (Q.assign rfl) (XO.done ?_)
    refine XK.inBlock ?_
    refine XK.region rfl ?_
    refine XO.q (Q.add rfl rfl ⟨by omega, by omega⟩) ?_
    refine XO.q (Q.move rfl) (XO.done ?_)
    exact ih0 (i + 1) _ _ ⟨by omega, by omega, any_step ha (by omega) bs, by rw [secs]; omega, by rw [secs]; omega⟩ (by first | omega | (dsimp only; omega)) (.c rfl (.c rfl (.base 56 rfl rfl))) inferInstance
  ·skip
   refine XK.exit rfl ?_
   refine XK.seq (XK.seq (XK.region rfl (XO.q (Q.move rfl) ?_)))
   refine XO.q (Q.gtr rfl rfl) ?_
   refine XO.done ?_
   refine XK.if rfl (fun c3 => ?_) (fun c3 => ?_)
   ·skip
    refine XK.seq (XK.region rfl (XO.q (Q.assign rfl) (XO.q (Q.assign rfl) (XO.done ?_))))
    refine XK.rt [] Tryz.func129 Tryz.results129 (.t rfl (.t rfl .n)) ?_
    have hil : i = l.length := by omega
    subst hil
    rw [List.take_length] at ha
    exact ⟨by rw [loadedP, if_neg (by omega), if_neg (by rw [ha]; decide), if_pos (by omega)], rfl⟩
   ·skip
    refine XK.skip (XK.seq (XK.region rfl (XO.q (Q.move rfl) (XO.q (Q.assign rfl) (XO.q (Q.assign rfl) ?_)))))
    refine XO.done ?_
    refine XK.rt [] Tryz.func129 Tryz.results129 (.t rfl (.t rfl .n)) ?_
    have hil : i = l.length := by omega
    subst hil
    rw [List.take_length] at ha
    exact ⟨by rw [loadedP, if_neg (by omega), if_neg (by rw [ha]; decide), if_neg (by omega)], rfl⟩
theorem fit_spec (b : BBank) (vb vg : Value) (hb hg : PHeap) [ib : Arr vb encBat 4 hb b.bats] [ig : Arr vg encGen 5 hg b.gens] (fs : List Int) (vf : Value) (hf : PHeap) [jf : Arr vf encI 1 hf fs] : Spec Tryz.prog 130 #[.agg #[vb, vg], vf] [] [hb, hg, hf] (fun v hs => v = .bool (fitP b fs) ∧ hs = []) := by
 have lg := ig.le
 have lf := jf.le
 refine Spec.intro (fn := Tryz.f130) (N := 36) Tryz.func130 rfl Tryz.ntmps130 rfl fun B => ?_
 refine XK.seq (XK.region rfl ?_)
 refine XO.box rfl fun b2 => ?_
 refine XO.q (Q.assign rfl) (XO.done (XK.seq (XK.seq (XK.region rfl (XO.q (Q.move rfl) ?_)))))
 refine XO.len rfl fun l8 => ?_
 refine XO.q (Q.fieldAddr rfl) ?_
 refine XO.q (Q.ld rfl rfl) ?_
 refine XO.len rfl fun l11 => ?_
 refine XO.q (Q.neq rfl rfl) ?_
 refine XO.done ?_
 refine XK.if rfl (fun c0 => ?_) (fun c0 => ?_)
 ·skip
  refine XK.seq (XK.region rfl (XO.q (Q.assign rfl) (XO.done ?_)))
  refine XK.rt [] Tryz.func130 Tryz.results130 (.t rfl .n) ?_
  exact ⟨by rw [fitP, decide_eq_false (by omega)]; rfl, rfl⟩
 ·skip
  refine XK.skip (XK.seq (XK.seq (XK.region rfl ?_)))
  refine XO.q (Q.fieldAddr rfl) ?_
  refine XO.q (Q.ld rfl rfl) ?_
  refine XO.len rfl fun l15 => ?_
  refine XO.q (Q.move rfl) (XO.done (XK.block ?_))
  refine XK.while (X := Nat) [4, 5, 6, 16, 17, 18, 19, 20, 21, 22, 23, 24, 25, 26, 27, 28, 29, 30, 31, 32, 33, 34, 35] (fun i => [(16, some (.int .i64 (i : Nat)))]) (fun i => []) (fun i => i ≤ b.gens.length ∧ allTo (fun i => !badFail b fs i) i = true) (fun i => b.gens.length - i) (0) [] rfl ⟨by omega, rfl⟩ (.c rfl (.base 0 rfl rfl)) ?_
  rintro i ⟨hi, ha⟩ ih0
  dsimp only [lcA, lnA] at ih0 ⊢
  refine XK.seq (XK.region rfl ?_)
  refine XO.q (Q.lss rfl rfl) ?_
  refine XO.done (XK.seq ?_)
  refine XK.if rfl (fun c1 => ?_) (fun c1 => ?_)
  ·skip
   refine XK.skip (XK.seq (XK.block (XK.seq (XK.region rfl (XO.q (Q.move rfl) ?_)))))
   refine XO.ix rfl rfl (by omega) (by omega) fun i19 => ?_
   refine XO.q (Q.ldEA [_, _, _, _, _] rfl (by first | assumption | omega) rfl rfl) ?_
   refine XO.alloc fun b6 => ?_
   refine XO.q (Q.assign rfl) ?_
   refine XO.st rfl rfl rfl ?_
   refine XO.done (XK.seq ?_)
   refine XK.drawn [0, 1, 2, 3, 4, 5, 6, 7, 8, 9, 10, 11, 12, 13] [b6] [] (.q 0 (.q 1 (.q 2 (.q 3 (.q 4 (.q 5 (.q 6 (.q 7 (.q 8 (.q 9 (.q 10 (.q 11 (.q 12 (.q 13 .done)))))))))))))) Tryz.mixed rfl (by kernel_rfl) ?_
   refine XT.q rfl rfl (Q.move rfl) ?_
   refine XT.q rfl rfl (Q.move rfl) ?_
   refine XT.ix rfl rfl rfl rfl (by omega) (by omega) fun i23 => ?_
   refine XT.q rfl rfl (Q.ldE rfl (by first | assumption | omega) rfl) ?_
   refine XT.q rfl rfl (Q.lss rfl rfl) ?_
   refine XT.q rfl rfl (Q.move rfl) ?_
   refine XT.q rfl rfl (Quiet.guardF rfl rfl fun g27 p27 => Q.move rfl) ?_
   refine XT.q rfl rfl (Quiet.guardF rfl rfl fun g28 p28 => Q.move rfl) ?_
   refine XT.q rfl rfl (Quiet.guardF rfl rfl fun g29 p29 => Q.ix (lzv g29 rfl) (lzv g29 rfl) (by omega) (by omega)) ?_
   refine XT.q rfl rfl (Quiet.guardF rfl rfl fun g30 p30 => Q.ldE (lzv g30 rfl) (by first | assumption | omega) rfl) ?_
   refine XT.q rfl rfl (Quiet.guardF rfl rfl fun g31 p31 => Q.fieldAddr rfl) ?_
   refine XT.q rfl rfl (Quiet.guardF rfl rfl fun g32 p32 => Q.ld (lzv g32 rfl) rfl) ?_
   refine XT.q rfl rfl (Quiet.guardF rfl rfl fun g33 p33 => Q.gtr (lzv g33 rfl) (lzv g33 rfl)) ?_
   refine XT.q rfl rfl (Q.or rfl (fun hp => lzv hp rfl)) ?_
   refine XT.done ?_
   refine XK.if rfl (fun c2 => ?_) (fun c2 => ?_)
   ·skip
    refine XK.seq (XK.region rfl (XO.q (Q.assign rfl) (XO.done ?_)))
    refine XK.rt [] Tryz.func130 Tryz.results130 (.t rfl .n) ?_
    have hb : badFail b fs i = true := by simpa [badFail] using c2
    exact ⟨by rw [fitP, allTo_false (s := i) (by omega) (by rw [hb]; rfl), Bool.and_false], rfl⟩
   ·skip
    refine XK.skip ?_
    refine XK.inBlock ?_
    refine XK.region rfl ?_
    refine XO.q (Q.add rfl rfl ⟨by omega, by omega⟩) ?_
    refine XO.q (Q.move rfl) (XO.done ?_)
    exact ih0 (i + 1) _ _ ⟨by omega, by rw [allTo_succ, ha, Bool.true_and, Bool.not_eq_true', Bool.eq_false_iff]; exact fun hh => c2 (by simpa [badFail] using hh)⟩ (by first | omega | (dsimp only; omega)) (.c rfl (.base 46 rfl rfl)) inferInstance
  ·skip
   refine XK.exit rfl ?_
   refine XK.seq (XK.region rfl (XO.q (Q.assign rfl) (XO.done ?_)))
   refine XK.rt [] Tryz.func130 Tryz.results130 (.t rfl .n) ?_
   have hil : i = b.gens.length := by omega
   subst hil
   exact ⟨by rw [fitP, ha, decide_eq_true (by omega)]; rfl, rfl⟩
theorem ready_spec (b : BBank) (vb vg : Value) (hb hg : PHeap) [ib : Arr vb encBat 4 hb b.bats] [ig : Arr vg encGen 5 hg b.gens] (l : List BSpan) (vl : Value) (hl : PHeap) [il : Arr vl encSpan 2 hl l] (fs : List Int) (vf : Value) (hf : PHeap) [jf : Arr vf encI 1 hf fs] : Spec Tryz.prog 75 #[.agg #[vb, vg], vl, vf] [] [hb, hg, hl, hf] (fun v hs => v = .int .i64 (readyP b l fs) ∧ hs = []) := by
 refine Spec.intro (fn := Tryz.f75) (N := 27) Tryz.func75 rfl Tryz.ntmps75 rfl fun B => ?_
 refine XK.seq (XK.region rfl ?_)
 refine XO.box rfl fun b3 => ?_
 refine XO.q (Q.assign rfl) (XO.done (XK.seq (XK.seq (XK.region rfl ?_))))
 refine XO.q (Q.ldA [_, _] rfl rfl rfl) ?_
 refine XO.call Tryz.call77 rfl rfl rfl (Check_spec b vb vg hb hg) fun v11 s11 R11 => ?_
 obtain ⟨rfl, rfl⟩ := R11
 dsimp only [lcA, lnA]
 refine XO.q (Q.assign rfl) (XO.done (XK.seq (XK.region rfl (XO.q (Q.move rfl) ?_))))
 refine XO.q (Q.neq rfl rfl) ?_
 refine XO.done ?_
 refine XK.if rfl (fun c0 => ?_) (fun c0 => ?_)
 ·skip
  refine XK.seq (XK.region rfl (XO.q (Q.move rfl) (XO.q (Q.assign rfl) (XO.done ?_))))
  refine XK.rt [] Tryz.func75 Tryz.results75 (.t rfl .n) ?_
  exact ⟨by rw [readyP, if_pos c0], rfl⟩
 ·skip
  refine XK.skip (XK.seq (XK.seq (XK.region rfl (XO.q (Q.move rfl) ?_))))
  refine XO.call Tryz.call129 rfl rfl rfl (loaded_spec l vl hl) fun v17 s17 R17 => ?_
  obtain ⟨rfl, rfl⟩ := R17
  dsimp only [lcA, lnA]
  refine XO.q (Q.move rfl) ?_
  refine XO.q (Q.extract rfl rfl) ?_
  refine XO.q (Q.extract rfl rfl) ?_
  refine XO.q (Q.assign rfl) (XO.q (Q.assign rfl) (XO.done (XK.seq (XK.region rfl (XO.q (Q.move rfl) ?_)))))
  refine XO.q (Q.neq rfl rfl) ?_
  refine XO.done ?_
  refine XK.if rfl (fun c1 => ?_) (fun c1 => ?_)
  ·skip
   refine XK.seq (XK.region rfl (XO.q (Q.move rfl) (XO.q (Q.assign rfl) (XO.done ?_))))
   refine XK.rt [] Tryz.func75 Tryz.results75 (.t rfl .n) ?_
   exact ⟨by rw [readyP, if_neg c0, if_pos c1], rfl⟩
  ·skip
   refine XK.skip (XK.seq (XK.seq (XK.region rfl ?_)))
   refine XO.q (Q.ldA [_, _] rfl rfl rfl) ?_
   refine XO.q (Q.move rfl) ?_
   refine XO.call Tryz.call130 rfl rfl rfl (fit_spec b vb vg hb hg fs vf hf) fun v25 s25 R25 => ?_
   obtain ⟨rfl, rfl⟩ := R25
   dsimp only [lcA, lnA]
   refine XO.q (Q.not rfl) ?_
   refine XO.done ?_
   refine XK.if rfl (fun c2 => ?_) (fun c2 => ?_)
   ·skip
    refine XK.seq (XK.region rfl (XO.q (Q.assign rfl) (XO.done ?_)))
    refine XK.rt [] Tryz.func75 Tryz.results75 (.t rfl .n) ?_
    exact ⟨by rw [readyP, if_neg c0, if_neg c1, if_pos (by simpa using c2)], rfl⟩
   ·skip
    refine XK.skip (XK.seq (XK.region rfl (XO.q (Q.assign rfl) (XO.done ?_))))
    refine XK.rt [] Tryz.func75 Tryz.results75 (.t rfl .n) ?_
    exact ⟨by rw [readyP, if_neg c0, if_neg c1, if_neg (by simpa using c2)], rfl⟩
end Go.X.Bk

set_option linter.unusedSimpArgs false
set_option linter.unusedVariables false
set_option maxRecDepth 20000
namespace Go.X.Bk
open Go.Proofs
theorem can_spec (p : Nat) (vb vg vs vc vn : Value) [ob : One vb] [oc : One vc] [on : One vn] (sv : Int) (gens : List BGen) (sts : List Int) (pk : PlayOk gens sts) (hg hs : PHeap) [ig : Arr vg encGen 5 hg gens] [is : Arr vs encI 1 hs sts] (i : Nat) (hi : i < sts.length) (t : Int) (ht0 : 0 ≤ t) (ht : t ≤ 20000) :
  Spec Tryz.prog 179 #[ptr p 0, .int .i64 (i : Nat), .int .i64 t] [] [blk p [vb, vg, vs, vc, vn, .int .i64 (sv)] 282, hg, hs] (fun v hs => v = .int .i64 (canAt gens sts t i) ∧ hs = []) := by
 have lg := ig.le
 have ls := is.le
 have hn := pk.n
 have hs1 := pk.s i hi
 have gk := pk.g _ (getD_memB (show i < gens.length by omega))
 have gr0 := gk.r0
 have gr1 := gk.r1
 refine Spec.intro (fn := Tryz.f179) (N := 41) Tryz.func179 rfl Tryz.ntmps179 rfl fun B => ?_
 refine XK.seq (XK.region rfl (XO.q (Q.assign rfl) (XO.done (XK.seq ?_))))
 refine XK.drawn [0, 1, 2, 3, 4, 5, 6, 7, 8, 9, 10, 11, 12, 13, 14, 17] [p] [] (.q 0 (.q 1 (.q 2 (.q 3 (.q 4 (.q 5 (.q 6 (.q 7 (.q 8 (.q 9 (.q 10 (.q 11 (.q 12 (.q 13 (.q 14 (.br 15 true (.br 16 true (.q 17 .done) .stop) .stop)))))))))))))))) Tryz.mixed rfl (by kernel_rfl) ?_
 refine XT.q rfl rfl (Q.move rfl) ?_
 refine XT.q rfl rfl (Q.nilCheck rfl) ?_
 refine XT.q rfl rfl (Q.fieldAddr rfl) ?_
 refine XT.q rfl rfl (Q.fieldAddr rfl) ?_
 refine XT.q rfl rfl (Q.ld rfl rfl) ?_
 refine XT.q rfl rfl (Q.move rfl) ?_
 refine XT.ix rfl rfl rfl rfl (by omega) (by omega) fun i15 => ?_
 refine XT.q rfl rfl (Q.ldEA [_, _, _, _, _] rfl (by first | assumption | omega) rfl rfl) ?_
 refine XT.q rfl rfl (Q.move rfl) ?_
 refine XT.q rfl rfl (Q.nilCheck rfl) ?_
 refine XT.q rfl rfl (Q.fieldAddr rfl) ?_
 refine XT.q rfl rfl (Q.ld rfl rfl) ?_
 refine XT.q rfl rfl (Q.move rfl) ?_
 refine XT.ix rfl rfl rfl rfl (by omega) (by omega) fun i22 => ?_
 refine XT.q rfl rfl (Q.ldE rfl (by first | assumption | omega) rfl) ?_
 refine XT.alloc rfl rfl (fun b7 => ⟨inferInstance, ?_⟩) XT.stop
 refine XT.st rfl rfl rfl rfl rfl ⟨inferInstance, ?_⟩ XT.stop
 refine XT.q rfl rfl (Q.assign rfl) ?_
 refine XT.done ?_
 refine XK.seq (XK.seq (XK.region rfl (XO.q (Q.move rfl) ?_)))
 refine XO.q (Q.lss rfl rfl) ?_
 refine XO.q (Q.move rfl) ?_
 refine XO.q (Quiet.guardF rfl rfl fun g27 p27 => Q.move rfl) ?_
 refine XO.q (Quiet.guardF rfl rfl fun g28 p28 => Q.move rfl) ?_
 refine XO.q (Quiet.guardF rfl rfl fun g29 p29 => Q.lss (lzv g29 rfl) (lzv g29 rfl)) ?_
 refine XO.q (Q.or rfl (fun hp => lzv hp rfl)) ?_
 refine XO.done ?_
 refine XK.if rfl (fun c0 => ?_) (fun c0 => ?_)
 ·skip
  refine XK.seq (XK.region rfl (XO.q (Q.assign rfl) (XO.done ?_)))
  refine XK.rt [] Tryz.func179 Tryz.results179 (.t rfl .n) ?_
  exact ⟨by rw [canAt, canP, if_pos c0], rfl⟩
 ·skip
  refine XK.skip (XK.seq (XK.region rfl ?_))
  refine XO.q (Q.fieldAddr rfl) ?_
  refine XO.q (Q.ld rfl rfl) ?_
  refine XO.q (Q.fieldAddr rfl) ?_
  refine XO.q (Q.ld rfl rfl) ?_
  refine XO.q (Q.move rfl) (XO.q (Q.move rfl) ?_)
  refine XO.q (Q.sub rfl rfl ⟨by omega, by omega⟩) ?_
  have m := mulLe (a := (gens.getD i default).ramp) (b := t - sts.getD i default + 1) (m := 1000000) (n := 20002) gk.r0 gk.r1 (by omega) (by omega)
  refine XO.q (Q.add rfl rfl ⟨by omega, by omega⟩) ?_
  refine XO.q (Q.mul rfl rfl ⟨by omega, by omega⟩) ?_
  refine XO.q (Q.min rfl rfl) ?_
  refine XO.q (Q.assign rfl) (XO.done ?_)
  refine XK.rt [] Tryz.func179 Tryz.results179 (.t rfl .n) ?_
  exact ⟨by rw [canAt, canP, if_neg c0], rfl⟩
theorem generate_spec (p : Nat) (vb vg vs vc vn : Value) [ob : One vb] [oc : One vc] [on : One vn] (sv : Int) (gens : List BGen) (sts : List Int) (pk : PlayOk gens sts) (hg hs : PHeap) [ig : Arr vg encGen 5 hg gens] [is : Arr vs encI 1 hs sts] (t : Int) (ht0 : 0 ≤ t) (ht : t ≤ 20000) (need : Int) (hn0 : 0 ≤ need) (hn1 : need ≤ 6000000) (vu : Value) (hu : PHeap) (us : List Int) [iu : OArr vu encI 1 3 hu us] (uk : UsedOk (canAt gens sts t) sts.length us) :
  Spec Tryz.prog 177 #[ptr p 0, .int .i64 t, .int .i64 need, vu] [hu] [blk p [vb, vg, vs, vc, vn, .int .i64 (sv)] 282, hg, hs] (fun v hs' => ∃ h', v = .int .i64 (genTo (canAt gens sts t) us need sts.length).2 ∧ hs' = [h'] ∧ OArr vu encI 1 3 h' (genTo (canAt gens sts t) us need sts.length).1) := by
 have ls := is.le
 have hall := fun i hi => genTo_ok uk hn0 i hi
 have hcan := fun j hj => canAt_ok (i := j) pk ht hj
 refine Spec.intro (fn := Tryz.f177) (N := 42) Tryz.func177 rfl Tryz.ntmps177 rfl fun B => ?_
 refine XK.seq (XK.region rfl (XO.q (Q.assign rfl) (XO.done (XK.seq (XK.seq ?_)))))
 refine XK.region rfl (XO.q (Q.move rfl) ?_)
 refine XO.q (Q.nilCheck rfl) ?_
 refine XO.q (Q.fieldAddr rfl) ?_
 refine XO.q (Q.ld rfl rfl) ?_
 refine XO.len rfl fun l15 => ?_
 refine XO.q (Q.move rfl) (XO.done (XK.block ?_))
 refine XK.while (X := Nat × PHeap) [2, 9, 10, 16, 17, 18, 19, 20, 21, 22, 23, 24, 25, 26, 27, 28, 29, 30, 31, 32, 33, 34, 35, 36, 37, 38, 39, 40] (fun ⟨i, ku⟩ => [(2, some (.int .i64 ((genTo (canAt gens sts t) us need (i)).2))), (16, some (.int .i64 (i : Nat)))]) (fun ⟨i, ku⟩ => [ku]) (fun ⟨i, ku⟩ => i ≤ sts.length ∧ OArr vu encI 1 3 ku (genTo (canAt gens sts t) us need (i)).1) (fun ⟨i, ku⟩ => sts.length - i) (0, hu) [hu] rfl ⟨by omega, iu⟩ (.c rfl (.c rfl (.base 0 rfl rfl))) ?_
 rintro ⟨i, ku⟩ ⟨hi, OU⟩ ih0
 dsimp only [lcA, lnA] at ih0 ⊢
 obtain ⟨uk1, un0, un1⟩ := hall i hi
 have ul := uk1.len
 refine XK.seq (XK.region rfl ?_)
 refine XO.q (Q.lss rfl rfl) ?_
 refine XO.done (XK.seq ?_)
 refine XK.if rfl (fun c0 => ?_) (fun c0 => ?_)
 ·skip
  have ub := uk1.b i (by omega)
  have cb := hcan i (by omega)
  refine XK.skip (XK.seq (XK.block (XK.seq (XK.region rfl (XO.q (Q.move rfl) ?_)))))
  refine XO.q (Q.assign rfl) (XO.done (XK.seq ?_))
  refine XK.drawn [0, 1, 2, 3, 5, 6, 7, 8, 9, 10, 11] [] [ku] (.q 0 (.q 1 (.q 2 (.q 3 (.q 5 (.q 6 (.q 7 (.q 8 (.br 4 true (.q 9 (.q 10 (.q 11 .done))) .stop))))))))) Tryz.mixed rfl (by kernel_rfl) ?_
  refine XT.q rfl rfl (Q.move rfl) ?_
  refine XT.q rfl rfl (Q.move rfl) ?_
  refine XT.q rfl rfl (Q.move rfl) ?_
  refine XT.q rfl rfl (Q.move rfl) ?_
  refine XT.q rfl rfl (Q.move rfl) ?_
  refine XT.q rfl rfl (Q.move rfl) ?_
  refine XT.ix rfl rfl rfl rfl (by omega) (by omega) fun i26 => ?_
  refine XT.q rfl rfl (Q.ldE rfl (by first | assumption | omega) rfl) ?_
  refine XT.call rfl rfl Tryz.call179 rfl rfl rfl (can_spec p vb vg vs vc vn sv gens sts pk hg hs i (by omega) t ht0 ht) (fun v23 s23 R23 => ?_) XT.stop
  obtain ⟨rfl, rfl⟩ := R23
  dsimp only [lcA, lnA]
  refine ⟨inferInstance, ?_⟩
  refine XT.q rfl rfl (Q.sub rfl rfl ⟨by omega, by omega⟩) ?_
  refine XT.q rfl rfl (Q.min rfl rfl) ?_
  refine XT.q rfl rfl (Q.assign rfl) ?_
  refine XT.done ?_
  refine XK.seq (XK.region rfl (XO.q (Q.move rfl) (XO.q (Q.move rfl) ?_)))
  refine XO.ix rfl rfl (by omega) (by omega) fun i32 => ?_
  refine XO.q (Q.ldE rfl (by first | assumption | omega) rfl) ?_
  refine XO.q (Q.move rfl) ?_
  refine XO.q (Q.add rfl rfl ⟨by omega, by omega⟩) ?_
  refine XO.ix rfl rfl (by omega) (by omega) fun i36 => ?_
  refine XO.stE _ rfl rfl rfl (by assumption) rfl rfl fun h5_7 O5_7 => ?_
  refine XO.done (XK.region rfl (XO.q (Q.move rfl) (XO.q (Q.move rfl) ?_)))
  refine XO.q (Q.sub rfl rfl ⟨by omega, by omega⟩) ?_
  refine XO.q (Q.assign rfl) (XO.done ?_)
  refine XK.inBlock ?_
  refine XK.region rfl ?_
  refine XO.q (Q.add rfl rfl ⟨by omega, by omega⟩) ?_
  refine XO.q (Q.move rfl) (XO.done ?_)
  exact ih0 (i + 1, h5_7) _ _ ⟨by dsimp only; omega, by dsimp only; exact O5_7⟩ (by first | omega | (dsimp only; omega)) (.c rfl (.c rfl (.base 58 rfl rfl))) inferInstance
 ·skip
  have hil : i = sts.length := by omega
  subst hil
  refine XK.exit rfl ?_
  refine XK.seq (XK.region rfl (XO.q (Q.move rfl) (XO.q (Q.assign rfl) (XO.done ?_))))
  refine XK.rt [ku] Tryz.func177 Tryz.results177 (.t rfl .n) ?_
  exact ⟨ku, rfl, rfl, OU⟩
theorem give_spec (v : Value) (h : PHeap) (cs : List BCell) [ic : OArr v encCell 5 329 h cs] (i : Nat) (hi : i < cs.length) (ck : CellOk (cs.getD i default)) (need : Int) (hn0 : 0 ≤ need) (hn1 : need ≤ 6000000) :
  Spec Tryz.prog 178 #[pat v 5 i 0, .int .i64 need] [h] [] (fun v' hs => ∃ h', v' = .int .i64 (giveC (cs.getD i default) need) ∧ hs = [h'] ∧ OArr v encCell 5 329 h' (cs.set i { bat := (cs.getD i default).bat, now := (cs.getD i default).now - giveC (cs.getD i default) need })) := by
 have g := giveC_ok ck hn0
 have n0 := ck.n0
 have nf := ck.nf
 have f1 := ck.f1
 unfold giveC at g
 refine Spec.intro (fn := Tryz.f178) (N := 26) Tryz.func178 rfl Tryz.ntmps178 rfl fun B => ?_
 refine XK.seq (XK.region rfl (XO.q (Q.assign rfl) (XO.done (XK.seq ?_))))
 refine XK.drawn [0, 1, 2, 3, 4, 5, 6, 7, 8, 9, 10, 11] [] [h] (.q 0 (.q 1 (.q 2 (.q 3 (.q 4 (.q 5 (.q 6 (.q 7 (.q 8 (.q 9 (.q 10 (.q 11 .done)))))))))))) Tryz.mixed rfl (by kernel_rfl) ?_
 refine XT.q rfl rfl (Q.move rfl) ?_
 refine XT.q rfl rfl (Q.nilCheckE rfl (by first | assumption | omega)) ?_
 refine XT.q rfl rfl (Q.fieldQ rfl (by first | assumption | omega)) ?_
 refine XT.q rfl rfl (Q.fieldQ rfl (by first | assumption | omega)) ?_
 refine XT.q rfl rfl (Q.ldE rfl (by first | assumption | omega) rfl) ?_
 refine XT.q rfl rfl (Q.move rfl) ?_
 refine XT.q rfl rfl (Q.nilCheckE rfl (by first | assumption | omega)) ?_
 refine XT.q rfl rfl (Q.fieldQ rfl (by first | assumption | omega)) ?_
 refine XT.q rfl rfl (Q.ldE rfl (by first | assumption | omega) rfl) ?_
 refine XT.q rfl rfl (Q.move rfl) ?_
 refine XT.q rfl rfl (Q.min3 rfl rfl rfl) ?_
 refine XT.q rfl rfl (Q.assign rfl) ?_
 refine XT.done ?_
 refine XK.seq (XK.region rfl (XO.q (Q.move rfl) ?_))
 refine XO.q (Q.nilCheckE rfl (by first | assumption | omega)) ?_
 refine XO.q (Q.fieldQ rfl (by first | assumption | omega)) ?_
 refine XO.q (Q.ldE rfl (by first | assumption | omega) rfl) ?_
 refine XO.q (Q.move rfl) ?_
 refine XO.q (Q.sub rfl rfl ⟨by omega, by omega⟩) ?_
 refine XO.q (Q.nilCheckE rfl (by first | assumption | omega)) ?_
 refine XO.q (Q.fieldQ rfl (by first | assumption | omega)) ?_
 refine XO.stE { bat := (cs.getD i default).bat, now := (cs.getD i default).now - giveC (cs.getD i default) need } rfl rfl rfl (by assumption) rfl rfl fun h2_8 O2_8 => ?_
 refine XO.done (XK.seq (XK.region rfl (XO.q (Q.move rfl) (XO.q (Q.assign rfl) (XO.done ?_)))))
 refine XK.rt [h2_8] Tryz.func178 Tryz.results178 (.t rfl .n) ?_
 exact ⟨h2_8, rfl, rfl, O2_8⟩
theorem take_spec (v : Value) (h : PHeap) (cs : List BCell) [ic : OArr v encCell 5 329 h cs] (i : Nat) (hi : i < cs.length) (ck : CellOk (cs.getD i default)) (need : Int) (hn0 : 0 ≤ need) (hn1 : need ≤ 6000000) :
  Spec Tryz.prog 180 #[pat v 5 i 0, .int .i64 need] [h] [] (fun v' hs => ∃ h', v' = .int .i64 (takeC (cs.getD i default) need) ∧ hs = [h'] ∧ OArr v encCell 5 329 h' (cs.set i { bat := (cs.getD i default).bat, now := (cs.getD i default).now + takeC (cs.getD i default) need })) := by
 have g := takeC_ok ck hn0
 have n0 := ck.n0
 have nf := ck.nf
 have f1 := ck.f1
 unfold takeC at g
 refine Spec.intro (fn := Tryz.f180) (N := 32) Tryz.func180 rfl Tryz.ntmps180 rfl fun B => ?_
 refine XK.seq (XK.region rfl (XO.q (Q.assign rfl) (XO.done (XK.seq ?_))))
 refine XK.drawn [0, 1, 2, 3, 4, 5, 6, 7, 8, 9, 10, 11, 12, 13, 14, 15, 16, 17] [] [h] (.q 0 (.q 1 (.q 2 (.q 3 (.q 4 (.q 5 (.q 6 (.q 7 (.q 8 (.q 9 (.q 10 (.q 11 (.q 12 (.q 13 (.q 14 (.q 15 (.q 16 (.q 17 .done)))))))))))))))))) Tryz.mixed rfl (by kernel_rfl) ?_
 refine XT.q rfl rfl (Q.move rfl) ?_
 refine XT.q rfl rfl (Q.nilCheckE rfl (by first | assumption | omega)) ?_
 refine XT.q rfl rfl (Q.fieldQ rfl (by first | assumption | omega)) ?_
 refine XT.q rfl rfl (Q.fieldQ rfl (by first | assumption | omega)) ?_
 refine XT.q rfl rfl (Q.ldE rfl (by first | assumption | omega) rfl) ?_
 refine XT.q rfl rfl (Q.move rfl) ?_
 refine XT.q rfl rfl (Q.nilCheckE rfl (by first | assumption | omega)) ?_
 refine XT.q rfl rfl (Q.fieldQ rfl (by first | assumption | omega)) ?_
 refine XT.q rfl rfl (Q.fieldQ rfl (by first | assumption | omega)) ?_
 refine XT.q rfl rfl (Q.ldE rfl (by first | assumption | omega) rfl) ?_
 refine XT.q rfl rfl (Q.move rfl) ?_
 refine XT.q rfl rfl (Q.nilCheckE rfl (by first | assumption | omega)) ?_
 refine XT.q rfl rfl (Q.fieldQ rfl (by first | assumption | omega)) ?_
 refine XT.q rfl rfl (Q.ldE rfl (by first | assumption | omega) rfl) ?_
 refine XT.q rfl rfl (Q.sub rfl rfl ⟨by omega, by omega⟩) ?_
 refine XT.q rfl rfl (Q.move rfl) ?_
 refine XT.q rfl rfl (Q.min3 rfl rfl rfl) ?_
 refine XT.q rfl rfl (Q.assign rfl) ?_
 refine XT.done ?_
 refine XK.seq (XK.region rfl (XO.q (Q.move rfl) ?_))
 refine XO.q (Q.nilCheckE rfl (by first | assumption | omega)) ?_
 refine XO.q (Q.fieldQ rfl (by first | assumption | omega)) ?_
 refine XO.q (Q.ldE rfl (by first | assumption | omega) rfl) ?_
 refine XO.q (Q.move rfl) ?_
 refine XO.q (Q.add rfl rfl ⟨by omega, by omega⟩) ?_
 refine XO.q (Q.nilCheckE rfl (by first | assumption | omega)) ?_
 refine XO.q (Q.fieldQ rfl (by first | assumption | omega)) ?_
 refine XO.stE { bat := (cs.getD i default).bat, now := (cs.getD i default).now + takeC (cs.getD i default) need } rfl rfl rfl (by assumption) rfl rfl fun h2_8 O2_8 => ?_
 refine XO.done (XK.seq (XK.region rfl (XO.q (Q.move rfl) (XO.q (Q.assign rfl) (XO.done ?_)))))
 refine XK.rt [h2_8] Tryz.func180 Tryz.results180 (.t rfl .n) ?_
 exact ⟨h2_8, rfl, rfl, O2_8⟩
theorem energies_spec (p : Nat) (vb vg vs vc vn : Value) [ob : One vb] [on : One vn] (sv : Int) [os : One vs] [og : One vg] (hc : PHeap) (cs : List BCell) [ic : Arr vc encCell 5 hc cs] (hl : cs.length ≤ 8) :
  Spec Tryz.prog 134 #[ptr p 0] [] [blk p [vb, vg, vs, vc, vn, .int .i64 (sv)] 282, hc] (fun v hs => ∃ h', hs = [h'] ∧ OArr v encI 1 3 h' (energiesP cs)) := by
 have lc := ic.le
 refine Spec.intro (fn := Tryz.f134) (N := 22) Tryz.func134 rfl Tryz.ntmps134 rfl fun B => ?_
 refine XK.seq (XK.region rfl (XO.q (Q.assign rfl) (XO.done (XK.seq (XK.region rfl ?_)))))
 refine XO.q (Q.assign rfl) (XO.done (XK.seq (XK.seq (XK.region rfl (XO.q (Q.move rfl) ?_)))))
 refine XO.q (Q.nilCheck rfl) ?_
 refine XO.q (Q.fieldAddr rfl) ?_
 refine XO.q (Q.ld rfl rfl) ?_
 refine XO.len rfl fun l10 => ?_
 refine XO.q (Q.move rfl) (XO.done (XK.block ?_))
 refine XK.while (X := Nat × PHeap × Value) [3, 5, 11, 12, 13, 14, 15, 16, 17, 18, 19, 20] (fun ⟨i, ko, vo⟩ => [(3, some (vo)), (11, some (.int .i64 (i : Nat)))]) (fun ⟨i, ko, vo⟩ => [ko]) (fun ⟨i, ko, vo⟩ => i ≤ cs.length ∧ OArr vo encI 1 3 ko (energiesP (cs.take i))) (fun ⟨i, ko, vo⟩ => cs.length - i) (0, emp, .slice none 0 0) [emp] rfl ⟨by omega, OArr.nil (fun _ => rfl)⟩ (.c rfl (.c rfl (.base 0 rfl rfl))) ?_
 rintro ⟨i, ko, vo⟩ ⟨hi, OE⟩ ih0
 dsimp only [lcA, lnA] at ih0 ⊢
 have le : (energiesP (cs.take i)).length = i := by unfold energiesP; rw [List.length_map, List.length_take]; omega
 refine XK.seq (XK.region rfl ?_)
 refine XO.q (Q.lss rfl rfl) ?_
 refine XO.done (XK.seq ?_)
 refine XK.if rfl (fun c0 => ?_) (fun c0 => ?_)
 ·skip
  refine XK.skip (XK.seq (XK.block (XK.seq (XK.region rfl ?_))))
  refine XO.ix rfl rfl (by omega) (by omega) fun i13 => ?_
  refine XO.q (Q.ldEA [_, _, _, _, _] rfl (by first | assumption | omega) rfl rfl) ?_
  refine XO.alloc fun b5 => ?_
  refine XO.st rfl rfl rfl ?_
  refine XO.done (XK.region rfl (XO.q (Q.move rfl) ?_))
  refine XO.q (Q.fieldAddr rfl) ?_
  refine XO.q (Q.ld rfl rfl) ?_
  refine XO.lit [_] [_] [(cs.getD i default).now] encI (by rfl) (by rfl) rfl (by rfl) (by exact .c 0 1 rfl rfl rfl (.n _)) (fun _ => rfl) (by rfl) rfl (by infer_instance) rfl fun v18 h18 O18 => ?_
  refine XO.append rfl rfl rfl rfl (by first | omega | (simp; omega)) fun v19 h19 O19 => ?_
  refine XO.q (Q.assign rfl) (XO.done ?_)
  refine XK.inBlock ?_
  refine XK.region rfl ?_
  refine XO.q (Q.add rfl rfl ⟨by omega, by omega⟩) ?_
  refine XO.q (Q.move rfl) (XO.done ?_)
  exact ih0 (i + 1, h19, v19) _ _ ⟨by dsimp only; omega, by dsimp only; rw [energies_snoc (by omega)]; exact O19⟩ (by first | omega | (dsimp only; omega)) (.c rfl (.c rfl (.base 26 rfl rfl))) inferInstance
 ·skip
  refine XK.exit rfl ?_
  refine XK.seq (XK.region rfl (XO.q (Q.move rfl) (XO.q (Q.assign rfl) (XO.done ?_))))
  refine XK.rt [ko] Tryz.func134 Tryz.results134 (.t rfl .n) ?_
  have hil : i = cs.length := by omega
  subst hil
  rw [List.take_length] at OE
  exact ⟨ko, rfl, OE⟩
end Go.X.Bk

set_option linter.unusedSimpArgs false
set_option linter.unusedVariables false
set_option maxRecDepth 20000
namespace Go.X.Bk
open Go.Proofs
theorem begin_spec (b : BBank) (vb vg : Value) (hb hg : PHeap) [ib : Arr vb encBat 4 hb b.bats] [ig : Arr vg encGen 5 hg b.gens] (fs : List Int) (vf : Value) (hf : PHeap) [jf : Arr vf encI 1 hf fs] (ok : BOk b) (fk : FOk b fs) : Spec Tryz.prog 131 #[.agg #[vb, vg], vf] [] [hb, hg, hf] (fun v hs => ∃ p vs vc vn ks kc kn, v = ptr p 0 ∧ hs = [blk p [vb, vg, vs, vc, vn, .int .i64 0] 282, ks, kc, kn] ∧ OArr vs encI 1 3 ks (startsP b fs) ∧ OArr vc encCell 5 329 kc (begun b).cells ∧ OArr vn encI 1 3 kn (begun b).burnt) := by
 have lb := ib.le
 have lg := ig.le
 have n8 := ok.nb
 have n6 := ok.ng
 have nf := fk.n
 refine Spec.intro (fn := Tryz.f131) (N := 63) Tryz.func131 rfl Tryz.ntmps131 rfl fun B => ?_
 refine XK.seq (XK.region rfl ?_)
 refine XO.box rfl fun b2 => ?_
 refine XO.q (Q.assign rfl) (XO.done (XK.seq ?_))
 refine XK.drawn [0, 1, 2, 3, 5, 7] [b2] [] (.q 0 (.q 1 (.q 2 (.q 3 (.br 4 true (.q 5 (.br 6 true (.q 7 .done) .stop)) .stop))))) Tryz.mixed rfl (by kernel_rfl) ?_
 refine XT.q rfl rfl (Q.ldA [_, _] rfl rfl rfl) ?_
 refine XT.q rfl rfl (Q.fieldAddr rfl) ?_
 refine XT.q rfl rfl (Q.ld rfl rfl) ?_
 refine XT.q rfl rfl (Q.len rfl) ?_
 refine XT.make encI (0) rfl rfl rfl rfl rfl (by omega) (by omega) (fun _ => rfl) rfl rfl rfl (by dsimp only [encI]; infer_instance) (fun v14 h14 O14 => ⟨inferInstance, ?_⟩) XT.stop
 refine XT.q rfl rfl (Q.build [_, _, _, _, _, _] (.c 0 2 rfl rfl rfl (.c 4 1 rfl rfl rfl (.n _)))) ?_
 refine XT.box rfl rfl rfl (fun b16 => ⟨inferInstance, ?_⟩) XT.stop
 refine XT.q rfl rfl (Q.assign rfl) ?_
 refine XT.done ?_
 refine XK.seq (XK.seq (XK.region rfl ?_))
 refine XO.q (Q.fieldAddr rfl) ?_
 refine XO.q (Q.ld rfl rfl) ?_
 refine XO.len rfl fun l19 => ?_
 refine XO.q (Q.move rfl) (XO.done (XK.block ?_))
 refine XK.while (X := Nat × PHeap × Value) [7, 20, 21, 22, 23, 24, 25, 26, 27, 28, 29, 30, 31, 32, 33, 34, 35, 36, 37] (fun ⟨i, kc, vc⟩ => [(20, some (.int .i64 (i : Nat)))]) (fun ⟨i, kc, vc⟩ => [blk b16 [vb, vg, .slice none 0 0, vc, v14, .int .i64 0] 282, kc]) (fun ⟨i, kc, vc⟩ => i ≤ b.bats.length ∧ OArr vc encCell 5 329 kc ((b.bats.take i).map (fun x => ⟨x, x.energy⟩))) (fun ⟨i, kc, vc⟩ => b.bats.length - i) (0, emp, .slice none 0 0) [blk b16 [vb, vg, .slice none 0 0, .slice none 0 0, v14, .int .i64 0] 282, emp] rfl ⟨by omega, OArr.nil (fun _ => rfl)⟩ (.c rfl (.base 0 rfl rfl)) ?_
 rintro ⟨i, kc, vc⟩ ⟨hi, OC⟩ ih0
 dsimp only [lcA, lnA] at ih0 ⊢
 have lc : ((b.bats.take i).map (fun x => (⟨x, x.energy⟩ : BCell))).length = i := by rw [List.length_map, List.length_take]; omega
 refine XK.seq (XK.region rfl ?_)
 refine XO.q (Q.lss rfl rfl) ?_
 refine XO.done (XK.seq ?_)
 refine XK.if rfl (fun c0 => ?_) (fun c0 => ?_)
 ·skip
  refine XK.skip (XK.seq (XK.block (XK.seq (XK.region rfl ?_))))
  refine XO.ix rfl rfl (by omega) (by omega) fun i22 => ?_
  refine XO.q (Q.ldEA [_, _, _, _] rfl (by first | assumption | omega) rfl rfl) ?_
  refine XO.alloc fun b7 => ?_
  refine XO.st rfl rfl rfl ?_
  refine XO.done ?_
  refine XK.drawn [0, 1, 2, 3, 5, 6, 7, 8, 11, 12] [b7] [] (.q 0 (.q 1 (.q 2 (.q 3 (.q 5 (.q 6 (.q 7 (.q 8 (.br 4 true (.br 9 true (.br 10 true (.q 11 (.q 12 (.br 13 true .done .stop))) .stop) .stop) (.br 9 true (.br 4 true (.br 10 true (.q 11 (.q 12 (.br 13 true .done .stop))) .stop) .stop) .stop)))))))))) Tryz.mixed rfl (by kernel_rfl) ?_
  refine XT.q rfl rfl (Q.move rfl) ?_
  refine XT.q rfl rfl (Q.move rfl) ?_
  refine XT.q rfl rfl (Q.nilCheck rfl) ?_
  refine XT.q rfl rfl (Q.fieldAddr rfl) ?_
  refine XT.q rfl rfl (Q.ldA [_, _, _, _] rfl rfl rfl) ?_
  refine XT.q rfl rfl (Q.fieldAddr rfl) ?_
  refine XT.q rfl rfl (Q.ld rfl rfl) ?_
  refine XT.q rfl rfl (Q.build [_, _, _, _, _] (.c 0 4 rfl rfl rfl (.c 4 1 rfl rfl rfl (.n _)))) ?_
  refine XT.qs rfl rfl (Q.ld rfl rfl) ⟨inferInstance, ?_⟩ ?_
  ·skip
   refine XT.lit [_, _, _, _, _] [_, _, _, _, _] [⟨b.bats.getD i default, (b.bats.getD i default).energy⟩] encCell rfl rfl (by rfl) (by rfl) rfl (by rfl) (by exact .c 0 5 rfl rfl rfl (.n _)) (fun _ => rfl) (by rfl) rfl (by infer_instance) rfl (fun v33 h33 O33 => ⟨inferInstance, ?_⟩) XT.stop
   refine XT.append rfl rfl rfl rfl rfl rfl (by first | omega | (simp; omega)) (fun v34 h34 O34 => ⟨inferInstance, ?_⟩) XT.stop
   refine XT.q rfl rfl (Q.nilCheck rfl) ?_
   refine XT.q rfl rfl (Q.fieldAddr rfl) ?_
   refine XT.st rfl rfl rfl rfl rfl ⟨inferInstance, ?_⟩ XT.stop
   refine XT.done ?_
   refine XK.inBlock ?_
   refine XK.region rfl ?_
   refine XO.q (Q.add rfl rfl ⟨by omega, by omega⟩) ?_
   refine XO.q (Q.move rfl) (XO.done ?_)
   exact ih0 (i + 1, h34, v34) _ _ ⟨by dsimp only; omega, by dsimp only; rw [cells_snoc (by omega)]; exact O34⟩ (by first | omega | (dsimp only; omega)) (.c rfl (.base 39 rfl rfl)) inferInstance
  ·skip
   refine XT.lit [_, _, _, _, _] [_, _, _, _, _] [⟨b.bats.getD i default, (b.bats.getD i default).energy⟩] encCell rfl rfl (by rfl) (by rfl) rfl (by rfl) (by exact .c 0 5 rfl rfl rfl (.n _)) (fun _ => rfl) (by rfl) rfl (by infer_instance) rfl (fun v33 h33 O33 => ⟨inferInstance, ?_⟩) XT.stop
   refine XT.qs rfl rfl (Q.ld rfl rfl) ⟨inferInstance, ?_⟩ XT.stop
   refine XT.append rfl rfl rfl rfl rfl rfl (by first | omega | (simp; omega)) (fun v34 h34 O34 => ⟨inferInstance, ?_⟩) XT.stop
   refine XT.q rfl rfl (Q.nilCheck rfl) ?_
   refine XT.q rfl rfl (Q.fieldAddr rfl) ?_
   refine XT.st rfl rfl rfl rfl rfl ⟨inferInstance, ?_⟩ XT.stop
   refine XT.done ?_
   refine XK.inBlock ?_
   refine XK.region rfl ?_
   refine XO.q (Q.add rfl rfl ⟨by omega, by omega⟩) ?_
   refine XO.q (Q.move rfl) (XO.done ?_)
   exact ih0 (i + 1, h34, v34) _ _ ⟨by dsimp only; omega, by dsimp only; rw [cells_snoc (by omega)]; exact O34⟩ (by first | omega | (dsimp only; omega)) (.c rfl (.base 39 rfl rfl)) inferInstance
 ·skip
  have hil : i = b.bats.length := by omega
  subst hil
  rw [List.take_length] at OC
  clear ih0 lc hi c0
  refine XK.exit rfl ?_
  refine XK.seq (XK.seq (XK.region rfl ?_))
  refine XO.q (Q.fieldAddr rfl) ?_
  refine XO.q (Q.ld rfl rfl) ?_
  refine XO.len rfl fun l40 => ?_
  refine XO.q (Q.move rfl) (XO.done (XK.block ?_))
  refine XK.while (X := Nat × PHeap × Value) [8, 9, 41, 42, 43, 44, 45, 46, 47, 48, 49, 50, 51, 52, 53, 54, 55, 56, 57, 58, 59, 60, 61] (fun ⟨i, ks, vs⟩ => [(41, some (.int .i64 (i : Nat)))]) (fun ⟨i, ks, vs⟩ => [blk b16 [vb, vg, vs, vc, v14, .int .i64 0] 282, ks]) (fun ⟨i, ks, vs⟩ => i ≤ b.gens.length ∧ OArr vs encI 1 3 ks (startsTo b.gens fs i)) (fun ⟨i, ks, vs⟩ => b.gens.length - i) (0, emp, .slice none 0 0) [blk b16 [vb, vg, .slice none 0 0, vc, v14, .int .i64 0] 282, emp] rfl ⟨by omega, OArr.nil (fun _ => rfl)⟩ (.c rfl (.base 0 rfl rfl)) ?_
  rintro ⟨i, ks, vs⟩ ⟨hi, OS⟩ ih1
  dsimp only [lcA, lnA] at ih1 ⊢
  have ls := startsTo_len b.gens fs i
  refine XK.seq (XK.region rfl ?_)
  refine XO.q (Q.lss rfl rfl) ?_
  refine XO.done (XK.seq ?_)
  refine XK.if rfl (fun c1 => ?_) (fun c1 => ?_)
  ·skip
   refine XK.skip (XK.seq (XK.block (XK.seq (XK.region rfl (XO.q (Q.move rfl) ?_)))))
   refine XO.ix rfl rfl (by omega) (by omega) fun i44 => ?_
   refine XO.q (Q.ldEA [_, _, _, _, _] rfl (by first | assumption | omega) rfl rfl) ?_
   refine XO.alloc fun b9 => ?_
   refine XO.q (Q.assign rfl) ?_
   refine XO.st rfl rfl rfl ?_
   refine XO.done ?_
   refine XK.drawn [0, 1, 2, 3, 5, 6, 7, 8, 9, 13, 14] [b9] [] (.q 0 (.q 1 (.q 2 (.q 3 (.q 5 (.q 6 (.q 7 (.q 8 (.q 9 (.br 4 true (.br 10 true (.br 11 true (.br 12 true (.q 13 (.q 14 (.br 15 true .done .stop))) .stop) .stop) .stop) (.br 10 true (.br 4 true (.br 11 true (.br 12 true (.q 13 (.q 14 (.br 15 true .done .stop))) .stop) .stop) (.br 11 true (.br 4 true (.br 12 true (.q 13 (.q 14 (.br 15 true .done .stop))) .stop) .stop) .stop)) .stop))))))))))) Tryz.mixed rfl (by kernel_rfl) ?_
   refine XT.q rfl rfl (Q.move rfl) ?_
   refine XT.q rfl rfl (Q.move rfl) ?_
   refine XT.q rfl rfl (Q.nilCheck rfl) ?_
   refine XT.q rfl rfl (Q.fieldAddr rfl) ?_
   refine XT.q rfl rfl (Q.ldA [_, _, _, _, _] rfl rfl rfl) ?_
   refine XT.q rfl rfl (Q.move rfl) ?_
   refine XT.q rfl rfl (Q.move rfl) ?_
   refine XT.ix rfl rfl rfl rfl (by omega) (by omega) fun i54 => ?_
   refine XT.q rfl rfl (Q.ldE rfl (by first | assumption | omega) rfl) ?_
   refine XT.qs rfl rfl (Q.ld rfl rfl) ⟨inferInstance, ?_⟩ ?_
   ·skip
    have fi := fk.f i (by omega)
    refine XT.call rfl rfl Tryz.call175 rfl rfl rfl (start_spec _ (ok.gen _ (getD_memB (by omega))) _ fi.1 fi.2) (fun v56 s56 R56 => ?_) XT.stop
    obtain ⟨rfl, rfl⟩ := R56
    dsimp only [lcA, lnA]
    refine ⟨inferInstance, ?_⟩
    refine XT.lit [_] [_] [startP (b.gens.getD i default) (fs.getD i default)] encI rfl rfl (by rfl) (by rfl) rfl (by rfl) (by exact .c 0 1 rfl rfl rfl (.n _)) (fun _ => rfl) (by rfl) rfl (by infer_instance) rfl (fun v57 h57 O57 => ⟨inferInstance, ?_⟩) XT.stop
    refine XT.append rfl rfl rfl rfl rfl rfl (by first | omega | (simp; omega)) (fun v58 h58 O58 => ⟨inferInstance, ?_⟩) XT.stop
    refine XT.q rfl rfl (Q.nilCheck rfl) ?_
    refine XT.q rfl rfl (Q.fieldAddr rfl) ?_
    refine XT.st rfl rfl rfl rfl rfl ⟨inferInstance, ?_⟩ XT.stop
    refine XT.done ?_
    refine XK.inBlock ?_
    refine XK.region rfl ?_
    refine XO.q (Q.add rfl rfl ⟨by omega, by omega⟩) ?_
    refine XO.q (Q.move rfl) (XO.done ?_)
    exact ih1 (i + 1, h58, v58) _ _ ⟨by dsimp only; omega, by dsimp only; exact O58⟩ (by first | omega | (dsimp only; omega)) (.c rfl (.base 47 rfl rfl)) inferInstance
   ·skip
    have fi := fk.f i (by omega)
    refine XT.call rfl rfl Tryz.call175 rfl rfl rfl (start_spec _ (ok.gen _ (getD_memB (by omega))) _ fi.1 fi.2) (fun v56 s56 R56 => ?_) XT.stop
    obtain ⟨rfl, rfl⟩ := R56
    dsimp only [lcA, lnA]
    refine ⟨inferInstance, ?_⟩
    refine XT.qs rfl rfl (Q.ld rfl rfl) ⟨inferInstance, ?_⟩ ?_
    ·skip
     refine XT.lit [_] [_] [startP (b.gens.getD i default) (fs.getD i default)] encI rfl rfl (by rfl) (by rfl) rfl (by rfl) (by exact .c 0 1 rfl rfl rfl (.n _)) (fun _ => rfl) (by rfl) rfl (by infer_instance) rfl (fun v57 h57 O57 => ⟨inferInstance, ?_⟩) XT.stop
     refine XT.append rfl rfl rfl rfl rfl rfl (by first | omega | (simp; omega)) (fun v58 h58 O58 => ⟨inferInstance, ?_⟩) XT.stop
     refine XT.q rfl rfl (Q.nilCheck rfl) ?_
     refine XT.q rfl rfl (Q.fieldAddr rfl) ?_
     refine XT.st rfl rfl rfl rfl rfl ⟨inferInstance, ?_⟩ XT.stop
     refine XT.done ?_
     refine XK.inBlock ?_
     refine XK.region rfl ?_
     refine XO.q (Q.add rfl rfl ⟨by omega, by omega⟩) ?_
     refine XO.q (Q.move rfl) (XO.done ?_)
     exact ih1 (i + 1, h58, v58) _ _ ⟨by dsimp only; omega, by dsimp only; exact O58⟩ (by first | omega | (dsimp only; omega)) (.c rfl (.base 47 rfl rfl)) inferInstance
    ·skip
     refine XT.lit [_] [_] [startP (b.gens.getD i default) (fs.getD i default)] encI rfl rfl (by rfl) (by rfl) rfl (by rfl) (by exact .c 0 1 rfl rfl rfl (.n _)) (fun _ => rfl) (by rfl) rfl (by infer_instance) rfl (fun v57 h57 O57 => ⟨inferInstance, ?_⟩) XT.stop
     refine XT.qs rfl rfl (Q.ld rfl rfl) ⟨inferInstance, ?_⟩ XT.stop
     refine XT.append rfl rfl rfl rfl rfl rfl (by first | omega | (simp; omega)) (fun v58 h58 O58 => ⟨inferInstance, ?_⟩) XT.stop
     refine XT.q rfl rfl (Q.nilCheck rfl) ?_
     refine XT.q rfl rfl (Q.fieldAddr rfl) ?_
     refine XT.st rfl rfl rfl rfl rfl ⟨inferInstance, ?_⟩ XT.stop
     refine XT.done ?_
     refine XK.inBlock ?_
     refine XK.region rfl ?_
     refine XO.q (Q.add rfl rfl ⟨by omega, by omega⟩) ?_
     refine XO.q (Q.move rfl) (XO.done ?_)
     exact ih1 (i + 1, h58, v58) _ _ ⟨by dsimp only; omega, by dsimp only; exact O58⟩ (by first | omega | (dsimp only; omega)) (.c rfl (.base 47 rfl rfl)) inferInstance
  ·skip
   refine XK.exit rfl ?_
   refine XK.seq (XK.region rfl (XO.q (Q.move rfl) (XO.q (Q.assign rfl) (XO.done ?_))))
   refine XK.rt [blk b16 [vb, vg, vs, vc, v14, .int .i64 0] 282, ks, kc, h14] Tryz.func131 Tryz.results131 (.t rfl .n) ?_
   have hil : i = b.gens.length := by omega
   subst hil
   exact ⟨b16, vs, vc, v14, ks, kc, h14, rfl, rfl, OS, OC, O14⟩
theorem generate0 (p : Nat) (vb vg vs vc vn : Value) [ob : One vb] [oc : One vc] [on : One vn] (sv : Int) (gens : List BGen) (sts : List Int) (pk : PlayOk gens sts) (hg hs : PHeap) [ig : Arr vg encGen 5 hg gens] [is : Arr vs encI 1 hs sts] (t : Int) (ht0 : 0 ≤ t) (ht : t ≤ 20000) (load : Int) (hn0 : 0 ≤ load) (hn1 : load ≤ 1000000) (vu : Value) (hu : PHeap) [iu : OArr vu encI 1 3 hu (List.replicate sts.length 0)] :
  Spec Tryz.prog 177 #[ptr p 0, .int .i64 t, .int .i64 load, vu] [hu] [blk p [vb, vg, vs, vc, vn, .int .i64 (sv)] 282, hg, hs] (fun v hs' => ∃ h', v = .int .i64 (gen0 gens sts t load).2 ∧ hs' = [h'] ∧ OArr vu encI 1 3 h' (gen0 gens sts t load).1) :=
 generate_spec p vb vg vs vc vn sv gens sts pk hg hs t ht0 ht load hn0 (by omega) vu hu (List.replicate sts.length 0) (zero_used fun j hj => (canAt_ok pk ht hj).1)
theorem generate1 (p : Nat) (vb vg vs vc vn : Value) [ob : One vb] [oc : One vc] [on : One vn] (sv : Int) (gens : List BGen) (sts : List Int) (pk : PlayOk gens sts) (hg hs : PHeap) [ig : Arr vg encGen 5 hg gens] [is : Arr vs encI 1 hs sts] (t : Int) (ht0 : 0 ≤ t) (ht : t ≤ 20000) (load : Int) (hn0 : 0 ≤ load) (hn1 : load ≤ 1000000) {nc k : Nat} {s : BSt} (so : StOk sts nc k s) (vu : Value) (hu : PHeap) [iu : OArr vu encI 1 3 hu (gen0 gens sts t load).1] :
  Spec Tryz.prog 177 #[ptr p 0, .int .i64 t, .int .i64 (take0 gens sts t load s).2, vu] [hu] [blk p [vb, vg, vs, vc, vn, .int .i64 (sv)] 282, hg, hs] (fun v hs' => ∃ h', v = .int .i64 (gen1 gens sts t load s).2 ∧ hs' = [h'] ∧ OArr vu encI 1 3 h' (gen1 gens sts t load s).1) :=
 generate_spec p vb vg vs vc vn sv gens sts pk hg hs t ht0 ht (take0 gens sts t load s).2 (take0_ok pk ht hn0 so).2.1 (take0_ok pk ht hn0 so).2.2 vu hu (gen0 gens sts t load).1 (gen0_ok pk ht hn0).1
set_option maxHeartbeats 1000000 in
theorem second_spec (p : Nat) (vb vg vs vc vn : Value) [ob : One vb] (gens : List BGen) (sts : List Int) (pk : PlayOk gens sts) (hg hs : PHeap) [ig : Arr vg encGen 5 hg gens] [is : Arr vs encI 1 hs sts] (s : BSt) (hc hn : PHeap) [ic : OArr vc encCell 5 329 hc s.cells] [jn : OArr vn encI 1 3 hn s.burnt] {nc k : Nat} (so : StOk sts nc k s) (hk : k ≤ 20000)
  (t : Int) (ht0 : 0 ≤ t) (ht : t ≤ 20000) (load : Int) (hn0 : 0 ≤ load) (hn1 : load ≤ 1000000) (strict : Bool) :
  Spec Tryz.prog 132 #[ptr p 0, .int .i64 t, .int .i64 load, .bool strict] [blk p [vb, vg, vs, vc, vn, .int .i64 (s.served)] 282, hc, hn] [hg, hs] (fun v hs' => ∃ vc' hc' hn', v = .int .i64 (secondP gens sts t load strict s).1 ∧ hs' = [blk p [vb, vg, vs, vc', vn, .int .i64 (secondP gens sts t load strict s).2.served] 282, hc', hn'] ∧ OArr vc' encCell 5 329 hc' (secondP gens sts t load strict s).2.cells ∧ OArr vn encI 1 3 hn' (secondP gens sts t load strict s).2.burnt) := by
 have lc := ic.arr.le
 have ls := is.le
 have n8 := so.nc8
 have cl := so.c.len
 have n6 := pk.ng
 have ns := pk.n
 have s0 := so.s0
 have s1 := so.s1
 have bl := so.b.len
 have g0 := gen0_ok pk ht hn0
 have gl := g0.1.len
 have v0 := give0_ok pk ht hn0 so
 have t0 := take0_ok pk ht hn0 so
 have p0 := spare0_ok pk ht hn0
 have g1 := gen1_ok pk ht hn0 so
 have g1l := g1.len
 have hca := fun j hj => canAt_ok (i := j) pk ht hj
 have hgv := fun i hi => giveTo_ok so.c g0.2.1 i hi
 have hsp := fun i hi => spareTo_ok g0.1 (fun j hj => (hca j hj).2) i hi
 have p0 : 0 ≤ (spareTo (canAt gens sts t) (gen0 gens sts t load).1 sts.length) ∧ (spareTo (canAt gens sts t) (gen0 gens sts t load).1 sts.length) ≤ 6000000 := p0
 have htk := fun i hi => takeTo_ok so.c p0.1 i hi
 refine Spec.intro (fn := Tryz.f132) (N := 141) Tryz.func132 rfl Tryz.ntmps132 rfl fun B => ?_
 refine XK.seq (XK.region rfl (XO.q (Q.assign rfl) (XO.done (XK.seq (XK.region rfl ?_)))))
 refine XO.q (Q.move rfl) ?_
 refine XO.q (Q.nilCheck rfl) ?_
 refine XO.q (Q.fieldAddr rfl) ?_
 refine XO.q (Q.ld rfl rfl) ?_
 refine XO.call Tryz.call176 rfl rfl rfl (cloneC vc hc s.cells (by omega)) fun v23 s23 R23 => ?_
 obtain ⟨k23, rfl, O23⟩ := R23
 dsimp only [lcA, lnA]
 refine XO.q (Q.assign rfl) (XO.done (XK.seq (XK.region rfl (XO.q (Q.move rfl) ?_))))
 refine XO.q (Q.nilCheck rfl) ?_
 refine XO.q (Q.fieldAddr rfl) ?_
 refine XO.q (Q.ld rfl rfl) ?_
 refine XO.len rfl fun l28 => ?_
 refine XO.make encI (0) rfl rfl rfl (by omega) (by omega) (fun _ => rfl) rfl rfl rfl (by dsimp only [encI]; infer_instance) fun v29 h29 O29 => ?_
 refine XO.q (Q.assign rfl) (XO.done (XK.seq (XK.region rfl (XO.q (Q.move rfl) (XO.q (Q.move rfl) ?_)))))
 refine XO.q (Q.move rfl) (XO.q (Q.move rfl) ?_)
 refine XO.call Tryz.call177 rfl rfl rfl (generate0 p vb vg vs vc vn s.served gens sts pk hg hs t ht0 ht load hn0 hn1 v29 h29) fun v34 s34 R34 => ?_
 obtain ⟨k34, rfl, rfl, O34⟩ := R34
 dsimp only [lcA, lnA]
 refine XO.q (Q.assign rfl) (XO.done (XK.seq (XK.seq (XK.region rfl (XO.q (Q.move rfl) ?_)))))
 refine XO.q (Q.gtr rfl rfl) ?_
 refine XO.done ?_
 refine XK.if rfl (fun c0 => ?_) (fun c0 => ?_)
 ·skip
  refine XK.seq (XK.seq (XK.region rfl (XO.q (Q.move rfl) ?_)))
  refine XO.q (Q.nilCheck rfl) ?_
  refine XO.q (Q.fieldAddr rfl) ?_
  refine XO.q (Q.ld rfl rfl) ?_
  refine XO.len rfl fun l41 => ?_
  refine XO.q (Q.move rfl) (XO.done (XK.block ?_))
  refine XK.while (X := Nat × PHeap) [11, 12, 42, 43, 44, 45, 46, 47, 48, 49, 50, 51, 52, 53, 54, 55] (fun ⟨i, kc⟩ => [(11, some (.int .i64 ((giveTo s.cells (gen0 gens sts t load).2 (i)).2))), (42, some (.int .i64 (i : Nat)))]) (fun ⟨i, kc⟩ => [kc]) (fun ⟨i, kc⟩ => i ≤ s.cells.length ∧ OArr vc encCell 5 329 kc (giveTo s.cells (gen0 gens sts t load).2 (i)).1) (fun ⟨i, kc⟩ => s.cells.length - i) (0, hc) [hc] rfl ⟨by omega, ic⟩ (.c rfl (.c rfl (.base 0 rfl rfl))) ?_
  rintro ⟨i, kc⟩ ⟨hi, OG⟩ ih0
  dsimp only [lcA, lnA] at ih0 ⊢
  have gvi := hgv i (by omega)
  have gvl := gvi.1.len
  refine XK.seq (XK.region rfl ?_)
  refine XO.q (Q.lss rfl rfl) ?_
  refine XO.done (XK.seq ?_)
  refine XK.if rfl (fun c1 => ?_) (fun c1 => ?_)
  ·skip
   have gci := giveC_ok (gvi.1.ok i (by omega)) gvi.2.1
   refine XK.skip (XK.seq (XK.block (XK.seq (XK.region rfl (XO.q (Q.move rfl) ?_)))))
   refine XO.q (Q.assign rfl) (XO.done (XK.region rfl (XO.q (Q.move rfl) (XO.q (Q.move rfl) ?_))))
   refine XO.q (Q.nilCheck rfl) ?_
   refine XO.q (Q.fieldAddr rfl) ?_
   refine XO.q (Q.ld rfl rfl) ?_
   refine XO.q (Q.move rfl) ?_
   refine XO.ix rfl rfl (by omega) (by omega) fun i51 => ?_
   refine XO.q (Q.move rfl) ?_
   refine XO.call Tryz.call178 rfl rfl rfl (give_spec vc kc (giveTo s.cells (gen0 gens sts t load).2 (i)).1 i (by omega) (gvi.1.ok i (by omega)) (giveTo s.cells (gen0 gens sts t load).2 (i)).2 gvi.2.1 (by omega)) fun v53 s53 R53 => ?_
   obtain ⟨k53, rfl, rfl, O53⟩ := R53
   dsimp only [lcA, lnA]
   refine XO.q (Q.sub rfl rfl ⟨by omega, by omega⟩) ?_
   refine XO.q (Q.assign rfl) (XO.done ?_)
   refine XK.inBlock ?_
   refine XK.region rfl ?_
   refine XO.q (Q.add rfl rfl ⟨by omega, by omega⟩) ?_
   refine XO.q (Q.move rfl) (XO.done ?_)
   exact ih0 (i + 1, k53) _ _ ⟨by dsimp only; omega, by dsimp only; exact O53⟩ (by first | omega | (dsimp only; omega)) (.c rfl (.c rfl (.base 34 rfl rfl))) inferInstance
  ·skip
   have hil : i = s.cells.length := by omega
   subst hil
   clear ih0
   have v0 : 0 ≤ (giveTo s.cells (gen0 gens sts t load).2 (s.cells.length)).2 ∧ (giveTo s.cells (gen0 gens sts t load).2 (s.cells.length)).2 ≤ load := v0.2
   refine XK.exit rfl ?_
   refine XK.seq (XK.region rfl (XO.q (Q.move rfl) ?_))
   refine XO.q (Q.gtr rfl rfl) ?_
   refine XO.q (Q.move rfl) ?_
   refine XO.q (Quiet.guardT rfl rfl fun g59 p59 => Q.move rfl) ?_
   refine XO.q (Q.and rfl (fun hp => lzv hp rfl)) ?_
   refine XO.done ?_
   refine XK.if rfl (fun c2 => ?_) (fun c2 => ?_)
   ·skip
    refine XK.seq (XK.region rfl (XO.q (Q.move rfl) (XO.q (Q.move rfl) ?_)))
    refine XO.q (Q.nilCheck rfl) ?_
    refine XO.q (Q.fieldAddr rfl) ?_
    refine XO.st rfl rfl rfl ?_
    refine XO.done (XK.seq (XK.region rfl (XO.q (Q.move rfl) (XO.q (Q.assign rfl) (XO.done ?_)))))
    refine XK.rt [blk p [vb, vg, vs, v23, vn, .int .i64 (s.served)] 282, k23, hn] Tryz.func132 Tryz.results132 (.t rfl .n) ?_
    have e : secondP gens sts t load strict s = ((give0 gens sts t load s).2, s) := by
     unfold secondP
     rw [if_pos c0, if_pos ⟨c2.1, by simpa using c2.2⟩]
    rw [e]
    exact ⟨v23, k23, hn, rfl, rfl, O23, jn⟩
   ·skip
    refine XK.skip (XK.seq (XK.seq (XK.region rfl (XO.q (Q.move rfl) ?_))))
    refine XO.len rfl fun l113 => ?_
    refine XO.q (Q.move rfl) (XO.done (XK.block ?_))
    refine XK.while (X := Nat × PHeap) [17, 18, 114, 115, 116, 117, 118, 119, 120, 121, 122, 123, 124, 125, 126, 127, 128, 129] (fun ⟨i, kn⟩ => [(114, some (.int .i64 (i : Nat)))]) (fun ⟨i, kn⟩ => [kn]) (fun ⟨i, kn⟩ => i ≤ sts.length ∧ OArr vn encI 1 3 kn (addTo s.burnt (gen0 gens sts t load).1 i)) (fun ⟨i, kn⟩ => sts.length - i) (0, hn) [hn] rfl ⟨by omega, jn⟩ (.c rfl (.base 0 rfl rfl)) ?_
    rintro ⟨i, kn⟩ ⟨hi, OB⟩ ih1
    dsimp only [lcA, lnA] at ih1 ⊢
    obtain ⟨al, aa⟩ := addTo_at (bs := s.burnt) (us := (gen0 gens sts t load).1) i (by omega)
    refine XK.seq (XK.region rfl ?_)
    refine XO.q (Q.lss rfl rfl) ?_
    refine XO.done (XK.seq ?_)
    refine XK.if rfl (fun c3 => ?_) (fun c3 => ?_)
    ·skip
     have ai := aa i
     rw [if_neg (by omega)] at ai
     have sb := so.b.b i (by omega)
     have ub := g0.1.b i (by omega)
     have cb := hca i (by omega)
     refine XK.skip (XK.seq (XK.block (XK.seq (XK.region rfl (XO.q (Q.move rfl) ?_)))))
     refine XO.ix rfl rfl (by omega) (by omega) fun i117 => ?_
     refine XO.q (Q.ldE rfl (by first | assumption | omega) rfl) ?_
     refine XO.q (Q.assign rfl) (XO.q (Q.assign rfl) (XO.done (XK.region rfl (XO.q (Q.move rfl) ?_))))
     refine XO.q (Q.nilCheck rfl) ?_
     refine XO.q (Q.fieldAddr rfl) ?_
     refine XO.q (Q.ld rfl rfl) ?_
     refine XO.q (Q.move rfl) ?_
     refine XO.ix rfl rfl (by omega) (by omega) fun i124 => ?_
     refine XO.q (Q.ldE rfl (by first | assumption | omega) rfl) ?_
     refine XO.q (Q.move rfl) ?_
     refine XO.q (Q.add rfl rfl ⟨by omega, by omega⟩) ?_
     refine XO.ix rfl rfl (by omega) (by omega) fun i128 => ?_
     refine XO.stE _ rfl rfl rfl (by assumption) rfl rfl fun h29_10 O29_10 => ?_
     refine XO.done ?_
     refine XK.inBlock ?_
     refine XK.region rfl ?_
     refine XO.q (Q.add rfl rfl ⟨by omega, by omega⟩) ?_
     refine XO.q (Q.move rfl) (XO.done ?_)
     exact ih1 (i + 1, h29_10) _ _ ⟨by dsimp only; omega, by dsimp only; exact O29_10⟩ (by first | omega | (dsimp only; omega)) (.c rfl (.base 37 rfl rfl)) inferInstance
    ·skip
     refine XK.exit rfl ?_
     refine XK.seq (XK.region rfl (XO.q (Q.move rfl) ?_))
     refine XO.q (Q.nilCheck rfl) ?_
     refine XO.q (Q.fieldAddr rfl) ?_
     refine XO.q (Q.ld rfl rfl) ?_
     refine XO.q (Q.move rfl) (XO.q (Q.move rfl) ?_)
     refine XO.q (Q.sub rfl rfl ⟨by omega, by omega⟩) ?_
     refine XO.q (Q.add rfl rfl ⟨by omega, by omega⟩) ?_
     refine XO.q (Q.nilCheck rfl) ?_
     refine XO.q (Q.fieldAddr rfl) ?_
     refine XO.st rfl rfl rfl ?_
     refine XO.done (XK.seq (XK.region rfl (XO.q (Q.move rfl) (XO.q (Q.assign rfl) (XO.done ?_)))))
     refine XK.rt [blk p [vb, vg, vs, vc, vn, .int .i64 (s.served + (load - (giveTo s.cells (gen0 gens sts t load).2 (s.cells.length)).2))] 282, kc, kn] Tryz.func132 Tryz.results132 (.t rfl .n) ?_
     have hil : i = sts.length := by omega
     subst hil
     have e : secondP gens sts t load strict s = ((give0 gens sts t load s).2, ⟨(give0 gens sts t load s).1, addTo s.burnt (gen0 gens sts t load).1 sts.length, s.served + (load - (give0 gens sts t load s).2)⟩) := by
      unfold secondP
      rw [if_pos c0, if_neg (by exact c2)]
     rw [e]
     exact ⟨vc, kc, kn, rfl, rfl, OG, OB⟩
 ·skip
  refine XK.seq (XK.region rfl (XO.q (Q.assign rfl) (XO.done (XK.seq (XK.seq ?_)))))
  refine XK.region rfl (XO.q (Q.move rfl) ?_)
  refine XO.q (Q.nilCheck rfl) ?_
  refine XO.q (Q.fieldAddr rfl) ?_
  refine XO.q (Q.ld rfl rfl) ?_
  refine XO.len rfl fun l70 => ?_
  refine XO.q (Q.move rfl) (XO.done (XK.block ?_))
  refine XK.while (X := Nat) [13, 14, 71, 72, 73, 74, 75, 76, 77, 78, 79, 80, 81, 82, 83, 84, 85] (fun i => [(13, some (.int .i64 (spareTo (canAt gens sts t) (gen0 gens sts t load).1 i))), (71, some (.int .i64 (i : Nat)))]) (fun i => []) (fun i => i ≤ sts.length) (fun i => sts.length - i) (0) [] rfl (by omega) (.c rfl (.c rfl (.base 0 rfl rfl))) ?_
  rintro i hi ih2
  dsimp only [lcA, lnA] at ih2 ⊢
  have spi := hsp i hi
  refine XK.seq (XK.region rfl ?_)
  refine XO.q (Q.lss rfl rfl) ?_
  refine XO.done (XK.seq ?_)
  refine XK.if rfl (fun c4 => ?_) (fun c4 => ?_)
  ·skip
   have ubi := g0.1.b i (by omega)
   have cbi := hca i (by omega)
   refine XK.skip (XK.seq (XK.block (XK.seq (XK.region rfl (XO.q (Q.move rfl) ?_)))))
   refine XO.q (Q.assign rfl) (XO.done ?_)
   refine XK.drawn [0, 1, 2, 3, 5, 6, 7, 8, 9, 10, 11] [] [k34] (.q 0 (.q 1 (.q 2 (.q 3 (.q 5 (.q 6 (.q 7 (.q 8 (.br 4 true (.q 9 (.q 10 (.q 11 .done))) .stop))))))))) Tryz.mixed rfl (by kernel_rfl) ?_
   refine XT.q rfl rfl (Q.move rfl) ?_
   refine XT.q rfl rfl (Q.move rfl) ?_
   refine XT.q rfl rfl (Q.move rfl) ?_
   refine XT.q rfl rfl (Q.move rfl) ?_
   refine XT.q rfl rfl (Q.move rfl) ?_
   refine XT.q rfl rfl (Q.move rfl) ?_
   refine XT.ix rfl rfl rfl rfl (by omega) (by omega) fun i81 => ?_
   refine XT.q rfl rfl (Q.ldE rfl (by first | assumption | omega) rfl) ?_
   refine XT.call rfl rfl Tryz.call179 rfl rfl rfl (can_spec p vb vg vs vc vn s.served gens sts pk hg hs i (by omega) t ht0 ht) (fun v78 s78 R78 => ?_) XT.stop
   obtain ⟨rfl, rfl⟩ := R78
   dsimp only [lcA, lnA]
   refine ⟨inferInstance, ?_⟩
   refine XT.q rfl rfl (Q.sub rfl rfl ⟨by omega, by omega⟩) ?_
   refine XT.q rfl rfl (Q.add rfl rfl ⟨by omega, by omega⟩) ?_
   refine XT.q rfl rfl (Q.assign rfl) ?_
   refine XT.done ?_
   refine XK.inBlock ?_
   refine XK.region rfl ?_
   refine XO.q (Q.add rfl rfl ⟨by omega, by omega⟩) ?_
   refine XO.q (Q.move rfl) (XO.done ?_)
   exact ih2 (i + 1) _ _ (by omega) (by first | omega | (dsimp only; omega)) (.c rfl (.c rfl (.base 36 rfl rfl))) inferInstance
  ·skip
   have hil : i = sts.length := by omega
   subst hil
   clear ih2
   refine XK.exit rfl ?_
   refine XK.seq (XK.region rfl (XO.q (Q.assign rfl) (XO.done (XK.seq (XK.seq ?_)))))
   refine XK.region rfl (XO.q (Q.move rfl) ?_)
   refine XO.q (Q.nilCheck rfl) ?_
   refine XO.q (Q.fieldAddr rfl) ?_
   refine XO.q (Q.ld rfl rfl) ?_
   refine XO.len rfl fun l90 => ?_
   refine XO.q (Q.move rfl) (XO.done (XK.block ?_))
   refine XK.while (X := Nat × PHeap) [15, 16, 91, 92, 93, 94, 95, 96, 97, 98, 99, 100, 101, 102, 103, 104, 105, 106] (fun ⟨i, kc⟩ => [(15, some (.int .i64 ((takeTo s.cells (spareTo (canAt gens sts t) (gen0 gens sts t load).1 sts.length) (i)).2))), (91, some (.int .i64 (i : Nat)))]) (fun ⟨i, kc⟩ => [kc]) (fun ⟨i, kc⟩ => i ≤ s.cells.length ∧ OArr vc encCell 5 329 kc (takeTo s.cells (spareTo (canAt gens sts t) (gen0 gens sts t load).1 sts.length) (i)).1) (fun ⟨i, kc⟩ => s.cells.length - i) (0, hc) [hc] rfl ⟨by omega, ic⟩ (.c rfl (.c rfl (.base 0 rfl rfl))) ?_
   rintro ⟨i, kc⟩ ⟨hi, OT⟩ ih3
   dsimp only [lcA, lnA] at ih3 ⊢
   have tki := htk i (by omega)
   have tkl := tki.1.len
   refine XK.seq (XK.region rfl ?_)
   refine XO.q (Q.lss rfl rfl) ?_
   refine XO.done (XK.seq ?_)
   refine XK.if rfl (fun c5 => ?_) (fun c5 => ?_)
   ·skip
    have tci := takeC_ok (tki.1.ok i (by omega)) (need := (spareTo (canAt gens sts t) (gen0 gens sts t load).1 sts.length) - (takeTo s.cells (spareTo (canAt gens sts t) (gen0 gens sts t load).1 sts.length) (i)).2) (by omega)
    refine XK.skip (XK.seq (XK.block (XK.seq (XK.region rfl (XO.q (Q.move rfl) ?_)))))
    refine XO.q (Q.assign rfl) (XO.done (XK.region rfl (XO.q (Q.move rfl) (XO.q (Q.move rfl) ?_))))
    refine XO.q (Q.nilCheck rfl) ?_
    refine XO.q (Q.fieldAddr rfl) ?_
    refine XO.q (Q.ld rfl rfl) ?_
    refine XO.q (Q.move rfl) ?_
    refine XO.ix rfl rfl (by omega) (by omega) fun i100 => ?_
    refine XO.q (Q.move rfl) (XO.q (Q.move rfl) ?_)
    refine XO.q (Q.sub rfl rfl ⟨by omega, by omega⟩) ?_
    refine XO.call Tryz.call180 rfl rfl rfl (take_spec vc kc (takeTo s.cells (spareTo (canAt gens sts t) (gen0 gens sts t load).1 sts.length) (i)).1 i (by omega) (tki.1.ok i (by omega)) ((spareTo (canAt gens sts t) (gen0 gens sts t load).1 sts.length) - (takeTo s.cells (spareTo (canAt gens sts t) (gen0 gens sts t load).1 sts.length) (i)).2) (by omega) (by omega)) fun v104 s104 R104 => ?_
    obtain ⟨k104, rfl, rfl, O104⟩ := R104
    dsimp only [lcA, lnA]
    refine XO.q (Q.add rfl rfl ⟨by omega, by omega⟩) ?_
    refine XO.q (Q.assign rfl) (XO.done ?_)
    refine XK.inBlock ?_
    refine XK.region rfl ?_
    refine XO.q (Q.add rfl rfl ⟨by omega, by omega⟩) ?_
    refine XO.q (Q.move rfl) (XO.done ?_)
    exact ih3 (i + 1, k104) _ _ ⟨by dsimp only; omega, by dsimp only; exact O104⟩ (by first | omega | (dsimp only; omega)) (.c rfl (.c rfl (.base 38 rfl rfl))) inferInstance
   ·skip
    have hil : i = s.cells.length := by omega
    subst hil
    clear ih3
    refine XK.exit rfl ?_
    refine XK.region rfl (XO.q (Q.move rfl) (XO.q (Q.move rfl) (XO.q (Q.move rfl) (XO.q (Q.move rfl) ?_))))
    refine XO.call Tryz.call177 rfl rfl rfl (generate1 p vb vg vs vc vn s.served gens sts pk hg hs t ht0 ht load hn0 hn1 so v29 k34) fun v111 s111 R111 => ?_
    obtain ⟨k111, rfl, rfl, O111⟩ := R111
    dsimp only [lcA, lnA]
    refine XO.done (XK.seq (XK.seq (XK.region rfl (XO.q (Q.move rfl) ?_))))
    refine XO.len rfl fun l113 => ?_
    refine XO.q (Q.move rfl) (XO.done (XK.block ?_))
    refine XK.while (X := Nat × PHeap) [17, 18, 114, 115, 116, 117, 118, 119, 120, 121, 122, 123, 124, 125, 126, 127, 128, 129] (fun ⟨i, kn⟩ => [(114, some (.int .i64 (i : Nat)))]) (fun ⟨i, kn⟩ => [kn]) (fun ⟨i, kn⟩ => i ≤ sts.length ∧ OArr vn encI 1 3 kn (addTo s.burnt (gen1 gens sts t load s).1 i)) (fun ⟨i, kn⟩ => sts.length - i) (0, hn) [hn] rfl ⟨by omega, jn⟩ (.c rfl (.base 0 rfl rfl)) ?_
    rintro ⟨i, kn⟩ ⟨hi, OB⟩ ih4
    dsimp only [lcA, lnA] at ih4 ⊢
    obtain ⟨al, aa⟩ := addTo_at (bs := s.burnt) (us := (gen1 gens sts t load s).1) i (by omega)
    refine XK.seq (XK.region rfl ?_)
    refine XO.q (Q.lss rfl rfl) ?_
    refine XO.done (XK.seq ?_)
    refine XK.if rfl (fun c6 => ?_) (fun c6 => ?_)
    ·skip
     have ai := aa i
     rw [if_neg (by omega)] at ai
     have sb := so.b.b i (by omega)
     have ub := g1.b i (by omega)
     have cb := hca i (by omega)
     refine XK.skip (XK.seq (XK.block (XK.seq (XK.region rfl (XO.q (Q.move rfl) ?_)))))
     refine XO.ix rfl rfl (by omega) (by omega) fun i117 => ?_
     refine XO.q (Q.ldE rfl (by first | assumption | omega) rfl) ?_
     refine XO.q (Q.assign rfl) (XO.q (Q.assign rfl) (XO.done (XK.region rfl (XO.q (Q.move rfl) ?_))))
     refine XO.q (Q.nilCheck rfl) ?_
     refine XO.q (Q.fieldAddr rfl) ?_
     refine XO.q (Q.ld rfl rfl) ?_
     refine XO.q (Q.move rfl) ?_
     refine XO.ix rfl rfl (by omega) (by omega) fun i124 => ?_
     refine XO.q (Q.ldE rfl (by first | assumption | omega) rfl) ?_
     refine XO.q (Q.move rfl) ?_
     refine XO.q (Q.add rfl rfl ⟨by omega, by omega⟩) ?_
     refine XO.ix rfl rfl (by omega) (by omega) fun i128 => ?_
     refine XO.stE _ rfl rfl rfl (by assumption) rfl rfl fun h29_10 O29_10 => ?_
     refine XO.done ?_
     refine XK.inBlock ?_
     refine XK.region rfl ?_
     refine XO.q (Q.add rfl rfl ⟨by omega, by omega⟩) ?_
     refine XO.q (Q.move rfl) (XO.done ?_)
     exact ih4 (i + 1, h29_10) _ _ ⟨by dsimp only; omega, by dsimp only; exact O29_10⟩ (by first | omega | (dsimp only; omega)) (.c rfl (.base 37 rfl rfl)) inferInstance
    ·skip
     refine XK.exit rfl ?_
     refine XK.seq (XK.region rfl (XO.q (Q.move rfl) ?_))
     refine XO.q (Q.nilCheck rfl) ?_
     refine XO.q (Q.fieldAddr rfl) ?_
     refine XO.q (Q.ld rfl rfl) ?_
     refine XO.q (Q.move rfl) (XO.q (Q.move rfl) ?_)
     refine XO.q (Q.sub rfl rfl ⟨by omega, by omega⟩) ?_
     refine XO.q (Q.add rfl rfl ⟨by omega, by omega⟩) ?_
     refine XO.q (Q.nilCheck rfl) ?_
     refine XO.q (Q.fieldAddr rfl) ?_
     refine XO.st rfl rfl rfl ?_
     refine XO.done (XK.seq (XK.region rfl (XO.q (Q.move rfl) (XO.q (Q.assign rfl) (XO.done ?_)))))
     refine XK.rt [blk p [vb, vg, vs, vc, vn, .int .i64 (s.served + (load - (gen0 gens sts t load).2))] 282, kc, kn] Tryz.func132 Tryz.results132 (.t rfl .n) ?_
     have hil : i = sts.length := by omega
     subst hil
     have e : secondP gens sts t load strict s = ((gen0 gens sts t load).2, ⟨(take0 gens sts t load s).1, addTo s.burnt (gen1 gens sts t load s).1 sts.length, s.served + (load - (gen0 gens sts t load).2)⟩) := by
      unfold secondP
      rw [if_neg c0]
     rw [e]
     exact ⟨vc, kc, kn, rfl, rfl, OT, OB⟩
end Go.X.Bk

set_option linter.unusedSimpArgs false
set_option linter.unusedVariables false
set_option maxRecDepth 20000
namespace Go.X.Bk
open Go.Proofs
def secItems (pw : List Int) : List (List Value) := (List.range pw.length).map (fun k => [.int .i64 (k : Nat), .int .i64 (pw.getD k default)])
theorem secItems_len (pw : List Int) : (secItems pw).length = pw.length := by simp [secItems]
theorem secItems_at {pw : List Int} {i : Nat} (hi : i < pw.length) : (secItems pw).getD i [] = [.int .i64 (i : Nat), .int .i64 (pw.getD i default)] := by
 rw [List.getD_eq_getElem?_getD, secItems, List.getElem?_map, List.getElem?_range hi]; rfl
theorem secItems_two {pw : List Int} : ∀ i, i < (secItems pw).length → ((secItems pw).getD i []).length = 2 := fun i hi => by
 rw [secItems_len] at hi
 rw [secItems_at hi]; rfl
theorem seconds1 (b : Nat) (l : List BSpan) (vl : Value) (hl : PHeap) [il : Arr vl encSpan 2 hl l] (lk : LOk l) : It Tryz.prog (.func (.func 181) #[] #[ptr b 0]) (secItems (powers l)) [blk b [vl] 105, hl] := by
 intro f Hr QQ XX hy q hq
 refine VSpec.fn (P := Tryz.prog) (g := 181) (fst := []) (vs := [f]) (cap := [ptr b 0]) (A := [f, ptr b 0]) (Hm := [q]) Tryz.call181 rfl ?_
 dsimp only [lcA, lnA]
 rw [secItems_len] at *
 have ll := il.le
 have hpl := powers_len lk
 have ln := lk.n
 have hca := cnt_all l
 have hcall : ∀ i j : Nat, i < l.length → (j : Int) < (l.getD i default).seconds → ∀ q, QQ (cnt l i + j) q →
   VSpec Tryz.prog f [.int .i64 ((cnt l i + j : Nat) : Int), .int .i64 (l.getD i default).power] [q] Hr (fun v hs => ∃ bb q', v = .bool bb ∧ hs = [q'] ∧ (bb = true → QQ (cnt l i + j + 1) q') ∧ (bb = false → XX q')) := by
  intro i j hi hj q hq
  obtain ⟨h1, h2⟩ := powers_at l hi hj
  have := hy _ h1 q hq
  rwa [secItems_at h1, h2] at this
 refine Spec.intro (fn := Tryz.f181) (N := 26) Tryz.func181 rfl Tryz.ntmps181 rfl fun B => ?_
 refine XK.seq (XK.region rfl (XO.q (Q.assign rfl) (XO.done (XK.seq (XK.region rfl ?_)))))
 refine XO.q (Q.ld rfl rfl) ?_
 refine XO.len rfl fun l7 => ?_
 refine XO.q (Q.move rfl) (XO.done (XK.block ?_))
 refine XK.while (X := Nat × PHeap) [3, 5, 8, 9, 10, 11, 12, 13, 14, 15, 16, 17, 18, 19, 20, 21, 22, 23, 24, 25] (fun ⟨i, q1⟩ => [(3, some (.int .i64 ((cnt l i : Nat) : Int))), (8, some (.int .i64 (i : Nat)))]) (fun ⟨i, q1⟩ => [q1]) (fun ⟨i, q1⟩ => i ≤ l.length ∧ QQ (cnt l i) q1) (fun ⟨i, q1⟩ => l.length - i) (0, q) [q] rfl ⟨by omega, hq⟩ (.c rfl (.c rfl (.base 0 rfl rfl))) ?_
 rintro ⟨i, q1⟩ ⟨hi, hQ⟩ ih0
 dsimp only [lcA, lnA] at ih0 ⊢
 refine XK.seq (XK.region rfl ?_)
 refine XO.q (Q.lss rfl rfl) ?_
 refine XO.done (XK.seq ?_)
 refine XK.if rfl (fun c0 => ?_) (fun c0 => ?_)
 ·skip
  have sk := lk.s _ (getD_memB (show i < l.length by omega))
  refine XK.skip (XK.seq (XK.block (XK.seq (XK.region rfl ?_))))
  refine XO.ix rfl rfl (by omega) (by omega) fun i10 => ?_
  refine XO.q (Q.ldEA [_, _] rfl (by first | assumption | omega) rfl rfl) ?_
  refine XO.alloc fun b5 => ?_
  refine XO.st rfl rfl rfl ?_
  refine XO.done (XK.seq (XK.region rfl ?_))
  refine XO.q (Q.fieldAddr rfl) ?_
  refine XO.q (Q.ld rfl rfl) ?_
  refine XO.q (Q.move rfl) (XO.done (XK.block ?_))
  refine XK.while (X := Nat × PHeap) [3, 14, 15, 16, 17, 18, 19, 20, 21, 22, 23, 24] (fun ⟨j, q2⟩ => [(3, some (.int .i64 ((cnt l i + j : Nat) : Int))), (14, some (.int .i64 (j : Nat)))]) (fun ⟨j, q2⟩ => [q2]) (fun ⟨j, q2⟩ => (j : Int) ≤ (l.getD i default).seconds ∧ QQ (cnt l i + j) q2) (fun ⟨j, q2⟩ => (l.getD i default).seconds.toNat - j) (0, q1) [q1] rfl ⟨by omega, hQ⟩ (.c rfl (.c rfl (.base 0 rfl rfl))) ?_
  rintro ⟨j, q2⟩ ⟨hj, hQ2⟩ ih1
  dsimp only [lcA, lnA] at ih1 ⊢
  refine XK.seq (XK.region rfl ?_)
  refine XO.q (Q.lss rfl rfl) ?_
  refine XO.done (XK.seq ?_)
  refine XK.if rfl (fun c1 => ?_) (fun c1 => ?_)
  ·skip
   obtain ⟨hp1, hp2⟩ := powers_at l (i := i) (j := j) (by omega) (by omega)
   refine XK.skip (XK.seq (XK.block (XK.seq (XK.seq (XK.region rfl ?_)))))
   refine XO.q (Q.move rfl) (XO.q (Q.move rfl) ?_)
   refine XO.q (Q.fieldAddr rfl) ?_
   refine XO.q (Q.ld rfl rfl) ?_
   refine XO.vcall rfl rfl (hcall i j (by omega) (by omega) q2 hQ2) fun v20 s20 R20 => ?_
   obtain ⟨bb, q3, rfl, rfl, hT, hF⟩ := R20
   dsimp only [lcA, lnA]
   refine XO.q (Q.not rfl) ?_
   refine XO.done ?_
   refine XK.if rfl (fun c2 => ?_) (fun c2 => ?_)
   ·skip
    refine XK.rt [q3] Tryz.func181 Tryz.results181 (.n) ?_
    exact ⟨q3, rfl, .inr (hF (by cases bb <;> simp_all))⟩
   ·skip
    refine XK.skip (XK.region rfl (XO.q (Q.move rfl) ?_))
    refine XO.q (Q.add rfl rfl ⟨by omega, by omega⟩) ?_
    rw [show ((cnt l i + j : Nat) : Int) + 1 = ((cnt l i + j + 1 : Nat) : Int) from rfl]
    refine XO.q (Q.assign rfl) (XO.done ?_)
    refine XK.inBlock ?_
    refine XK.region rfl ?_
    refine XO.q (Q.add rfl rfl ⟨by omega, by omega⟩) ?_
    refine XO.q (Q.move rfl) (XO.done ?_)
    exact ih1 (j + 1, q3) _ _ ⟨by dsimp only; omega, hT (by cases bb <;> simp_all)⟩ (by dsimp only; omega) (.c rfl (.c rfl (.base 26 rfl rfl))) inferInstance
  ·skip
   refine XK.exit rfl ?_
   refine XK.inBlock ?_
   refine XK.region rfl ?_
   refine XO.q (Q.add rfl rfl ⟨by omega, by omega⟩) ?_
   refine XO.q (Q.move rfl) (XO.done ?_)
   have hjn : cnt l i + j = cnt l (i + 1) := by rw [cnt]; omega
   rw [hjn] at hQ2 ⊢
   exact ih0 (i + 1, q2) _ _ ⟨by dsimp only; omega, hQ2⟩ (by first | omega | (dsimp only; omega)) (.c rfl (.c rfl (.base 46 rfl rfl))) inferInstance
 ·skip
  refine XK.exit rfl ?_
  refine XK.fn [q1] Tryz.func181 Tryz.results181 (.n) ?_
  have hil : i = l.length := by omega
  subst hil
  rw [hca] at hQ
  exact ⟨q1, rfl, .inl hQ⟩
theorem seconds_spec (vl : Value) [ol : One vl] : Spec Tryz.prog 133 #[vl] [] [] (fun v hs => ∃ b, v = .func (.func 181) #[] #[ptr b 0] ∧ hs = [blk b [vl] 105]) := by
 refine Spec.intro (fn := Tryz.f133) (N := 4) Tryz.func133 rfl Tryz.ntmps133 rfl fun B => ?_
 refine XK.seq (XK.region rfl ?_)
 refine XO.box rfl fun b1 => ?_
 refine XO.q (Q.assign rfl) (XO.done (XK.seq (XK.region rfl ?_)))
 refine XO.q (Q.func (fun _ he => rfl) (fun _ he => evs_rel he rfl)) ?_
 refine XO.q (Q.assign rfl) (XO.done ?_)
 refine XK.rt [blk b1 [vl] 105] Tryz.func133 Tryz.results133 (.t rfl .n) ?_
 exact ⟨b1, rfl, rfl⟩
abbrev resV (r : BRes) (ve vn : Value) : Value := .agg #[.int .i64 r.dark, ve, vn, .int .i64 r.served]
theorem dark_second {gens : List BGen} {sts : List Int} {t load : Int} {s : BSt} (h : 0 < (secondP gens sts t load true s).1) : (secondP gens sts t load true s).2 = s := by
 unfold secondP at h ⊢
 split
 ·rename_i h1
  rw [if_pos h1] at h
  split
  ·rfl
  ·rename_i h2
   rw [if_neg h2] at h
   exact absurd ⟨h, rfl⟩ h2
 ·rename_i h1
  rw [if_neg h1] at h
  exact absurd h h1
set_option maxHeartbeats 1000000 in
theorem run_nil (b : BBank) (vb vg : Value) (hb hg : PHeap) [ib : Arr vb encBat 4 hb b.bats] [ig : Arr vg encGen 5 hg b.gens] (l : List BSpan) (vl : Value) (hl : PHeap) [il : Arr vl encSpan 2 hl l] (fs : List Int) (vf : Value) (hf : PHeap) [jf : Arr vf encI 1 hf fs] (ok : BOk b) (lk : LOk l) (fk : FOk b fs) : Spec Tryz.prog 76 #[.agg #[vb, vg], vl, vf, .nilFunc] [] [hb, hg, hl, hf]
  (fun v hs => ∃ ve vn ke kn, v = resV (runP b (powers l) fs) ve vn ∧ hs = [ke, kn] ∧ OArr ve encI 1 3 ke (runP b (powers l) fs).energy ∧ OArr vn encI 1 3 kn (runP b (powers l) fs).burnt) := by
 have ln := lk.n
 have hpw := pwOk lk
 have pk := playOk ok fk
 have b0 := begun_ok ok fk
 have hst : ∀ i, i ≤ (powers l).length → StOk (startsP b fs) b.bats.length i (stateP b (powers l) fs true i) := fun i hi => playTo_ok pk hpw b0 true i hi
 have hla := fun i hi => lackAt_ok (i := i) pk hpw b0 true hi
 have hn2 := hpw.n
 have n8 := ok.nb
 refine Spec.intro (fn := Tryz.f76) (N := 47) Tryz.func76 rfl Tryz.ntmps76 rfl fun B => ?_
 refine XK.seq (XK.region rfl ?_)
 refine XO.box rfl fun b4 => ?_
 refine XO.box rfl fun b7 => ?_
 refine XO.alloc fun b8 => ?_
 refine XO.done (XK.seq (XK.region rfl ?_))
 refine XO.q (Q.ldA [_, _] rfl rfl rfl) ?_
 refine XO.q (Q.move rfl) ?_
 refine XO.call Tryz.call131 rfl rfl rfl (begin_spec b vb vg hb hg fs vf hf ok fk) fun v16 s16 R16 => ?_
 obtain ⟨p, vs, vc, vn, ks, kc, kn, rfl, rfl, OS, OC, ON⟩ := R16
 dsimp only [lcA, lnA]
 refine XO.alloc fun b9 => ?_
 refine XO.st rfl rfl rfl ?_
 refine XO.done (XK.seq (XK.region rfl ?_))
 refine XO.alloc fun b10 => ?_
 refine XO.st rfl rfl rfl ?_
 refine XO.done (XK.seq (XK.region rfl ?_))
 refine XO.q (Q.ld rfl rfl) ?_
 refine XO.q (Q.func (fun _ he => evs_rel he rfl) (fun _ he => rfl)) ?_
 refine XO.alloc fun b11 => ?_
 refine XO.st rfl rfl rfl ?_
 refine XO.done (XK.seq (XK.seq (XK.region rfl (XO.q (Q.move rfl) ?_))))
 refine XO.call Tryz.call133 rfl rfl rfl (seconds_spec vl) fun v20 s20 R20 => ?_
 obtain ⟨bs, rfl, rfl⟩ := R20
 dsimp only [lcA, lnA]
 refine XO.done (XK.block ?_)
 refine XK.range (X := Nat × Value × PHeap × PHeap × Int) (ps := [21, 22]) (secItems (powers l)) (fun ⟨m, vc1, kc1, kn1, dk⟩ => [blk p [vb, vg, vs, vc1, vn, .int .i64 (stateP b (powers l) fs true (m)).served] 282, kc1, kn1, blk b10 [.int .i64 dk] 3]) (fun i ⟨m, vc1, kc1, kn1, dk⟩ => m = i ∧ m ≤ (powers l).length ∧ dk = -1 ∧ OArr vc1 encCell 5 329 kc1 (stateP b (powers l) fs true (m)).cells ∧ OArr vn encI 1 3 kn1 (stateP b (powers l) fs true (m)).burnt ∧ (∀ j, j < m → isDark b (powers l) fs j = false)) (fun j0 ⟨m, vc1, kc1, kn1, dk⟩ => j0 = Code.exit 0 ∧ m < (powers l).length ∧ dk = m ∧ isDark b (powers l) fs m = true ∧ OArr vc1 encCell 5 329 kc1 (stateP b (powers l) fs true (m)).cells ∧ OArr vn encI 1 3 kn1 (stateP b (powers l) fs true (m)).burnt ∧ (∀ j, j < m → isDark b (powers l) fs j = false)) (0, vc, kc, kn, -1) [blk p [vb, vg, vs, vc, vn, .int .i64 0] 282, kc, kn, blk b10 [.int .i64 (-1)] 3] rfl ⟨rfl, by omega, rfl, OC, ON, fun j hj => by omega⟩ rfl (seconds1 bs l vl hl lk) rfl (secItems_two) ?_ ?_ ?_
 ·rintro lq rec B' i ⟨m, vc1, kc1, kn1, dk⟩ hi ⟨hmi, hm, hdk, C1, N1, D1⟩
  dsimp only [lcA, lnA]
  rw [secItems_len] at hi
  subst hmi
  subst hdk
  rw [secItems_at hi]
  dsimp only [pars]
  refine XK.seq (XK.region rfl (XO.q (Q.assign rfl) (XO.done (XK.region rfl (XO.q (Q.assign rfl) ?_)))))
  refine XO.done ?_
  refine XK.beginRound ?_
  refine XK.block (XK.seq (XK.seq (XK.region rfl ?_)))
  refine XO.q (Q.ld rfl rfl) ?_
  refine XO.q (Q.move rfl) (XO.q (Q.move rfl) ?_)
  refine XO.vcall rfl rfl (VSpec.fn (fst := [ptr p 0]) (cap := []) Tryz.call132 rfl (second_spec p vb vg vs vc1 vn b.gens (startsP b fs) pk hg ks (stateP b (powers l) fs true (m)) kc1 kn1 (hst m (by omega)) (by omega) ((m : Nat) : Int) (by omega) (by omega) ((powers l).getD m default) (hpw.p m (by omega)).1 (hpw.p m (by omega)).2 true)) fun v26 s26 R26 => ?_
  obtain ⟨vc2, kc2, kn2, rfl, rfl, C2, N2⟩ := R26
  dsimp only [lcA, lnA]
  have hd : isDark b (powers l) fs m = decide (0 < (secondP b.gens (startsP b fs) ((m : Nat) : Int) ((powers l).getD m default) true (stateP b (powers l) fs true (m))).1) := rfl
  have es : (secondP b.gens (startsP b fs) ((m : Nat) : Int) ((powers l).getD m default) true (stateP b (powers l) fs true (m))).2 = (stateP b (powers l) fs true (m + 1)) := rfl
  rw [es] at C2 N2 ⊢
  refine XO.q (Q.gtr rfl rfl) ?_
  refine XO.done ?_
  refine XK.if rfl (fun c0 => ?_) (fun c0 => ?_)
  ·skip
   refine XK.seq (XK.region rfl (XO.q (Q.move rfl) ?_))
   refine XO.st rfl rfl rfl ?_
   refine XO.done ?_
   have e : (stateP b (powers l) fs true (m + 1)) = (stateP b (powers l) fs true (m)) := dark_second c0
   rw [e] at C2 N2 ⊢
   exact XK.leave (j := some (.exit 0)) [blk p [vb, vg, vs, vc2, vn, .int .i64 (stateP b (powers l) fs true (m)).served] 282, kc2, kn2, blk b10 [.int .i64 ((m : Nat) : Int)] 3] ⟨rfl, rfl⟩ ⟨(m, vc2, kc2, kn2, (m : Int)), ⟨rfl, hi, rfl, by rw [hd]; exact decide_eq_true c0, C2, N2, D1⟩, rfl⟩
  ·skip
   refine XK.skip (XK.seq (XK.region rfl ?_))
   refine XO.q (Q.ld rfl rfl) ?_
   refine XO.q (Q.neqNilN rfl) ?_
   refine XO.done ?_
   refine XK.if rfl (fun c1 => ?_) (fun c1 => ?_)
   ·skip
    simp at c1
   ·skip
    refine XK.skip ?_
    refine XK.inBlock ?_
    exact XK.leave (j := none) [blk p [vb, vg, vs, vc2, vn, .int .i64 (stateP b (powers l) fs true (m + 1)).served] 282, kc2, kn2, blk b10 [.int .i64 (-1)] 3] trivial ⟨(m + 1, vc2, kc2, kn2, -1), ⟨rfl, by dsimp only; omega, rfl, C2, N2, fun j hj => (by rcases Nat.lt_or_ge j m with h3 | h3; exact D1 j h3; rw [show j = m by dsimp only at hj; omega, hd]; exact decide_eq_false c0)⟩, rfl⟩
 ·rintro ⟨m, vc1, kc1, kn1, dk⟩ ⟨hmi, hm, hdk, C1, N1, D1⟩
  dsimp only [lcA, lnA]
  rw [secItems_len] at hmi
  subst hdk
  refine XK.inBlock ?_
  refine XK.seq ?_
  refine XK.drawn [0, 1, 3, 4, 5, 6, 7, 8, 9, 10, 11] [b9, b10, p] [] (.q 0 (.q 1 (.q 3 (.q 4 (.q 5 (.q 6 (.q 7 (.q 8 (.q 9 (.q 10 (.br 2 true (.q 11 (.br 12 false .done .stop)) .stop))))))))))) Tryz.mixed rfl (by kernel_rfl) ?_
  refine XT.q rfl rfl (Q.ld rfl rfl) ?_
  refine XT.q rfl rfl (Q.ld rfl rfl) ?_
  refine XT.q rfl rfl (Q.ld rfl rfl) ?_
  refine XT.q rfl rfl (Q.nilCheck rfl) ?_
  refine XT.q rfl rfl (Q.fieldAddr rfl) ?_
  refine XT.q rfl rfl (Q.ld rfl rfl) ?_
  refine XT.q rfl rfl (Q.ld rfl rfl) ?_
  refine XT.q rfl rfl (Q.nilCheck rfl) ?_
  refine XT.q rfl rfl (Q.fieldAddr rfl) ?_
  refine XT.q rfl rfl (Q.ld rfl rfl) ?_
  refine XT.call rfl rfl Tryz.call134 rfl rfl rfl (energies_spec p vb vg vs vc1 vn (stateP b (powers l) fs true (m)).served kc1 (stateP b (powers l) fs true (m)).cells (by rw [(hst (m) (by omega)).c.len]; exact n8)) (fun v37 s37 R37 => ?_) XT.stop
  obtain ⟨k37, rfl, O37⟩ := R37
  dsimp only [lcA, lnA]
  refine ⟨inferInstance, ?_⟩
  refine XT.q rfl rfl (Q.build [_, _, _, _] (.c 0 1 rfl rfl rfl (.c 1 1 rfl rfl rfl (.c 2 1 rfl rfl rfl (.c 3 1 rfl rfl rfl (.n _)))))) ?_
  refine XT.st rfl rfl rfl rfl rfl ⟨inferInstance, ?_⟩ XT.stop
  refine XT.done ?_
  refine XK.rt [k37, kn1] Tryz.func76 Tryz.results76 (.cell [_, _, _, _] rfl rfl rfl (.n)) ?_
  subst hmi
  obtain ⟨er, ee⟩ := run_never D1
  rw [er]
  exact ⟨v37, vn, k37, kn1, rfl, rfl, O37, N1⟩
 ·rintro _ ⟨m, vc1, kc1, kn1, dk⟩ ⟨rfl, hm, hdk, hdm, C1, N1, D1⟩
  dsimp only [lcA, lnA]
  subst hdk
  refine XK.exit rfl ?_
  refine XK.seq ?_
  refine XK.drawn [0, 1, 3, 4, 5, 6, 7, 8, 9, 10, 11] [b9, b10, p] [] (.q 0 (.q 1 (.q 3 (.q 4 (.q 5 (.q 6 (.q 7 (.q 8 (.q 9 (.q 10 (.br 2 true (.q 11 (.br 12 false .done .stop)) .stop))))))))))) Tryz.mixed rfl (by kernel_rfl) ?_
  refine XT.q rfl rfl (Q.ld rfl rfl) ?_
  refine XT.q rfl rfl (Q.ld rfl rfl) ?_
  refine XT.q rfl rfl (Q.ld rfl rfl) ?_
  refine XT.q rfl rfl (Q.nilCheck rfl) ?_
  refine XT.q rfl rfl (Q.fieldAddr rfl) ?_
  refine XT.q rfl rfl (Q.ld rfl rfl) ?_
  refine XT.q rfl rfl (Q.ld rfl rfl) ?_
  refine XT.q rfl rfl (Q.nilCheck rfl) ?_
  refine XT.q rfl rfl (Q.fieldAddr rfl) ?_
  refine XT.q rfl rfl (Q.ld rfl rfl) ?_
  refine XT.call rfl rfl Tryz.call134 rfl rfl rfl (energies_spec p vb vg vs vc1 vn (stateP b (powers l) fs true (m)).served kc1 (stateP b (powers l) fs true (m)).cells (by rw [(hst (m) (by omega)).c.len]; exact n8)) (fun v37 s37 R37 => ?_) XT.stop
  obtain ⟨k37, rfl, O37⟩ := R37
  dsimp only [lcA, lnA]
  refine ⟨inferInstance, ?_⟩
  refine XT.q rfl rfl (Q.build [_, _, _, _] (.c 0 1 rfl rfl rfl (.c 1 1 rfl rfl rfl (.c 2 1 rfl rfl rfl (.c 3 1 rfl rfl rfl (.n _)))))) ?_
  refine XT.st rfl rfl rfl rfl rfl ⟨inferInstance, ?_⟩ XT.stop
  refine XT.done ?_
  refine XK.rt [k37, kn1] Tryz.func76 Tryz.results76 (.cell [_, _, _, _] rfl rfl rfl (.n)) ?_
  obtain ⟨er, ee⟩ := run_here hm D1 hdm
  rw [er]
  exact ⟨v37, vn, k37, kn1, rfl, rfl, O37, N1⟩
end Go.X.Bk
