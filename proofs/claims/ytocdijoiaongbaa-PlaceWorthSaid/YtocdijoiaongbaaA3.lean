/- A part of the proof: a small program logic, plain laws and contracts of functions, each proved by a walk through its operations. No condition but those that stand in each theorem. -/
import Derived.Test.YtocdijoiaongbaaA2
import Derived.KernelRfl
import Derived.Test.YtocdijoiaongbaaProg
/- Iterators over what has no order: each of n things once; loops over them. No condition. -/
set_option linter.unusedSimpArgs false
set_option linter.unusedVariables false
namespace Go.X
/-- It yields n things, each once, in any order. -/
def ItM (P : Program) (y : Value) (n : Nat) (Y : Nat → List Value) (Hg : List PHeap) : Prop :=
  ∀ (f : Value) (Hr : List PHeap) (Q : List Nat → PHeap → Prop) (X : PHeap → Prop),
    (∀ seen i, i < n → ¬ i ∈ seen → ∀ q, Q seen q → VSpec P f (Y i) [q] Hr (fun v hs => ∃ b q', v = .bool b ∧ hs = [q'] ∧ (b = true → Q (seen ++ [i]) q') ∧ (b = false → X q'))) →
    ∀ q, Q [] q → VSpec P y [f] [q] (Hg ++ Hr) (fun _ hs => ∃ q', hs = [q'] ∧ ((∃ seen, seen.Nodup ∧ (∀ i, i ∈ seen ↔ i < n) ∧ Q seen q') ∨ X q'))
/-- A loop over a function in a frame that is no round. 'I i x': ahead of item i; 'J j x': a round has left the loop by the jump j. -/
theorem XK.rangeM {P : Program} {f : FuncId} {N : Nat} {B : PHeap} {E : Frame → World → Prop} {X : Type} {k : List Item} {e : Env} {o ok r : List PHeap} {x : Operand} {y : Value} {ps : List Tmp} {asn bd : Code} {Hg : List PHeap} {n : Nat} (Y : Nat → List Value)
    (oc : X → List PHeap) (I : List Nat → X → Prop) (J : Code → X → Prop) (x0 : X) (o0 : List PHeap) [rst : Rest o0 o ok] (ho0 : oc x0 = o0) (h0 : I [] x0) (hx : ev e x = some y)
    (hit : ItM P y n Y Hg) [al : AllIn Hg ok (B :: r)] (hps : ps.all (fun p => Nat.blt p N) = true) (hlen : ∀ i, i < n → (Y i).length = ps.length)
    (round : ∀ l rec B' seen i x, i < n → ¬ i ∈ seen → I seen x → XK (rcx P f N l rec B' (RoundR oc (I (seen ++ [i])) J)) [.code asn, .beginRound, .code bd] (pars ps (Y i) e) (rdy l rec :: oc x) (ok ++ r))
    (cont : ∀ x seen, seen.Nodup → (∀ i, i ∈ seen ↔ i < n) → I seen x → XK ⟨P, f, none, N, B, E⟩ k e (oc x ++ ok) r)
    (jump : ∀ j x, J j x → XK ⟨P, f, none, N, B, E⟩ (.code j :: k) e (oc x ++ ok) r) :
    XK ⟨P, f, none, N, B, E⟩ (.code (.rangeFunc x ps.toArray asn bd) :: k) e o r := fun D ds a w cs ha he hD hm => by
  have hm1 : Sep (D :: (o0 ++ ok)) (B :: r) w := rst.wk.sepD hm
  let rec' : Loop := { state := .ready, pending := none, fn := f, tmps := a, params := ps.toArray, assign := asn, body := bd, defers := w.heap.size }
  let l := w.heap.size + 1
  let w1 := (w.alloc (.deferred (some []))).alloc (.loop rec')
  have henter : (Instr.enterLoop f a ps.toArray asn bd none).run P w = .ok (l, [{ target := .collected w.heap.size, args := #[] }]) w1 := run_enterLoop_outer f a ps.toArray asn bd
  have hs1 : Sep (rdy l rec' :: sing w.heap.size (.deferred (some [])) :: D :: (o0 ++ ok)) (B :: r) w1 := by
    have := (hm1.push (.deferred (some []))).push (.loop rec')
    simp only [Array.size_push] at this
    exact this
  let D' := Go.X.join [sing w.heap.size (.deferred (some [])), D]
  have hs2 : Sep (D' :: rdy l rec' :: (o0 ++ ok)) (B :: r) w1 := by
    refine Sep.join (hs := [sing w.heap.size (.deferred (some [])), D]) (hs1.perm ?_)
    exact (List.Perm.swap _ _ _).trans ((List.Perm.swap _ _ _).cons _)
  have hD' : Marked D' (w.heap.size :: ds) := by
    refine ⟨List.nodup_cons.2 ⟨fun hmem => ?_, hD.1⟩, fun b => ?_⟩
    · have := sub_lt (hm.so D List.mem_cons_self) (b := w.heap.size) (o := .deferred (some [])) (by rw [hD.2, if_pos hmem])
      omega
    · simp only [D', Go.X.join, sing, emp, Option.or_none, hD.2 b, List.mem_cons]
      by_cases hb : b = w.heap.size
      · simp [hb]
      · simp [hb]
  have hs3 : Sep (Go.X.join (rdy l rec' :: o0) :: D' :: ok) (B :: r) w1 := Sep.join (hs := rdy l rec' :: o0) (hs2.perm (by
    simp only [List.cons_append]
    exact (List.Perm.swap _ _ _).trans (List.perm_middle.symm.cons _)))
  have hp0 : PD (rdy l rec' :: oc x0) := by
    rw [ho0]
    have hsub : (rdy l rec' :: o0).Sublist (rdy l rec' :: (o0 ++ ok)) := List.Sublist.cons_cons _ (List.sublist_append_left _ _)
    exact ⟨hs2.tail.pw.sublist hsub, fun h hh => hs2.tail.no h (hsub.mem hh)⟩
  have hpsN : ∀ p ∈ ps, p < N := fun p hp => by
    have := List.all_eq_true.1 hps p hp
    rwa [Nat.blt_eq] at this
  have hyield : ∀ seen i, i < n → ¬ i ∈ seen → ∀ q, (∃ x, I seen x ∧ PD (rdy l rec' :: oc x) ∧ q = Go.X.join (rdy l rec' :: oc x)) →
      VSpec P (.func (.yield l) #[] #[]) (Y i) [q] (ok ++ r) (fun v hs => ∃ b q', v = .bool b ∧ hs = [q'] ∧
        (b = true → ∃ x, I (seen ++ [i]) x ∧ PD (rdy l rec' :: oc x) ∧ q' = Go.X.join (rdy l rec' :: oc x)) ∧
        (b = false → ∃ j x, J j x ∧ PD (ovr l rec' (some j) :: oc x) ∧ q' = Go.X.join (ovr l rec' (some j) :: oc x))) := by
    rintro seen i hi hns q ⟨x, hI, hp, rfl⟩
    refine ((VSpec.round (rec := rec') (N := N) (e := e) rfl ha he hpsN (hlen i hi) (fun B' => round l rec' B' seen i x hi hns hI)).joined hp).mono ?_
    rintro v hs ⟨hs', ⟨j, hs'', rfl, rfl, hR⟩, hpw, rfl⟩
    refine ⟨_, _, rfl, rfl, ?_, ?_⟩
    · intro hj
      cases j with
      | some j => cases hj
      | none =>
        obtain ⟨x', h1, rfl⟩ := hR
        exact ⟨x', h1, hpw, rfl⟩
    · intro hj
      cases j with
      | none => cases hj
      | some j =>
        obtain ⟨x', h1, rfl⟩ := hR
        exact ⟨j, x', h1, hpw, rfl⟩
  have hN := hit _ (ok ++ r) _ _ hyield (Go.X.join (rdy l rec' :: o0)) ⟨x0, h0, hp0, by rw [ho0]⟩ (D' :: ok) (B :: r) w1 hs3 (fun h hh => by
    rcases List.mem_append.1 hh with hh | hh
    · exact orMap (al.pf h hh) (List.mem_cons_of_mem _) id
    · rcases List.mem_append.1 hh with hh | hh
      · exact .inl (List.mem_cons_of_mem _ hh)
      · exact .inr (List.mem_cons_of_mem _ hh))
  obtain ⟨v, w', ⟨hs', ⟨q', rfl, hq⟩, hS⟩, st⟩ := step_range (ds := marks ds) (k := k) (cs := cs) henter (ev_rel he hx) hN
  rcases hq with ⟨seen, hnd, hall, x', hI, hpw, rfl⟩ | ⟨j, x', hJ, hpw, rfl⟩
  · obtain ⟨hS2, hb⟩ := Sep.turn (y := .loop { rec' with state := .exhausted, pending := none }) (Sep.split hpw hS)
    obtain ⟨fr, w2, hE, st2⟩ := cont x' seen hnd hall hI D' (w.heap.size :: ds) a _ cs ha he hD' (hS2.tail.perm List.perm_middle)
    exact ⟨fr, w2, hE, Steps.trans st (.head (step_endRange (run_endLoop hb (by simp))) st2)⟩
  · obtain ⟨hS2, hb⟩ := Sep.turn (y := .loop { rec' with state := .exhausted, pending := some j }) (Sep.split hpw hS)
    obtain ⟨fr, w2, hE, st2⟩ := jump j x' hJ D' (w.heap.size :: ds) a _ cs ha he hD' (hS2.tail.perm List.perm_middle)
    exact ⟨fr, w2, hE, Steps.trans st (.head (step_endRange (run_endLoop hb (by simp))) st2)⟩
end Go.X

/- Sorted lists of sums. No condition. -/
set_option linter.unusedVariables false
namespace Go.X
def dd : List Int → List Int
  | [] => []
  | a :: l => if a ∈ dd l then dd l else a :: dd l
theorem dd_mem {a : Int} : ∀ {l : List Int}, a ∈ dd l ↔ a ∈ l
  | [] => Iff.rfl
  | b :: l => by
    rw [dd]
    split
    · rename_i h
      rw [dd_mem, List.mem_cons]
      exact ⟨.inr, fun h2 => h2.elim (fun e => e ▸ dd_mem.1 h) id⟩
    · rw [List.mem_cons, List.mem_cons, dd_mem]
theorem dd_nodup : ∀ l : List Int, (dd l).Nodup
  | [] => List.nodup_nil
  | b :: l => by
    rw [dd]
    split
    · exact dd_nodup l
    · exact List.nodup_cons.2 ⟨‹_›, dd_nodup l⟩
theorem sort_sorted (l : List Int) : (sortL l).Pairwise (fun a b => a ≤ b) := by
  have := List.pairwise_mergeSort (le := fun x y : Int => decide (x ≤ y)) (fun a b c h1 h2 => by simp only [decide_eq_true_eq] at *; omega) (fun a b => by simp only [Bool.or_eq_true, decide_eq_true_eq]; omega) l
  exact pairMap this fun h => by simpa using h
theorem sort_perm (l : List Int) : (sortL l).Perm l := List.mergeSort_perm l _
theorem sort_eq {a b : List Int} (p : a.Perm b) : sortL a = sortL b :=
  List.Perm.eq_of_pairwise (fun x y _ _ h1 h2 => Int.le_antisymm h1 h2) (sort_sorted a) (sort_sorted b) (((sort_perm a).trans p).trans (sort_perm b).symm)
/-- The sums that occur, in order, each with how often. -/
def sumsL (L : List Int) : List PDraw := (sortL (dd L)).map fun p => ⟨p, (L.count p : Nat)⟩
theorem sums_keys {es : List (Int × Value)} {L : List Int} (h : MapIs es L) {seen : List Nat} (hn : seen.Nodup) (ha : ∀ i, i ∈ seen ↔ i < es.length) : sortL (seen.map fun i => (es.getD i default).1) = sortL (dd L) := by
  refine sort_eq ?_
  have p1 : seen.Perm (List.range es.length) := (List.perm_ext_iff_of_nodup hn List.nodup_range).2 fun i => by rw [ha, List.mem_range]
  have p2 := p1.map fun i => (es.getD i default).1
  have e : (List.range es.length).map (fun i => (es.getD i default).1) = es.map Prod.fst := by
    refine List.ext_getElem (by simp) fun i h1 h2 => ?_
    simp only [List.getElem_map, List.getElem_range]
    rw [List.getD_eq_getElem?_getD, List.getElem?_eq_getElem (by simpa using h2)]; rfl
  rw [e] at p2
  refine p2.trans ((List.perm_ext_iff_of_nodup h.nodup (dd_nodup L)).2 fun a => ?_)
  rw [dd_mem]
  exact ⟨fun h2 => by
    obtain ⟨x, hx, rfl⟩ := List.mem_map.1 h2
    exact (h.val x.1 x.2 hx).2, h.all a⟩
theorem sum_keys_len {es : List (Int × Value)} {L : List Int} (h : MapIs es L) : (sortL (dd L)).length = es.length := by
  rw [(sort_perm _).length_eq]
  have : (es.map Prod.fst).Perm (dd L) := (List.perm_ext_iff_of_nodup h.nodup (dd_nodup L)).2 fun a => by
    rw [dd_mem]
    exact ⟨fun h2 => by
      obtain ⟨x, hx, rfl⟩ := List.mem_map.1 h2
      exact (h.val x.1 x.2 hx).2, h.all a⟩
  rw [← this.length_eq, List.length_map]
def sumsG (l : List PJob) : List PDraw × Int × Int := if (listedG l).2 ≠ 0 then ([], 0, (listedG l).2) else (sumsL (combos l), (listedG l).1, 0)
theorem few_keys {es : List (Int × Value)} {L : List Int} (h : MapIs es L) {n : Nat} (hL : ∀ x ∈ L, 0 ≤ x ∧ x < n) : es.length ≤ n := by
  have hs : (es.map fun p => p.1.toNat).Nodup := by
    have : (es.map fun p => p.1.toNat) = (es.map Prod.fst).map Int.toNat := by rw [List.map_map]; rfl
    rw [this]
    unfold List.Nodup
    rw [List.pairwise_map]
    have hn := h.nodup
    unfold List.Nodup at hn
    refine hn.imp_of_mem fun {a b} ha hb hab he => hab ?_
    obtain ⟨x, hx, rfl⟩ := List.mem_map.1 ha
    obtain ⟨y, hy, rfl⟩ := List.mem_map.1 hb
    have h1 := hL _ (h.val x.1 x.2 hx).2
    have h2 := hL _ (h.val y.1 y.2 hy).2
    omega
  have := seen_few (n := n) hs (fun i hi => by
    obtain ⟨x, hx, rfl⟩ := List.mem_map.1 hi
    have h1 := hL _ (h.val x.1 x.2 hx).2
    omega)
  rwa [List.length_map] at this
end Go.X

/- The example, and tasks made of digits. No condition. -/
set_option linter.unusedVariables false
namespace Go.X
def jobX : PJob := ⟨1, 1, 1, [⟨100, 3⟩, ⟨200, 1⟩], 0, 5⟩
def taskX : PTask := ⟨[jobX, jobX, jobX], [⟨3, 3, 3, 400, 0⟩], ⟨1, 10⟩⟩
theorem sortL_is {a b : List Int} (p : a.Perm b) (s : b.Pairwise (fun x y => x ≤ y)) : sortL a = b :=
  List.Perm.eq_of_pairwise (fun x y _ _ h1 h2 => Int.le_antisymm h1 h2) (sort_sorted a) s ((sort_perm a).trans p)
theorem job_sums : sumsG [jobX, jobX] = ([⟨200, 9⟩, ⟨300, 6⟩, ⟨400, 1⟩], 16, 0) := by
  rw [sumsG, if_neg (by decide), sumsL, sortL_is (b := [200, 300, 400]) (by decide) (by decide)]; decide
theorem job_chance : chanceG [jobX, jobX] 300 = (⟨1, 16⟩, 0) := by decide
theorem task_ready : readyG taskX = 0 := by decide
set_option maxRecDepth 100000 in
theorem task_best : (bestP taskX).1 = [0, 0, -1] ∧ (bestP taskX).2.1 = 10 := by decide +kernel
set_option maxRecDepth 100000 in
theorem task_verify : verifyP taskX (bestP taskX).1 (bestP taskX).2.1 (bestP taskX).2.2 = 0 := by decide +kernel
def mostsX : List PRat := [⟨0, 1⟩, ⟨1, 10⟩, ⟨1, 4⟩, ⟨1, 2⟩, ⟨1, 1⟩]
theorem mosts_ok : ∀ i, i < 5 → chanceR (mostsX.getD i default) = true := by decide
/-- Draws that Made writes. -/
structure MkD (k : Nat) (p : Int) (ds : List PDraw) : Prop where
  len : ds.length = k
  p1 : 0 ≤ p ∧ p ≤ 14 + 15 * k
  at' : ∀ i, i < k → (0 ≤ (ds.getD i default).power ∧ (ds.getD i default).power < p) ∧ (1 ≤ (ds.getD i default).count ∧ (ds.getD i default).count ≤ 4) ∧ (0 < i → (ds.getD (i - 1) default).power < (ds.getD i default).power)
theorem snoc_getP {α : Type} [Inhabited α] (l : List α) (x : α) (i : Nat) : (l ++ [x]).getD i default = if i < l.length then l.getD i default else if i = l.length then x else default := by
  rw [List.getD_eq_getElem?_getD, List.getElem?_append]
  split
  · rw [List.getD_eq_getElem?_getD]
  · split
    · rename_i h1 h2; subst h2; simp
    · rename_i h1 h2
      rw [List.getElem?_eq_none (by simp; omega)]; rfl
theorem MkD.nil {p : Int} (h : 0 ≤ p ∧ p ≤ 14) : MkD 0 p [] := ⟨rfl, by omega, fun i hi => absurd hi (Nat.not_lt_zero i)⟩
theorem MkD.snoc {k : Nat} {p q c : Int} {ds : List PDraw} (m : MkD k p ds) (hc : 1 ≤ c ∧ c ≤ 4) (hq : p < q ∧ q ≤ p + 15) : MkD (k + 1) q (ds ++ [⟨p, c⟩]) where
  len := by rw [List.length_append, m.len]; rfl
  p1 := by have := m.p1; omega
  at' := fun i hi => by
    have pp := m.p1
    have l := m.len
    rw [snoc_getP, snoc_getP, l]
    by_cases h : i < k
    · have a := m.at' i h
      rw [if_pos h]
      refine ⟨⟨a.1.1, by omega⟩, a.2.1, fun h0 => ?_⟩
      rw [if_pos (by omega)]; exact a.2.2 h0
    · rw [if_neg h, if_pos (by omega)]
      refine ⟨⟨pp.1, hq.1⟩, hc, fun h0 => ?_⟩
      rw [if_pos (by omega)]
      exact (m.at' (i - 1) (by omega)).1.2
structure MkJob (j : PJob) : Prop where
  ok : PJobOk j
  few : j.draws.length ≤ 3
  cnt : ∀ i, i < j.draws.length → (j.draws.getD i default).count ≤ 4
theorem mkJob_of {a b c g w p : Int} {k : Nat} {ds : List PDraw} (m : MkD k p ds) (hk : 1 ≤ k ∧ k ≤ 3) (ha : 0 ≤ a ∧ a ≤ 1000000) (hb : 0 ≤ b ∧ b ≤ 1000000) (hc : 0 ≤ c ∧ c ≤ 1000000) (hg : 0 ≤ g ∧ g ≤ 100) (hw : 0 ≤ w ∧ w ≤ 1000000) : MkJob ⟨a, b, c, ds, g, w⟩ := by
  have l := m.len
  have pp := m.p1
  refine ⟨⟨pin_three.2 ⟨ha, hb, hc⟩, hg, hw, by dsimp only; omega, fun i hi => ?_⟩, by dsimp only; omega, fun i hi => ?_⟩
  · have q := m.at' i (by dsimp only at hi; omega)
    exact ⟨⟨q.1.1, by dsimp only; omega⟩, ⟨q.2.1.1, by dsimp only; omega⟩, q.2.2⟩
  · exact (m.at' i (by dsimp only at hi; omega)).2.1.2
theorem MkJob.total {j : PJob} (h : MkJob j) : 1 ≤ totalJ j ∧ totalJ j ≤ 12 := by
  have a := (total_rng h.ok).1
  have b := sum_le_mul (l := j.draws.map (·.count)) (m := 4) fun x hx => by
    obtain ⟨d, hd, rfl⟩ := List.mem_map.1 hx
    obtain ⟨i, hi, rfl⟩ := List.getElem_of_mem hd
    have := h.cnt i hi
    rwa [List.getD_eq_getElem?_getD, List.getElem?_eq_getElem hi] at this
  rw [List.length_map] at b
  have := h.few
  unfold totalJ at *; omega
theorem mk_prod {l : List PJob} (h : ∀ i, i < l.length → MkJob (l.getD i default)) : ∀ i, i ≤ l.length → 1 ≤ prodJ l i ∧ prodJ l i ≤ 12 ^ i
  | 0, _ => ⟨Int.le_refl _, Int.le_refl _⟩
  | i + 1, hi => by
    have a := mk_prod h i (by omega)
    have b := (h i (by omega)).total
    have c1 : 1 * 1 ≤ prodJ l i * totalJ (l.getD i default) := Int.mul_le_mul a.1 b.1 (by omega) (by omega)
    have c2 : prodJ l i * totalJ (l.getD i default) ≤ 12 ^ i * 12 := Int.mul_le_mul a.2 b.2 (by omega) (by omega)
    rw [prodJ, Int.pow_succ]; omega
theorem mk_list {l : List PJob} (h : ∀ i, i < l.length → MkJob (l.getD i default)) (h7 : l.length ≤ 7) : ListOk l := by
  refine ⟨by omega, fun i hi => (h i hi).ok, fun i hi => ?_⟩
  have a := (mk_prod h i hi).2
  have b : (12 : Nat) ^ i ≤ 12 ^ 7 := Nat.pow_le_pow_right (by decide) (by omega)
  have c : ((12 ^ i : Nat) : Int) = (12 : Int) ^ i := by rw [Int.natCast_pow]; rfl
  have d : (12 : Nat) ^ 7 = 35831808 := by decide
  omega
structure MkTask (t : PTask) : Prop where
  job : ∀ i, i < t.jobs.length → MkJob (t.jobs.getD i default)
  few : t.jobs.length ≤ 7
  rk : 1 ≤ t.racks.length ∧ t.racks.length ≤ 3
  rack : ∀ i, i < t.racks.length → rackR (t.racks.getD i default) = true
  most : chanceR t.most = true
theorem MkTask.ok {t : PTask} (h : MkTask t) : TaskOk t := ⟨by have := h.few; omega, h.rk.1, by have := h.rk; omega, fun i hi => (h.job i hi).ok, h.rack, h.most⟩
theorem MkTask.lok {t : PTask} (h : MkTask t) : ListOk t.jobs := mk_list h.job h.few
theorem MkTask.ready {t : PTask} (h : MkTask t) : readyG t = 0 := by
  rw [readyG, if_neg (by rw [pcheck_iff.2 h.ok]; decide)]; exact listed_ok.2 h.lok
theorem rack_ok {a b c d e : Int} (ha : 0 ≤ a ∧ a ≤ 1000000) (hb : 0 ≤ b ∧ b ≤ 1000000) (hc : 0 ≤ c ∧ c ≤ 1000000) (hd : 0 ≤ d ∧ d ≤ 10000) (he : 0 ≤ e ∧ e ≤ 100) : rackR ⟨a, b, c, d, e⟩ = true := by
  unfold rackR
  rw [Bool.and_eq_true, Bool.and_eq_true]
  exact ⟨⟨pin_three.2 ⟨ha, hb, hc⟩, pin_one.2 hd⟩, pin_one.2 he⟩
theorem each_snoc {α : Type} [Inhabited α] {Q : α → Prop} {l : List α} {x : α} (h : ∀ i, i < l.length → Q (l.getD i default)) (hx : Q x) : ∀ i, i < (l ++ [x]).length → Q ((l ++ [x]).getD i default) := fun i hi => by
  rw [List.length_append] at hi
  rw [snoc_getP]
  by_cases hc : i < l.length
  · rw [if_pos hc]; exact h i hc
  · rw [if_neg hc, if_pos (by simp at hi; omega)]; exact hx
end Go.X

/- Chances grow with the list; what fits still fits with less. No condition. -/
set_option linter.unusedVariables false
namespace Go.X
theorem mul_le_cancel {a b c : Int} (hc : 1 ≤ c) : a * c ≤ b * c ↔ a ≤ b := ⟨fun h => Int.le_of_mul_le_mul_right h (by omega), fun h => Int.mul_le_mul_of_nonneg_right h (by omega)⟩
/-- A part of all is at most a fraction. -/
theorem atMost_iff {n all : Int} {m : PRat} (hn : 0 ≤ n ∧ n ≤ all) (ha : 1 ≤ all) : atMostB (ratG n all) m = true ↔ n * m.d ≤ m.n * all := by
  have x := rat_cross (n := n) ha
  have r := rat_rng hn ha
  unfold atMostB
  rw [decide_eq_true_eq, ← mul_le_cancel (c := all) ha, ← mul_le_cancel (a := n * m.d) (c := (ratG n all).d) r.2.1]
  generalize ratG n all = q at *
  have e1 : q.n * m.d * all = n * m.d * q.d := by rw [Int.mul_right_comm, x, Int.mul_right_comm]
  have e2 : m.n * q.d * all = m.n * all * q.d := Int.mul_right_comm ..
  rw [e1, e2]
theorem count_flat {L : List Int} {f : Int → List Int} {p q : Int → Bool} {c : Nat} (h : ∀ s ∈ L, p s = true → c ≤ (f s).countP q) : L.countP p * c ≤ (L.flatMap f).countP q := by
  induction L with
  | nil => simp
  | cons a L ih =>
    have i := ih fun s hs => h s (List.mem_cons_of_mem _ hs)
    have ha := h a List.mem_cons_self
    rw [List.flatMap_cons, List.countP_append, List.countP_cons]
    by_cases hp : p a = true
    · rw [if_pos hp, Nat.add_mul, Nat.one_mul]
      have := ha hp
      omega
    · rw [if_neg hp, Nat.add_zero]; omega
theorem over_step {j : PJob} (ok : PJobOk j) (L : List Int) (lim : Int) : (overN L lim : Int) * totalJ j ≤ (overN (step1 L j) lim : Nat) := by
  have t := (total_rng ok).1
  have h := count_flat (L := L) (f := fun s => j.draws.flatMap fun d => List.replicate d.count.toNat (s + d.power)) (p := fun s => decide (lim < s)) (q := fun s => decide (lim < s)) (c := (totalJ j).toNat) fun s hs hp => by
    have rl := reps_len ok s
    rw [List.countP_eq_length.2 fun x hx => ?_]
    · omega
    · obtain ⟨d, hd, hx⟩ := List.mem_flatMap.1 hx
      have := (List.mem_replicate.1 hx).2
      have hp := of_decide_eq_true hp
      have := (mem_draws ok hd).1
      exact decide_eq_true (by omega)
  have e : ((L.countP (fun s => decide (lim < s)) * (totalJ j).toNat : Nat) : Int) = (overN L lim : Int) * totalJ j := by
    rw [Int.natCast_mul]; unfold overN; rw [show (((totalJ j).toNat : Nat) : Int) = totalJ j by omega]
  unfold overN at *
  unfold step1
  omega
theorem need_app (l : List PJob) (x : PJob) (k : Nat) : ∀ i, i ≤ l.length → needK (l ++ [x]) k i = needK l k i
  | 0, _ => rfl
  | i + 1, h => by
    rw [needK, needK, need_app l x k i (by omega), List.getD_eq_getElem?_getD, List.getElem?_append_left (by omega), ← List.getD_eq_getElem?_getD]
theorem need_last (l : List PJob) (x : PJob) (k : Nat) : needK (l ++ [x]) k (l ++ [x]).length = needK l k l.length + needOf x k := by
  rw [List.length_append, show ([x] : List PJob).length = 1 from rfl, needK, need_app l x k _ (Nat.le_refl _), List.getD_eq_getElem?_getD, List.getElem?_append_right (Nat.le_refl _), Nat.sub_self]; rfl
theorem lok_app {l : List PJob} {x : PJob} (ok : ListOk (l ++ [x])) : ListOk l ∧ PJobOk x := by
  have hl : (l ++ [x]).length = l.length + 1 := List.length_append
  refine ⟨⟨by have := ok.few; omega, fun i hi => ?_, fun i hi => ?_⟩, ?_⟩
  · have := ok.job i (by omega)
    rwa [List.getD_eq_getElem?_getD, List.getElem?_append_left hi, ← List.getD_eq_getElem?_getD] at this
  · have := ok.prod i (by omega)
    rwa [prodJ_app _ _ _ hi] at this
  have := ok.job l.length (by rw [List.length_append]; simp)
  rwa [List.getD_eq_getElem?_getD, List.getElem?_append_right (Nat.le_refl _), Nat.sub_self] at this
theorem combos_all {l : List PJob} (ok : ListOk l) : ((combos l).length : Int) = prodJ l l.length ∧ 1 ≤ prodJ l l.length := by
  have := combos_len ok _ (Nat.le_refl _)
  rw [List.take_length] at this
  exact ⟨this, prod_pos ok _ (Nat.le_refl _)⟩
theorem over_bound {l : List PJob} (ok : ListOk l) (lim : Int) : (0 ≤ ((overN (combos l) lim : Nat) : Int) ∧ ((overN (combos l) lim : Nat) : Int) ≤ prodJ l l.length) := by
  have a := over_len (combos l) lim
  have b := (combos_all ok).1
  omega
/-- What a list's chance is at most. -/
theorem chance_iff {l : List PJob} (ok : ListOk l) (lim : Int) (m : PRat) : atMostB (overG l lim (prodJ l l.length)) m = true ↔ ((overN (combos l) lim : Nat) : Int) * m.d ≤ m.n * prodJ l l.length := atMost_iff (over_bound ok lim) (combos_all ok).2
/-- A longer list is over the limit at least as often. -/
theorem over_more {l : List PJob} {x : PJob} (ok : ListOk (l ++ [x])) (lim : Int) : ((overN (combos l) lim : Nat) : Int) * prodJ (l ++ [x]) (l ++ [x]).length ≤ ((overN (combos (l ++ [x])) lim : Nat) : Int) * prodJ l l.length := by
  obtain ⟨okl, okx⟩ := lok_app ok
  have s := over_step okx (combos l) lim
  have c := (combos_all okl).2
  rw [combos_snoc, List.length_append, show ([x] : List PJob).length = 1 from rfl, prodJ_last, Int.mul_comm (prodJ l l.length), ← Int.mul_assoc]
  exact Int.mul_le_mul_of_nonneg_right s (by omega)
theorem fits_prefix {l : List PJob} {x : PJob} {r : PRack} {m : PRat} (ok : ListOk (l ++ [x])) (hm : 1 ≤ m.d) (h : fitsG (l ++ [x]) r m = true) : fitsG l r m = true := by
  obtain ⟨okl, okx⟩ := lok_app ok
  have n := pin_three.1 okx.need
  unfold fitsG at h ⊢
  rw [need_last, need_last, need_last, Bool.and_eq_true, Bool.and_eq_true, Bool.and_eq_true, decide_eq_true_eq, decide_eq_true_eq, decide_eq_true_eq, chance_iff ok] at h
  obtain ⟨⟨⟨h0, h1⟩, h2⟩, h3⟩ := h
  change _ + x.n0 ≤ _ at h0
  change _ + x.n1 ≤ _ at h1
  change _ + x.n2 ≤ _ at h2
  rw [Bool.and_eq_true, Bool.and_eq_true, Bool.and_eq_true, decide_eq_true_eq, decide_eq_true_eq, decide_eq_true_eq, chance_iff okl]
  refine ⟨⟨⟨by omega, by omega⟩, by omega⟩, ?_⟩
  have mo := over_more ok r.cap
  have c1 := (combos_all okl).2
  have c2 := (combos_all ok).2
  rw [← mul_le_cancel (c := prodJ (l ++ [x]) (l ++ [x]).length) c2]
  have e1 := Int.mul_le_mul_of_nonneg_right mo (show (0 : Int) ≤ m.d by omega)
  have e2 := Int.mul_le_mul_of_nonneg_right h3 (show (0 : Int) ≤ prodJ l l.length by omega)
  generalize prodJ (l ++ [x]) (l ++ [x]).length = P2 at *
  generalize prodJ l l.length = P1 at *
  generalize ((overN (combos l) r.cap : Nat) : Int) = o1 at *
  generalize ((overN (combos (l ++ [x])) r.cap : Nat) : Int) = o2 at *
  have a1 : o1 * m.d * P2 = o1 * P2 * m.d := Int.mul_right_comm ..
  have a2 : o2 * P1 * m.d = o2 * m.d * P1 := Int.mul_right_comm ..
  have a3 : m.n * P2 * P1 = m.n * P1 * P2 := Int.mul_right_comm ..
  omega
theorem fits_nil {r : PRack} {m : PRat} (hr : rackR r = true) (hm : 0 ≤ m.n) : fitsG [] r m = true := by
  unfold rackR at hr
  rw [Bool.and_eq_true, Bool.and_eq_true] at hr
  have a := pin_three.1 hr.1.1
  have b := pin_one.1 hr.1.2
  have ok : ListOk ([] : List PJob) := ⟨Nat.zero_le _, fun i hi => absurd hi (Nat.not_lt_zero i), fun i hi => by rw [show i = 0 by simpa using hi]; decide⟩
  unfold fitsG
  rw [Bool.and_eq_true, Bool.and_eq_true, Bool.and_eq_true, decide_eq_true_eq, decide_eq_true_eq, decide_eq_true_eq, chance_iff ok]
  refine ⟨⟨⟨a.1.1, a.2.1.1⟩, a.2.2.1⟩, ?_⟩
  have : overN (combos []) r.cap = 0 := by
    unfold overN
    rw [List.countP_eq_zero]
    intro s hs
    rw [combos, List.foldl_nil, List.mem_singleton] at hs
    rw [decide_eq_true_eq]; omega
  rw [this]
  show (0 : Int) * m.d ≤ m.n * 1
  omega
end Go.X

/- The search finds the best; its proof holds; what holds is the best. No condition. -/
set_option linter.unusedVariables false
namespace Go.X
theorem snoc_old {w : List Int} {y : Int} {i : Nat} (h : i < w.length) : (w ++ [y]).getD i default = w.getD i default := by
  rw [List.getD_eq_getElem?_getD, List.getElem?_append_left h, ← List.getD_eq_getElem?_getD]
theorem snoc_new {w : List Int} {y : Int} : (w ++ [y]).getD w.length default = y := by
  rw [List.getD_eq_getElem?_getD, List.getElem?_append_right (Nat.le_refl _), Nat.sub_self]; rfl
theorem inTo_snoc {α : Type} [Inhabited α] {l : List α} {w : List Int} {y r : Int} : ∀ n, n ≤ w.length → inTo l (w ++ [y]) r n = inTo l w r n
  | 0, _ => rfl
  | n + 1, h => by rw [inTo, inTo, inTo_snoc n (by omega), snoc_old (by omega)]
theorem inL_snoc (t : PTask) (w : List Int) (y r : Int) : inL t (w ++ [y]) r = inL t w r ++ (if y = r then [t.jobs.getD w.length default] else []) := by
  unfold inL
  rw [List.length_append, show ([y] : List Int).length = 1 from rfl, inTo, inTo_snoc _ (Nat.le_refl _), snoc_new]
theorem skip_snoc {t : PTask} {w : List Int} {y : Int} {i : Nat} (h : i < w.length) : skipK t (w ++ [y]) i = skipK t w i := by rw [skipK, skipK, snoc_old h]
theorem key_snoc {t : PTask} {w : List Int} {y : Int} {i : Nat} (h : i < w.length) : keyOf t (w ++ [y]) i = keyOf t w i := by rw [keyOf, keyOf, snoc_old h]
theorem keys_snoc {t : PTask} {w : List Int} {y : Int} : ∀ n, n ≤ w.length → keysTo t (w ++ [y]) n = keysTo t w n
  | 0, _ => rfl
  | n + 1, h => by rw [keysTo, keysTo, keys_snoc n (by omega), skip_snoc (by omega), key_snoc (by omega)]
theorem apartTo_snoc {t : PTask} {w : List Int} {y : Int} : ∀ n, n ≤ w.length → apartTo t (w ++ [y]) n = apartTo t w n
  | 0, _ => rfl
  | n + 1, h => by rw [apartTo, apartTo, apartTo_snoc n (by omega), skip_snoc (by omega), key_snoc (by omega), keys_snoc n (by omega)]
theorem apart_prefix {t : PTask} {w : List Int} {y : Int} (h : apartG t (w ++ [y]) = true) : apartG t w = true := by
  unfold apartG at *
  rw [List.length_append, show ([y] : List Int).length = 1 from rfl, apartTo, apartTo_snoc _ (Nat.le_refl _), Bool.and_eq_true] at h
  exact h.1
theorem apart_out {t : PTask} {w : List Int} (h : apartG t w = true) : apartG t (w ++ [-1]) = true := by
  unfold apartG at *
  rw [List.length_append, show ([-1] : List Int).length = 1 from rfl, apartTo, apartTo_snoc _ (Nat.le_refl _), h, skipK, snoc_new]
  rfl
theorem fitTo_iff {t : PTask} {w : List Int} : ∀ {n}, fitTo t w n = true ↔ ∀ r, r < n → fitAt t w r = true
  | 0 => ⟨fun _ r hr => absurd hr (Nat.not_lt_zero r), fun _ => rfl⟩
  | n + 1 => by
    rw [fitTo, Bool.and_eq_true, fitTo_iff]
    exact ⟨fun ⟨a, b⟩ r hr => by
      by_cases he : r = n
      · rw [he]; exact b
      · exact a r (by omega), fun h => ⟨fun r hr => h r (by omega), h n (by omega)⟩⟩
theorem allowed_iff {t : PTask} {w : List Int} : allowedB t w = true ↔ (∀ r, r < t.racks.length → fitAt t w r = true) ∧ apartG t w = true := by
  rw [allowedB, Bool.and_eq_true, fitTo_iff]
theorem fit_same {t : PTask} {w : List Int} {y : Int} {r : Nat} (h : y ≠ (r : Int)) : fitAt t (w ++ [y]) r = fitAt t w r := by
  rw [fitAt, fitAt, inL_snoc, if_neg h, List.append_nil]
theorem inL_ok {t : PTask} (lok : ListOk t.jobs) {w : List Int} (h : w.length ≤ t.jobs.length) (r : Int) : ListOk (inL t w r) := lok.inTo w r h
theorem fit_prefix {t : PTask} (ok : TaskOk t) (lok : ListOk t.jobs) {w : List Int} {y : Int} (hl : w.length < t.jobs.length) {r : Nat} (h : fitAt t (w ++ [y]) r = true) : fitAt t w r = true := by
  by_cases hy : y = (r : Int)
  · have k := inL_ok lok (w := w ++ [y]) (by rw [List.length_append]; simp; omega) (r : Int)
    rw [fitAt, inL_snoc, if_pos hy] at h
    rw [inL_snoc, if_pos hy] at k
    exact fits_prefix k (chanceR_pos ok.most) h
  · rwa [fit_same hy] at h
theorem allowed_prefix {t : PTask} (ok : TaskOk t) (lok : ListOk t.jobs) {w : List Int} {y : Int} (hl : w.length < t.jobs.length) (h : allowedB t (w ++ [y]) = true) : allowedB t w = true := by
  rw [allowed_iff] at *
  exact ⟨fun r hr => fit_prefix ok lok hl (h.1 r hr), apart_prefix h.2⟩
theorem psonsTo_memT {t : PTask} {w x : List Int} : ∀ {n}, x ∈ psonsTo t w n → ∃ r : Nat, r < n ∧ x = w ++ [(r : Int)] ∧ sonOk t w r = true
  | 0, h => by cases h
  | n + 1, h => by
    rw [psonsTo] at h
    rcases List.mem_append.1 h with h | h
    · obtain ⟨r, a, b, c⟩ := psonsTo_memT h
      exact ⟨r, by omega, b, c⟩
    · split at h
      · rw [List.mem_singleton] at h
        exact ⟨n, by omega, h, ‹_›⟩
      · cases h
theorem sons_allowed {t : PTask} {w x : List Int} (h : allowedB t w = true) (hx : x ∈ psons t w) : allowedB t x = true := by
  rw [allowed_iff] at h ⊢
  rw [psons] at hx
  rcases List.mem_append.1 hx with hx | hx
  · obtain ⟨r, hr, rfl, hs⟩ := psonsTo_memT hx
    rw [sonOk, Bool.and_eq_true] at hs
    refine ⟨fun q hq => ?_, hs.2⟩
    by_cases he : (r : Int) = q
    · have : r = q := by omega
      subst this; exact hs.1
    · rw [fit_same he]; exact h.1 q hq
  · rw [List.mem_singleton] at hx
    subst hx
    refine ⟨fun q hq => ?_, apart_out h.2⟩
    rw [fit_same (by omega)]; exact h.1 q hq
theorem son_of {t : PTask} {w : List Int} {y : Int} (h : allowedB t (w ++ [y]) = true) (h1 : -1 ≤ y) (h2 : y < t.racks.length) : ∃ i, i < (psons t w).length ∧ (psons t w).getD i default = w ++ [y] := by
  by_cases hy : y = -1
  · subst hy
    exact ⟨_, by rw [psons_len]; exact Nat.lt_succ_self _, psons_last t w⟩
  · obtain ⟨r, rfl⟩ := Int.eq_ofNat_of_zero_le (show 0 ≤ y by omega)
    rw [allowed_iff] at h
    have := psons_at (t := t) (w := w) (r := r) (by omega) (by rw [sonOk, Bool.and_eq_true]; exact ⟨h.1 r (by omega), h.2⟩)
    exact ⟨_, this.2, this.1⟩
theorem takes_allowed {t : PTask} (ok : TaskOk t) (lok : ListOk t.jobs) {w : List Int} (hw : w.length = t.jobs.length) (h : allowedB t w = true) : ∀ d, d ≤ w.length → allowedB t (w.take (w.length - d)) = true
  | 0, _ => by rw [Nat.sub_zero, List.take_length]; exact h
  | d + 1, hd => by
    have ih := takes_allowed ok lok hw h d (by omega)
    rw [show w.length - d = (w.length - (d + 1)) + 1 by omega, take_snocP (by omega)] at ih
    exact allowed_prefix ok lok (by rw [List.length_take]; omega) ih
/-- What lies below a node bounds every allowed placement that goes on from it. -/
theorem below_reach {t : PTask} (ok : TaskOk t) (lok : ListOk t.jobs) {b : Int} {w : List Int} (wok : WOk t w) (hw : w.length = t.jobs.length) (h : allowedB t w = true) : ∀ f, f ≤ w.length → belowF t b f (w.take (w.length - f)) → worthG t w ≤ b
  | 0, _, k => by rw [Nat.sub_zero, List.take_length] at k; exact k
  | f + 1, hf, k => by
    have ta := takes_allowed ok lok hw h f (by omega)
    rw [show w.length - f = (w.length - (f + 1)) + 1 by omega, take_snocP (by omega)] at ta
    have rg := wok.rng (w.length - (f + 1)) (by omega)
    obtain ⟨i, hi, e⟩ := son_of ta rg.1 rg.2
    refine below_reach ok lok wok hw h f (by omega) ?_
    have := k i hi
    rw [e] at this
    rw [show w.length - f = (w.length - (f + 1)) + 1 by omega, take_snocP (by omega)]
    exact this
theorem below_all {t : PTask} (ok : TaskOk t) (lok : ListOk t.jobs) {b : Int} (k : belowG t b []) {w : List Int} (wok : WOk t w) (hw : w.length = t.jobs.length) (h : allowedB t w = true) : worthG t w ≤ b := by
  refine below_reach ok lok wok hw h w.length (Nat.le_refl _) ?_
  rw [Nat.sub_self, List.take_zero]
  unfold belowG at k
  rw [hw]; exact k
/-- A whole placement that is allowed. -/
structure Whole (t : PTask) (s : List Int × Int) : Prop where
  wok : WOk t s.1
  len : s.1.length = t.jobs.length
  all : allowedB t s.1 = true
  wor : worthG t s.1 = s.2
theorem look_whole {t : PTask} : ∀ m w s, WOk t w → t.jobs.length - w.length ≤ m → allowedB t w = true → lookG t w s = s ∨ Whole t (lookG t w s)
  | m, w, s, wok, hm, ha => by
    rw [lookF_eq wok.len]
    split
    · exact .inl rfl
    · split
      · exact .inr ⟨wok, ‹_›, ha, rfl⟩
      · rename_i h1 h2
        have hl := wok.len
        cases m with
        | zero => omega
        | succ m =>
          have step : ∀ n, n ≤ (psons t w).length → foldTo (fun s son => lookG t son s) (psons t w) s n = s ∨ Whole t (foldTo (fun s son => lookG t son s) (psons t w) s n) := by
            intro n
            induction n with
            | zero => intro _; exact .inl rfl
            | succ n ih =>
              intro hn
              obtain ⟨y, e, y1, y2⟩ := psons_get (t := t) (w := w) (i := n) (by omega)
              have al := sons_allowed ha (getD_mem (xs := psons t w) (i := n) (by omega))
              have q := look_whole m ((psons t w).getD n default) (foldTo (fun s son => lookG t son s) (psons t w) s n) (by rw [e]; exact wok.snoc (by omega) y1 y2) (by rw [e, List.length_append]; simp; omega) al
              rw [foldTo]
              rcases q with q | q
              · rw [q]; exact ih (by omega)
              · exact .inr q
          exact step _ (Nat.le_refl _)
theorem allowed_nil {t : PTask} (ok : TaskOk t) : allowedB t [] = true := by
  rw [allowed_iff]
  exact ⟨fun r hr => fits_nil (ok.rack r hr) (chanceR_rng ok.most).1.1, rfl⟩
theorem outs_whole {t : PTask} (ok : TaskOk t) : ∀ n, n ≤ t.jobs.length → WOk t (List.replicate n (-1)) ∧ allowedB t (List.replicate n (-1)) = true
  | 0, _ => ⟨wok_nil t, allowed_nil ok⟩
  | n + 1, h => by
    obtain ⟨a, b⟩ := outs_whole ok n (by omega)
    rw [List.replicate_succ']
    exact ⟨a.snoc (by rw [List.length_replicate]; omega) (Int.le_refl _) (by have := ok.rk1; omega), sons_allowed b (by rw [psons]; simp)⟩
theorem best_whole {t : PTask} (ok : TaskOk t) (lok : ListOk t.jobs) : Whole t (lookG t [] ([], -1)) ∧ belowG t (lookG t [] ([], -1)).2 [] := by
  have bl := (look_below ok _ [] ([], -1) (Nat.zero_le _) (Nat.le_refl _)).2
  refine ⟨?_, bl⟩
  rcases look_whole _ [] ([], -1) (wok_nil t) (Nat.le_refl _) (allowed_nil ok) with h | h
  · rw [h] at bl
    obtain ⟨a, b⟩ := outs_whole ok _ (Nat.le_refl _)
    have q := below_all ok lok bl a (by rw [List.length_replicate]) b
    have p := (worth_rng ok (w := List.replicate t.jobs.length (-1)) (List.replicate t.jobs.length (-1)).length (by rw [List.length_replicate]; exact Nat.le_refl _)).1
    unfold worthG at q
    omega
  · exact h
theorem formed_of {t : PTask} (ok : TaskOk t) (lok : ListOk t.jobs) {w : List Int} (wok : WOk t w) (hw : w.length = t.jobs.length) : formedG t w = 0 := by
  have ref : ∀ n, refTo t w n = 0 := by
    intro n
    induction n with
    | zero => rfl
    | succ n ih => rw [refTo, if_neg (by rw [ih]; decide)]; exact listed_ok.2 (inL_ok lok (by omega) _)
  unfold formedG
  rw [if_neg (by rw [pcheck_iff.2 ok]; decide), if_neg ?_]
  · exact ref _
  · rintro (h | h)
    · exact h (by omega)
    · rw [any_false_of fun i hi => ?_] at h
      · cases h
      · have := wok.rng i hi
        rw [outW, Bool.or_eq_false_iff, decide_eq_false_iff_not, decide_eq_false_iff_not]; omega
/-! ### the proof holds -/
theorem fold_prefix {t : PTask} {b : Int} {w : List Int} (h : ∀ i, i < (psons t w).length → ∀ p, ∃ q, proveG t b ((psons t w).getD i default) p = p ++ q) (p : List Bool) : ∀ n, n ≤ (psons t w).length → ∃ q, foldTo (fun p son => proveG t b son p) (psons t w) p n = p ++ q
  | 0, _ => ⟨[], by rw [List.append_nil]; rfl⟩
  | n + 1, hn => by
    obtain ⟨q, e⟩ := fold_prefix h p n (by omega)
    obtain ⟨q2, e2⟩ := h n (by omega) (foldTo (fun p son => proveG t b son p) (psons t w) p n)
    exact ⟨q ++ q2, by rw [foldTo, e2, e, List.append_assoc]⟩
theorem prove_prefix {t : PTask} {b : Int} : ∀ m w p, w.length ≤ t.jobs.length → t.jobs.length - w.length ≤ m → belowG t b w → ∃ q, proveG t b w p = p ++ q
  | m, w, p, hw, hm, k => by
    rw [prove_case hw k]
    by_cases h : hopeG t w ≤ b
    · rw [if_pos h]; exact ⟨_, rfl⟩
    · rw [if_neg h]
      have hl : ¬ w.length = t.jobs.length := fun e => h (cut_leaf k e)
      cases m with
      | zero => omega
      | succ m =>
        obtain ⟨q, e⟩ := fold_prefix (t := t) (b := b) (w := w) (fun i hi p => by
          obtain ⟨y, e, _⟩ := psons_get hi
          exact prove_prefix m _ p (by rw [e, List.length_append]; simp; omega) (by rw [e, List.length_append]; simp; omega) (below_son (by omega) k hi)) (p ++ [false]) _ (Nat.le_refl _)
        exact ⟨[false] ++ q, by rw [e, List.append_assoc]⟩
theorem fold_more {t : PTask} {b : Int} {w : List Int} (h : ∀ i, i < (psons t w).length → ∀ p, ∃ q, proveG t b ((psons t w).getD i default) p = p ++ q) (p : List Bool) {n : Nat} : ∀ m, n ≤ m → m ≤ (psons t w).length → ∃ q, foldTo (fun p son => proveG t b son p) (psons t w) p m = foldTo (fun p son => proveG t b son p) (psons t w) p n ++ q
  | 0, hn, _ => ⟨[], by rw [show n = 0 by omega, List.append_nil]⟩
  | m + 1, hn, hm => by
    by_cases he : n = m + 1
    · subst he; exact ⟨[], by rw [List.append_nil]⟩
    · obtain ⟨q, e⟩ := fold_more h p (n := n) m (by omega) (by omega)
      obtain ⟨q2, e2⟩ := h m (by omega) (foldTo (fun p son => proveG t b son p) (psons t w) p m)
      exact ⟨q ++ q2, by rw [foldTo, e2, e, List.append_assoc]⟩
theorem holds_prove {t : PTask} {b : Int} : ∀ m w p z, w.length ≤ t.jobs.length → t.jobs.length - w.length ≤ m → belowG t b w → holdsG t (proveG t b w p ++ z) b w p.length = (true, (proveG t b w p).length)
  | m, w, p, z, hw, hm, k => by
    rw [holds_eq hw, prove_case hw k]
    by_cases h : hopeG t w ≤ b
    · rw [if_pos h, if_neg (by simp only [List.length_append, List.length_cons, List.length_nil]; omega), if_pos (by rw [List.append_assoc, List.getD_eq_getElem?_getD, List.getElem?_append_right (Nat.le_refl _), Nat.sub_self]; rfl), decide_eq_true h, List.length_append]; rfl
    · rw [if_neg h]
      have hl : ¬ w.length = t.jobs.length := fun e => h (cut_leaf k e)
      cases m with
      | zero => omega
      | succ m =>
        have pre : ∀ i, i < (psons t w).length → ∀ p, ∃ q, proveG t b ((psons t w).getD i default) p = p ++ q := fun i hi p => by
          obtain ⟨y, e, _⟩ := psons_get hi
          exact prove_prefix m _ p (by rw [e, List.length_append]; simp; omega) (by rw [e, List.length_append]; simp; omega) (below_son (by omega) k hi)
        obtain ⟨q, eq⟩ := fold_prefix pre (p ++ [false]) _ (Nat.le_refl _)
        have step : ∀ n, n ≤ (psons t w).length → holdsTo t (foldTo (fun p son => proveG t b son p) (psons t w) (p ++ [false]) (psons t w).length ++ z) b w p.length n = (true, (foldTo (fun p son => proveG t b son p) (psons t w) (p ++ [false]) n).length) := by
          intro n
          induction n with
          | zero => intro _; rw [holdsTo, foldTo, foldTo, List.length_append]; rfl
          | succ n ih =>
            intro hn
            have ih := ih (by omega)
            obtain ⟨y, e, _⟩ := psons_get (t := t) (w := w) (i := n) (by omega)
            obtain ⟨q2, e2⟩ := fold_more pre (p ++ [false]) (n := n + 1) _ hn (Nat.le_refl _)
            have hh := holds_prove m ((psons t w).getD n default) (foldTo (fun p son => proveG t b son p) (psons t w) (p ++ [false]) n) (q2 ++ z) (by rw [e, List.length_append]; simp; omega) (by rw [e, List.length_append]; simp; omega) (below_son (by omega) k (by omega))
            unfold holdsTo at ih ⊢
            rw [foldTo, ih, if_pos rfl, e2, List.append_assoc]
            exact hh
        have a := step _ (Nat.le_refl _)
        rw [if_neg, if_neg, if_neg hl, a]
        · rw [eq, List.append_assoc, List.append_assoc, List.getD_eq_getElem?_getD, List.getElem?_append_right (Nat.le_refl _), Nat.sub_self]; simp
        · rw [eq]; simp only [List.length_append, List.length_cons, List.length_nil]; omega
/-! ### what holds is so -/
theorem holds_false {t : PTask} {P : List Bool} {W : Int} {w : List Int} {a n : Nat} (h : (holdsTo t P W w a n).1 = false) : ∀ m, n ≤ m → (holdsTo t P W w a m).1 = false
  | 0, hm => by rw [show n = 0 by omega] at h; exact h
  | m + 1, hm => by
    by_cases he : n = m + 1
    · rw [← he]; exact h
    · have ih := holds_false h m (by omega)
      unfold holdsTo at ih ⊢
      rw [foldTo, if_neg (by rw [ih]; decide)]; exact ih
theorem holds_below {t : PTask} (ok : TaskOk t) {P : List Bool} {W : Int} : ∀ m w a, w.length ≤ t.jobs.length → t.jobs.length - w.length ≤ m → (holdsG t P W w a).1 = true → belowG t W w
  | m, w, a, hw, hm, h => by
    rw [holds_eq hw] at h
    split at h
    · cases h
    · split at h
      · exact below_hope ok _ w hw (Nat.le_refl _) (of_decide_eq_true h)
      · split at h
        · rename_i hl
          unfold belowG
          rw [hl, Nat.sub_self]
          show worthG t w ≤ W
          exact of_decide_eq_true h
        · cases m with
          | zero => omega
          | succ m =>
            refine below_of (by omega) fun i hi => ?_
            obtain ⟨y, e, _⟩ := psons_get hi
            have h1 : (holdsTo t P W w a (i + 1)).1 = true := by
              cases hc : (holdsTo t P W w a (i + 1)).1 with
              | true => rfl
              | false => rw [holds_false hc _ hi] at h; cases h
            have h0 : (holdsTo t P W w a i).1 = true := by
              cases hc : (holdsTo t P W w a i).1 with
              | true => rfl
              | false => rw [holds_false hc _ (Nat.le_succ i)] at h1; cases h1
            have e1 : holdsTo t P W w a (i + 1) = holdsG t P W ((psons t w).getD i default) (holdsTo t P W w a i).2 := by
              have e0 : holdsTo t P W w a (i + 1) = (if (holdsTo t P W w a i).1 = true then holdsG t P W ((psons t w).getD i default) (holdsTo t P W w a i).2 else holdsTo t P W w a i) := rfl
              rw [e0, if_pos h0]
            rw [e1] at h1
            exact holds_below ok m _ _ (by rw [e, List.length_append]; simp; omega) (by rw [e, List.length_append]; simp; omega) h1
/-- The law of Best. -/
theorem best_law {t : PTask} (rd : readyG t = 0) : (formedG t (bestP t).1 = 0 ∧ allowedB t (bestP t).1 = true ∧ worthG t (bestP t).1 = (bestP t).2.1) ∧ verifyP t (bestP t).1 (bestP t).2.1 (bestP t).2.2 = 0 ∧ ∀ w, formedG t w = 0 → allowedB t w = true → worthG t w ≤ (bestP t).2.1 := by
  obtain ⟨ok, lok⟩ := ready_ok rd
  obtain ⟨wh, bl⟩ := best_whole ok lok
  have fm := formed_of ok lok wh.wok wh.len
  refine ⟨⟨fm, wh.all, wh.wor⟩, ?_, fun w hf ha => ?_⟩
  · have hp := holds_prove (t := t) (b := (lookG t [] ([], -1)).2) _ [] [] [] (Nat.zero_le _) (Nat.le_refl _) bl
    rw [List.append_nil] at hp
    rw [verifyP, if_neg (by rw [rd]; decide), if_neg (by rintro (h | h); exact h fm; exact h wh.all)]
    refine if_neg ?_
    rintro (h | h | h)
    · exact h wh.wor
    · exact h (by show (holdsG t (proveG t (lookG t [] ([], -1)).2 [] []) (lookG t [] ([], -1)).2 [] 0).1 = true; rw [show (0 : Nat) = ([] : List Bool).length from rfl, hp])
    · exact h (by show (holdsG t (proveG t (lookG t [] ([], -1)).2 [] []) (lookG t [] ([], -1)).2 [] 0).2 = _; rw [show (0 : Nat) = ([] : List Bool).length from rfl, hp]; rfl)
  · obtain ⟨_, wok, hw, _⟩ := formed_iff hf
    exact below_all ok lok bl wok hw ha
/-- What Verify accepts is worth as much as the best. -/
theorem verify_law {t : PTask} (rd : readyG t = 0) {w : List Int} {W : Int} {P : List Bool} (v : verifyP t w W P = 0) : formedG t w = 0 ∧ allowedB t w = true ∧ worthG t w = W ∧ W = (bestP t).2.1 := by
  obtain ⟨ok, lok⟩ := ready_ok rd
  obtain ⟨⟨b1, b2, b3⟩, _, b4⟩ := best_law rd
  rw [verifyP, if_neg (by rw [rd]; decide)] at v
  split at v
  · exact absurd v (by decide)
  · split at v
    · exact absurd v (by decide)
    · rename_i h1 h2
      rw [not_or] at h1 h2
      rw [not_or] at h2
      have f := Decidable.of_not_not h1.1
      have a := Decidable.of_not_not h1.2
      have wW := Decidable.of_not_not h2.1
      have bl := holds_below ok _ [] 0 (Nat.zero_le _) (Nat.le_refl _) (Decidable.of_not_not h2.2.1)
      obtain ⟨_, bwok, bw, _⟩ := formed_iff b1
      have k1 := below_all ok lok bl bwok bw b2
      have k2 := b4 w f a
      exact ⟨f, a, wW, by omega⟩
theorem verify_90 {t : PTask} (rd : readyG t = 0) {w : List Int} (f : formedG t w = 0) {W : Int} {P : List Bool} : verifyP t w W P = 90 ↔ ¬ allowedB t w = true := by
  rw [verifyP, if_neg (by rw [rd]; decide)]
  by_cases a : allowedB t w = true
  · rw [if_neg (by rintro (h | h); exact h f; exact h a)]
    split
    · exact ⟨fun h => absurd h (by decide), fun h => absurd a h⟩
    · exact ⟨fun h => absurd h (by decide), fun h => absurd a h⟩
  · rw [if_pos (.inr a)]; exact ⟨fun _ => a, fun _ => rfl⟩
end Go.X

/- Arguments that are slices of bools, opened. No condition. -/
set_option linter.unusedVariables false
namespace Go.X
open Go.ChangeShapes Go.WideShapes Go.Deep
theorem open_boolsA {H : Type} {enc : TypeId × Value → H} {P : Program} {W : World} {base : Nat} {v : Value} {d : DataW H} {ps : List MemPlace} {t e : TypeId} (ht : P.underlying t = some (.slice e)) (he : P.underlying e = some .bool) (hc : P.cellsOf e = 1) (hb : 0 < P.bytesOf e) (hv : Value.okWide P W .any base t v)
    (h : DataW.Trod enc P W 0 (fun _ => true) true t v d ps) (hw : ∀ n ∈ d.weights P t, n ≤ reachBytes) : ∃ xs : List Bool, Arr v encB 1 (heapOf W) xs := by
  obtain ⟨fuel, hf⟩ := h
  rw [slice_cells ht hv] at hf
  obtain ⟨v', xs, hcs, hA⟩ := arr_bools ht he hc hf (slice_weight ht hb hw)
  simp only [List.cons.injEq, and_true] at hcs
  subst hcs
  exact ⟨xs, hA⟩
end Go.X

/- The type table of this seat as instances; written by program. No condition. -/
namespace Go.X
open Go.Proofs
set_option maxRecDepth 10000
instance : Und Try.prog 0 (Go.TypeDesc.tuple #[]) := ⟨Try.runUnderlying0⟩
instance : IsAgg Try.prog 0 false := ⟨Try.isAgg0⟩
instance : TySize Try.prog 0 1 := ⟨Try.sizeOf0⟩
instance : TyBytes Try.prog 0 0 := ⟨_, Try.typeInfo0, rfl⟩
instance : Zero Try.prog 0 [(Go.Value.tuple #[])] := ⟨_, Try.zeroValue0, rfl⟩
instance : Und Try.prog 1 (Go.TypeDesc.func #[] #[] Bool.false) := ⟨Try.runUnderlying1⟩
instance : IsAgg Try.prog 1 false := ⟨Try.isAgg1⟩
instance : TySize Try.prog 1 1 := ⟨Try.sizeOf1⟩
instance : TyBytes Try.prog 1 8 := ⟨_, Try.typeInfo1, rfl⟩
instance : Zero Try.prog 1 [Go.Value.nilFunc] := ⟨_, Try.zeroValue1, rfl⟩
instance : Und Try.prog 2 (Go.TypeDesc.int Go.IntKind.i64) := ⟨Try.runUnderlying2⟩
instance : IsAgg Try.prog 2 false := ⟨Try.isAgg2⟩
instance : TySize Try.prog 2 1 := ⟨Try.sizeOf2⟩
instance : TyBytes Try.prog 2 8 := ⟨_, Try.typeInfo2, rfl⟩
instance : Zero Try.prog 2 [(Go.Value.int Go.IntKind.i64 0)] := ⟨_, Try.zeroValue2, rfl⟩
instance : Und Try.prog 3 (Go.TypeDesc.int Go.IntKind.i64) := ⟨Try.runUnderlying3⟩
instance : IsAgg Try.prog 3 false := ⟨Try.isAgg3⟩
instance : TySize Try.prog 3 1 := ⟨Try.sizeOf3⟩
instance : TyBytes Try.prog 3 8 := ⟨_, Try.typeInfo3, rfl⟩
instance : Zero Try.prog 3 [(Go.Value.int Go.IntKind.i64 0)] := ⟨_, Try.zeroValue3, rfl⟩
instance : Und Try.prog 4 Go.TypeDesc.bool := ⟨Try.runUnderlying4⟩
instance : IsAgg Try.prog 4 false := ⟨Try.isAgg4⟩
instance : TySize Try.prog 4 1 := ⟨Try.sizeOf4⟩
instance : TyBytes Try.prog 4 1 := ⟨_, Try.typeInfo4, rfl⟩
instance : Zero Try.prog 4 [(Go.Value.bool Bool.false)] := ⟨_, Try.zeroValue4, rfl⟩
instance : Und Try.prog 5 (Go.TypeDesc.int Go.IntKind.u8) := ⟨Try.runUnderlying5⟩
instance : IsAgg Try.prog 5 false := ⟨Try.isAgg5⟩
instance : TySize Try.prog 5 1 := ⟨Try.sizeOf5⟩
instance : TyBytes Try.prog 5 1 := ⟨_, Try.typeInfo5, rfl⟩
instance : Zero Try.prog 5 [(Go.Value.int Go.IntKind.u8 0)] := ⟨_, Try.zeroValue5, rfl⟩
instance : Und Try.prog 9 Go.TypeDesc.string := ⟨Try.runUnderlying9⟩
instance : IsAgg Try.prog 9 false := ⟨Try.isAgg9⟩
instance : TySize Try.prog 9 1 := ⟨Try.sizeOf9⟩
instance : TyBytes Try.prog 9 16 := ⟨_, Try.typeInfo9, rfl⟩
instance : Zero Try.prog 9 [(Go.Value.string (ByteArray.mk #[]))] := ⟨_, Try.zeroValue9, rfl⟩
instance : Und Try.prog 22 (Go.TypeDesc.slice 5) := ⟨Try.runUnderlying22⟩
instance : IsAgg Try.prog 22 false := ⟨Try.isAgg22⟩
instance : TySize Try.prog 22 1 := ⟨Try.sizeOf22⟩
instance : TyBytes Try.prog 22 24 := ⟨_, Try.typeInfo22, rfl⟩
instance : Zero Try.prog 22 [(Go.Value.slice none 0 0)] := ⟨_, Try.zeroValue22, rfl⟩
instance : Und Try.prog 23 (Go.TypeDesc.slice 39) := ⟨Try.runUnderlying23⟩
instance : IsAgg Try.prog 23 false := ⟨Try.isAgg23⟩
instance : TySize Try.prog 23 1 := ⟨Try.sizeOf23⟩
instance : TyBytes Try.prog 23 24 := ⟨_, Try.typeInfo23, rfl⟩
instance : Zero Try.prog 23 [(Go.Value.slice none 0 0)] := ⟨_, Try.zeroValue23, rfl⟩
instance : Und Try.prog 24 (Go.TypeDesc.slice 62) := ⟨Try.runUnderlying24⟩
instance : IsAgg Try.prog 24 false := ⟨Try.isAgg24⟩
instance : TySize Try.prog 24 1 := ⟨Try.sizeOf24⟩
instance : TyBytes Try.prog 24 24 := ⟨_, Try.typeInfo24, rfl⟩
instance : Zero Try.prog 24 [(Go.Value.slice none 0 0)] := ⟨_, Try.zeroValue24, rfl⟩
instance : Und Try.prog 26 (Go.TypeDesc.struct #[(Go.Field.mk "N" 3 0 Bool.false "" "" 0), (Go.Field.mk "D" 3 1 Bool.false "" "" 8)]) := ⟨Try.runUnderlying26⟩
instance : IsAgg Try.prog 26 true := ⟨Try.isAgg26⟩
instance : TySize Try.prog 26 2 := ⟨Try.sizeOf26⟩
instance : TyBytes Try.prog 26 16 := ⟨_, Try.typeInfo26, rfl⟩
instance : Zero Try.prog 26 [(Go.Value.int Go.IntKind.i64 0), (Go.Value.int Go.IntKind.i64 0)] := ⟨_, Try.zeroValue26, rfl⟩
instance : Fld Try.prog 26 0 0 := Fld.of (n := 1) ⟨Try.runUnderlying26⟩ rfl ⟨Try.sizeOf3⟩ (by decide) rfl
instance : Fld Try.prog 26 1 1 := Fld.of (n := 1) ⟨Try.runUnderlying26⟩ rfl ⟨Try.sizeOf3⟩ (by decide) rfl
instance : Places Try.prog 26 (fun i => ([(0, 1), (1, 1)] : List (Nat × Nat))[i]?) := Places.struct ⟨Try.runUnderlying26⟩ (.c Try.sizeOf3 (.c Try.sizeOf3 .n))
instance : Und Try.prog 28 (Go.TypeDesc.struct #[(Go.Field.mk "Jobs" 23 0 Bool.false "" "" 0), (Go.Field.mk "Racks" 24 1 Bool.false "" "" 24), (Go.Field.mk "Most" 26 2 Bool.false "" "" 48)]) := ⟨Try.runUnderlying28⟩
instance : IsAgg Try.prog 28 true := ⟨Try.isAgg28⟩
instance : TySize Try.prog 28 4 := ⟨Try.sizeOf28⟩
instance : TyBytes Try.prog 28 64 := ⟨_, Try.typeInfo28, rfl⟩
instance : Zero Try.prog 28 [(Go.Value.slice none 0 0), (Go.Value.slice none 0 0), (Go.Value.int Go.IntKind.i64 0), (Go.Value.int Go.IntKind.i64 0)] := ⟨_, Try.zeroValue28, rfl⟩
instance : Fld Try.prog 28 0 0 := Fld.of (n := 1) ⟨Try.runUnderlying28⟩ rfl ⟨Try.sizeOf23⟩ (by decide) rfl
instance : Fld Try.prog 28 1 1 := Fld.of (n := 1) ⟨Try.runUnderlying28⟩ rfl ⟨Try.sizeOf24⟩ (by decide) rfl
instance : Fld Try.prog 28 2 2 := Fld.of (n := 2) ⟨Try.runUnderlying28⟩ rfl ⟨Try.sizeOf26⟩ (by decide) rfl
instance : Places Try.prog 28 (fun i => ([(0, 1), (1, 1), (2, 2)] : List (Nat × Nat))[i]?) := Places.struct ⟨Try.runUnderlying28⟩ (.c Try.sizeOf23 (.c Try.sizeOf24 (.c Try.sizeOf26 .n)))
instance : Und Try.prog 30 (Go.TypeDesc.slice 41) := ⟨Try.runUnderlying30⟩
instance : IsAgg Try.prog 30 false := ⟨Try.isAgg30⟩
instance : TySize Try.prog 30 1 := ⟨Try.sizeOf30⟩
instance : TyBytes Try.prog 30 24 := ⟨_, Try.typeInfo30, rfl⟩
instance : Zero Try.prog 30 [(Go.Value.slice none 0 0)] := ⟨_, Try.zeroValue30, rfl⟩
instance : Und Try.prog 31 (Go.TypeDesc.int Go.IntKind.i64) := ⟨Try.runUnderlying31⟩
instance : IsAgg Try.prog 31 false := ⟨Try.isAgg31⟩
instance : TySize Try.prog 31 1 := ⟨Try.sizeOf31⟩
instance : TyBytes Try.prog 31 8 := ⟨_, Try.typeInfo31, rfl⟩
instance : Zero Try.prog 31 [(Go.Value.int Go.IntKind.i64 0)] := ⟨_, Try.zeroValue31, rfl⟩
instance : Und Try.prog 36 (Go.TypeDesc.slice 3) := ⟨Try.runUnderlying36⟩
instance : IsAgg Try.prog 36 false := ⟨Try.isAgg36⟩
instance : TySize Try.prog 36 1 := ⟨Try.sizeOf36⟩
instance : TyBytes Try.prog 36 24 := ⟨_, Try.typeInfo36, rfl⟩
instance : Zero Try.prog 36 [(Go.Value.slice none 0 0)] := ⟨_, Try.zeroValue36, rfl⟩
instance : Und Try.prog 37 (Go.TypeDesc.array 3 3) := ⟨Try.runUnderlying37⟩
instance : IsAgg Try.prog 37 true := ⟨Try.isAgg37⟩
instance : TySize Try.prog 37 3 := ⟨Try.sizeOf37⟩
instance : TyBytes Try.prog 37 24 := ⟨_, Try.typeInfo37, rfl⟩
instance : Zero Try.prog 37 [(Go.Value.int Go.IntKind.i64 0), (Go.Value.int Go.IntKind.i64 0), (Go.Value.int Go.IntKind.i64 0)] := ⟨_, Try.zeroValue37, rfl⟩
instance : Places Try.prog 37 (fun i => some (i * 1, 1)) := Places.array ⟨Try.runUnderlying37⟩ ⟨Try.sizeOf3⟩
instance : Und Try.prog 39 (Go.TypeDesc.struct #[(Go.Field.mk "Need" 37 0 Bool.false "" "" 0), (Go.Field.mk "Draws" 30 3 Bool.false "" "" 24), (Go.Field.mk "Group" 3 4 Bool.false "" "" 48), (Go.Field.mk "Worth" 3 5 Bool.false "" "" 56)]) := ⟨Try.runUnderlying39⟩
instance : IsAgg Try.prog 39 true := ⟨Try.isAgg39⟩
instance : TySize Try.prog 39 6 := ⟨Try.sizeOf39⟩
instance : TyBytes Try.prog 39 64 := ⟨_, Try.typeInfo39, rfl⟩
instance : Zero Try.prog 39 [(Go.Value.int Go.IntKind.i64 0), (Go.Value.int Go.IntKind.i64 0), (Go.Value.int Go.IntKind.i64 0), (Go.Value.slice none 0 0), (Go.Value.int Go.IntKind.i64 0), (Go.Value.int Go.IntKind.i64 0)] := ⟨_, Try.zeroValue39, rfl⟩
instance : Fld Try.prog 39 0 0 := Fld.of (n := 3) ⟨Try.runUnderlying39⟩ rfl ⟨Try.sizeOf37⟩ (by decide) rfl
instance : Fld Try.prog 39 1 3 := Fld.of (n := 1) ⟨Try.runUnderlying39⟩ rfl ⟨Try.sizeOf30⟩ (by decide) rfl
instance : Fld Try.prog 39 2 4 := Fld.of (n := 1) ⟨Try.runUnderlying39⟩ rfl ⟨Try.sizeOf3⟩ (by decide) rfl
instance : Fld Try.prog 39 3 5 := Fld.of (n := 1) ⟨Try.runUnderlying39⟩ rfl ⟨Try.sizeOf3⟩ (by decide) rfl
instance : Places Try.prog 39 (fun i => ([(0, 3), (3, 1), (4, 1), (5, 1)] : List (Nat × Nat))[i]?) := Places.struct ⟨Try.runUnderlying39⟩ (.c Try.sizeOf37 (.c Try.sizeOf30 (.c Try.sizeOf3 (.c Try.sizeOf3 .n))))
instance : Und Try.prog 41 (Go.TypeDesc.struct #[(Go.Field.mk "Power" 3 0 Bool.false "" "" 0), (Go.Field.mk "Count" 3 1 Bool.false "" "" 8)]) := ⟨Try.runUnderlying41⟩
instance : IsAgg Try.prog 41 true := ⟨Try.isAgg41⟩
instance : TySize Try.prog 41 2 := ⟨Try.sizeOf41⟩
instance : TyBytes Try.prog 41 16 := ⟨_, Try.typeInfo41, rfl⟩
instance : Zero Try.prog 41 [(Go.Value.int Go.IntKind.i64 0), (Go.Value.int Go.IntKind.i64 0)] := ⟨_, Try.zeroValue41, rfl⟩
instance : Fld Try.prog 41 0 0 := Fld.of (n := 1) ⟨Try.runUnderlying41⟩ rfl ⟨Try.sizeOf3⟩ (by decide) rfl
instance : Fld Try.prog 41 1 1 := Fld.of (n := 1) ⟨Try.runUnderlying41⟩ rfl ⟨Try.sizeOf3⟩ (by decide) rfl
instance : Places Try.prog 41 (fun i => ([(0, 1), (1, 1)] : List (Nat × Nat))[i]?) := Places.struct ⟨Try.runUnderlying41⟩ (.c Try.sizeOf3 (.c Try.sizeOf3 .n))
instance : Und Try.prog 44 (Go.TypeDesc.slice 4) := ⟨Try.runUnderlying44⟩
instance : IsAgg Try.prog 44 false := ⟨Try.isAgg44⟩
instance : TySize Try.prog 44 1 := ⟨Try.sizeOf44⟩
instance : TyBytes Try.prog 44 24 := ⟨_, Try.typeInfo44, rfl⟩
instance : Zero Try.prog 44 [(Go.Value.slice none 0 0)] := ⟨_, Try.zeroValue44, rfl⟩
instance : Und Try.prog 46 (Go.TypeDesc.struct #[(Go.Field.mk "Where" 36 0 Bool.false "" "" 0), (Go.Field.mk "Worth" 3 1 Bool.false "" "" 24), (Go.Field.mk "Proof" 44 2 Bool.false "" "" 32)]) := ⟨Try.runUnderlying46⟩
instance : IsAgg Try.prog 46 true := ⟨Try.isAgg46⟩
instance : TySize Try.prog 46 3 := ⟨Try.sizeOf46⟩
instance : TyBytes Try.prog 46 56 := ⟨_, Try.typeInfo46, rfl⟩
instance : Zero Try.prog 46 [(Go.Value.slice none 0 0), (Go.Value.int Go.IntKind.i64 0), (Go.Value.slice none 0 0)] := ⟨_, Try.zeroValue46, rfl⟩
instance : Fld Try.prog 46 0 0 := Fld.of (n := 1) ⟨Try.runUnderlying46⟩ rfl ⟨Try.sizeOf36⟩ (by decide) rfl
instance : Fld Try.prog 46 1 1 := Fld.of (n := 1) ⟨Try.runUnderlying46⟩ rfl ⟨Try.sizeOf3⟩ (by decide) rfl
instance : Fld Try.prog 46 2 2 := Fld.of (n := 1) ⟨Try.runUnderlying46⟩ rfl ⟨Try.sizeOf44⟩ (by decide) rfl
instance : Places Try.prog 46 (fun i => ([(0, 1), (1, 1), (2, 1)] : List (Nat × Nat))[i]?) := Places.struct ⟨Try.runUnderlying46⟩ (.c Try.sizeOf36 (.c Try.sizeOf3 (.c Try.sizeOf44 .n)))
instance : Und Try.prog 52 (Go.TypeDesc.struct #[(Go.Field.mk "l" 22 0 Bool.false "" "switchgear/switchgearlaw09" 0), (Go.Field.mk "i" 3 1 Bool.false "" "switchgear/switchgearlaw09" 24)]) := ⟨Try.runUnderlying52⟩
instance : IsAgg Try.prog 52 true := ⟨Try.isAgg52⟩
instance : TySize Try.prog 52 2 := ⟨Try.sizeOf52⟩
instance : TyBytes Try.prog 52 32 := ⟨_, Try.typeInfo52, rfl⟩
instance : Zero Try.prog 52 [(Go.Value.slice none 0 0), (Go.Value.int Go.IntKind.i64 0)] := ⟨_, Try.zeroValue52, rfl⟩
instance : Fld Try.prog 52 0 0 := Fld.of (n := 1) ⟨Try.runUnderlying52⟩ rfl ⟨Try.sizeOf22⟩ (by decide) rfl
instance : Fld Try.prog 52 1 1 := Fld.of (n := 1) ⟨Try.runUnderlying52⟩ rfl ⟨Try.sizeOf3⟩ (by decide) rfl
instance : Places Try.prog 52 (fun i => ([(0, 1), (1, 1)] : List (Nat × Nat))[i]?) := Places.struct ⟨Try.runUnderlying52⟩ (.c Try.sizeOf22 (.c Try.sizeOf3 .n))
instance : Und Try.prog 56 (Go.TypeDesc.slice 44) := ⟨Try.runUnderlying56⟩
instance : IsAgg Try.prog 56 false := ⟨Try.isAgg56⟩
instance : TySize Try.prog 56 1 := ⟨Try.sizeOf56⟩
instance : TyBytes Try.prog 56 24 := ⟨_, Try.typeInfo56, rfl⟩
instance : Zero Try.prog 56 [(Go.Value.slice none 0 0)] := ⟨_, Try.zeroValue56, rfl⟩
instance : Und Try.prog 58 (Go.TypeDesc.slice 63) := ⟨Try.runUnderlying58⟩
instance : IsAgg Try.prog 58 false := ⟨Try.isAgg58⟩
instance : TySize Try.prog 58 1 := ⟨Try.sizeOf58⟩
instance : TyBytes Try.prog 58 24 := ⟨_, Try.typeInfo58, rfl⟩
instance : Zero Try.prog 58 [(Go.Value.slice none 0 0)] := ⟨_, Try.zeroValue58, rfl⟩
instance : Und Try.prog 62 (Go.TypeDesc.struct #[(Go.Field.mk "Room" 37 0 Bool.false "" "" 0), (Go.Field.mk "Cap" 3 3 Bool.false "" "" 24), (Go.Field.mk "Domain" 3 4 Bool.false "" "" 32)]) := ⟨Try.runUnderlying62⟩
instance : IsAgg Try.prog 62 true := ⟨Try.isAgg62⟩
instance : TySize Try.prog 62 5 := ⟨Try.sizeOf62⟩
instance : TyBytes Try.prog 62 40 := ⟨_, Try.typeInfo62, rfl⟩
instance : Zero Try.prog 62 [(Go.Value.int Go.IntKind.i64 0), (Go.Value.int Go.IntKind.i64 0), (Go.Value.int Go.IntKind.i64 0), (Go.Value.int Go.IntKind.i64 0), (Go.Value.int Go.IntKind.i64 0)] := ⟨_, Try.zeroValue62, rfl⟩
instance : Fld Try.prog 62 0 0 := Fld.of (n := 3) ⟨Try.runUnderlying62⟩ rfl ⟨Try.sizeOf37⟩ (by decide) rfl
instance : Fld Try.prog 62 1 3 := Fld.of (n := 1) ⟨Try.runUnderlying62⟩ rfl ⟨Try.sizeOf3⟩ (by decide) rfl
instance : Fld Try.prog 62 2 4 := Fld.of (n := 1) ⟨Try.runUnderlying62⟩ rfl ⟨Try.sizeOf3⟩ (by decide) rfl
instance : Places Try.prog 62 (fun i => ([(0, 3), (3, 1), (4, 1)] : List (Nat × Nat))[i]?) := Places.struct ⟨Try.runUnderlying62⟩ (.c Try.sizeOf37 (.c Try.sizeOf3 (.c Try.sizeOf3 .n)))
instance : Und Try.prog 63 (Go.TypeDesc.array 4 3) := ⟨Try.runUnderlying63⟩
instance : IsAgg Try.prog 63 true := ⟨Try.isAgg63⟩
instance : TySize Try.prog 63 4 := ⟨Try.sizeOf63⟩
instance : TyBytes Try.prog 63 32 := ⟨_, Try.typeInfo63, rfl⟩
instance : Zero Try.prog 63 [(Go.Value.int Go.IntKind.i64 0), (Go.Value.int Go.IntKind.i64 0), (Go.Value.int Go.IntKind.i64 0), (Go.Value.int Go.IntKind.i64 0)] := ⟨_, Try.zeroValue63, rfl⟩
instance : Places Try.prog 63 (fun i => some (i * 1, 1)) := Places.array ⟨Try.runUnderlying63⟩ ⟨Try.sizeOf3⟩
instance : Und Try.prog 74 (Go.TypeDesc.slice 26) := ⟨Try.runUnderlying74⟩
instance : IsAgg Try.prog 74 false := ⟨Try.isAgg74⟩
instance : TySize Try.prog 74 1 := ⟨Try.sizeOf74⟩
instance : TyBytes Try.prog 74 24 := ⟨_, Try.typeInfo74, rfl⟩
instance : Zero Try.prog 74 [(Go.Value.slice none 0 0)] := ⟨_, Try.zeroValue74, rfl⟩
instance : Und Try.prog 76 (Go.TypeDesc.map 3 3) := ⟨Try.runUnderlying76⟩
instance : IsAgg Try.prog 76 false := ⟨Try.isAgg76⟩
instance : TySize Try.prog 76 1 := ⟨Try.sizeOf76⟩
instance : TyBytes Try.prog 76 8 := ⟨_, Try.typeInfo76, rfl⟩
instance : Zero Try.prog 76 [(Go.Value.map none)] := ⟨_, Try.zeroValue76, rfl⟩
instance : Und Try.prog 87 (Go.TypeDesc.pointer 90) := ⟨Try.runUnderlying87⟩
instance : IsAgg Try.prog 87 false := ⟨Try.isAgg87⟩
instance : TySize Try.prog 87 1 := ⟨Try.sizeOf87⟩
instance : TyBytes Try.prog 87 8 := ⟨_, Try.typeInfo87, rfl⟩
instance : Zero Try.prog 87 [(Go.Value.pointer none)] := ⟨_, Try.zeroValue87, rfl⟩
instance : Und Try.prog 88 (Go.TypeDesc.map 122 4) := ⟨Try.runUnderlying88⟩
instance : IsAgg Try.prog 88 false := ⟨Try.isAgg88⟩
instance : TySize Try.prog 88 1 := ⟨Try.sizeOf88⟩
instance : TyBytes Try.prog 88 8 := ⟨_, Try.typeInfo88, rfl⟩
instance : Zero Try.prog 88 [(Go.Value.map none)] := ⟨_, Try.zeroValue88, rfl⟩
instance : Und Try.prog 90 (Go.TypeDesc.struct #[(Go.Field.mk "Task" 28 0 Bool.true "" "" 0), (Go.Field.mk "known" 88 4 Bool.false "" "switchgear/place" 64)]) := ⟨Try.runUnderlying90⟩
instance : IsAgg Try.prog 90 true := ⟨Try.isAgg90⟩
instance : TySize Try.prog 90 5 := ⟨Try.sizeOf90⟩
instance : TyBytes Try.prog 90 72 := ⟨_, Try.typeInfo90, rfl⟩
instance : Zero Try.prog 90 [(Go.Value.slice none 0 0), (Go.Value.slice none 0 0), (Go.Value.int Go.IntKind.i64 0), (Go.Value.int Go.IntKind.i64 0), (Go.Value.map none)] := ⟨_, Try.zeroValue90, rfl⟩
instance : Fld Try.prog 90 0 0 := Fld.of (n := 4) ⟨Try.runUnderlying90⟩ rfl ⟨Try.sizeOf28⟩ (by decide) rfl
instance : Fld Try.prog 90 1 4 := Fld.of (n := 1) ⟨Try.runUnderlying90⟩ rfl ⟨Try.sizeOf88⟩ (by decide) rfl
instance : Places Try.prog 90 (fun i => ([(0, 4), (4, 1)] : List (Nat × Nat))[i]?) := Places.struct ⟨Try.runUnderlying90⟩ (.c Try.sizeOf28 (.c Try.sizeOf88 .n))
instance : Und Try.prog 91 (Go.TypeDesc.func #[36] #[] Bool.false) := ⟨Try.runUnderlying91⟩
instance : IsAgg Try.prog 91 false := ⟨Try.isAgg91⟩
instance : TySize Try.prog 91 1 := ⟨Try.sizeOf91⟩
instance : TyBytes Try.prog 91 8 := ⟨_, Try.typeInfo91, rfl⟩
instance : Zero Try.prog 91 [Go.Value.nilFunc] := ⟨_, Try.zeroValue91, rfl⟩
instance : Und Try.prog 97 (Go.TypeDesc.func #[36] #[4] Bool.false) := ⟨Try.runUnderlying97⟩
instance : IsAgg Try.prog 97 false := ⟨Try.isAgg97⟩
instance : TySize Try.prog 97 1 := ⟨Try.sizeOf97⟩
instance : TyBytes Try.prog 97 8 := ⟨_, Try.typeInfo97, rfl⟩
instance : Zero Try.prog 97 [Go.Value.nilFunc] := ⟨_, Try.zeroValue97, rfl⟩
instance : Und Try.prog 101 (Go.TypeDesc.slice 127) := ⟨Try.runUnderlying101⟩
instance : IsAgg Try.prog 101 false := ⟨Try.isAgg101⟩
instance : TySize Try.prog 101 1 := ⟨Try.sizeOf101⟩
instance : TyBytes Try.prog 101 24 := ⟨_, Try.typeInfo101, rfl⟩
instance : Zero Try.prog 101 [(Go.Value.slice none 0 0)] := ⟨_, Try.zeroValue101, rfl⟩
instance : Und Try.prog 104 (Go.TypeDesc.slice 108) := ⟨Try.runUnderlying104⟩
instance : IsAgg Try.prog 104 false := ⟨Try.isAgg104⟩
instance : TySize Try.prog 104 1 := ⟨Try.sizeOf104⟩
instance : TyBytes Try.prog 104 24 := ⟨_, Try.typeInfo104, rfl⟩
instance : Zero Try.prog 104 [(Go.Value.slice none 0 0)] := ⟨_, Try.zeroValue104, rfl⟩
instance : Und Try.prog 108 (Go.TypeDesc.struct #[(Go.Field.mk "Power" 3 0 Bool.false "" "" 0), (Go.Field.mk "Count" 3 1 Bool.false "" "" 8)]) := ⟨Try.runUnderlying108⟩
instance : IsAgg Try.prog 108 true := ⟨Try.isAgg108⟩
instance : TySize Try.prog 108 2 := ⟨Try.sizeOf108⟩
instance : TyBytes Try.prog 108 16 := ⟨_, Try.typeInfo108, rfl⟩
instance : Zero Try.prog 108 [(Go.Value.int Go.IntKind.i64 0), (Go.Value.int Go.IntKind.i64 0)] := ⟨_, Try.zeroValue108, rfl⟩
instance : Fld Try.prog 108 0 0 := Fld.of (n := 1) ⟨Try.runUnderlying108⟩ rfl ⟨Try.sizeOf3⟩ (by decide) rfl
instance : Fld Try.prog 108 1 1 := Fld.of (n := 1) ⟨Try.runUnderlying108⟩ rfl ⟨Try.sizeOf3⟩ (by decide) rfl
instance : Places Try.prog 108 (fun i => ([(0, 1), (1, 1)] : List (Nat × Nat))[i]?) := Places.struct ⟨Try.runUnderlying108⟩ (.c Try.sizeOf3 (.c Try.sizeOf3 .n))
instance : Und Try.prog 113 (Go.TypeDesc.struct #[(Go.Field.mk "Room" 37 0 Bool.false "" "" 0), (Go.Field.mk "Cap" 3 3 Bool.false "" "" 24), (Go.Field.mk "Domain" 3 4 Bool.false "" "" 32)]) := ⟨Try.runUnderlying113⟩
instance : IsAgg Try.prog 113 true := ⟨Try.isAgg113⟩
instance : TySize Try.prog 113 5 := ⟨Try.sizeOf113⟩
instance : TyBytes Try.prog 113 40 := ⟨_, Try.typeInfo113, rfl⟩
instance : Zero Try.prog 113 [(Go.Value.int Go.IntKind.i64 0), (Go.Value.int Go.IntKind.i64 0), (Go.Value.int Go.IntKind.i64 0), (Go.Value.int Go.IntKind.i64 0), (Go.Value.int Go.IntKind.i64 0)] := ⟨_, Try.zeroValue113, rfl⟩
instance : Fld Try.prog 113 0 0 := Fld.of (n := 3) ⟨Try.runUnderlying113⟩ rfl ⟨Try.sizeOf37⟩ (by decide) rfl
instance : Fld Try.prog 113 1 3 := Fld.of (n := 1) ⟨Try.runUnderlying113⟩ rfl ⟨Try.sizeOf3⟩ (by decide) rfl
instance : Fld Try.prog 113 2 4 := Fld.of (n := 1) ⟨Try.runUnderlying113⟩ rfl ⟨Try.sizeOf3⟩ (by decide) rfl
instance : Places Try.prog 113 (fun i => ([(0, 3), (3, 1), (4, 1)] : List (Nat × Nat))[i]?) := Places.struct ⟨Try.runUnderlying113⟩ (.c Try.sizeOf37 (.c Try.sizeOf3 (.c Try.sizeOf3 .n)))
instance : Und Try.prog 117 (Go.TypeDesc.slice 23) := ⟨Try.runUnderlying117⟩
instance : IsAgg Try.prog 117 false := ⟨Try.isAgg117⟩
instance : TySize Try.prog 117 1 := ⟨Try.sizeOf117⟩
instance : TyBytes Try.prog 117 24 := ⟨_, Try.typeInfo117, rfl⟩
instance : Zero Try.prog 117 [(Go.Value.slice none 0 0)] := ⟨_, Try.zeroValue117, rfl⟩
instance : Und Try.prog 122 (Go.TypeDesc.array 2 3) := ⟨Try.runUnderlying122⟩
instance : IsAgg Try.prog 122 true := ⟨Try.isAgg122⟩
instance : TySize Try.prog 122 2 := ⟨Try.sizeOf122⟩
instance : TyBytes Try.prog 122 16 := ⟨_, Try.typeInfo122, rfl⟩
instance : Zero Try.prog 122 [(Go.Value.int Go.IntKind.i64 0), (Go.Value.int Go.IntKind.i64 0)] := ⟨_, Try.zeroValue122, rfl⟩
instance : Places Try.prog 122 (fun i => some (i * 1, 1)) := Places.array ⟨Try.runUnderlying122⟩ ⟨Try.sizeOf3⟩
instance : Und Try.prog 127 (Go.TypeDesc.struct #[(Go.Field.mk "Need" 37 0 Bool.false "" "" 0), (Go.Field.mk "Draws" 104 3 Bool.false "" "" 24), (Go.Field.mk "Group" 3 4 Bool.false "" "" 48), (Go.Field.mk "Worth" 3 5 Bool.false "" "" 56)]) := ⟨Try.runUnderlying127⟩
instance : IsAgg Try.prog 127 true := ⟨Try.isAgg127⟩
instance : TySize Try.prog 127 6 := ⟨Try.sizeOf127⟩
instance : TyBytes Try.prog 127 64 := ⟨_, Try.typeInfo127, rfl⟩
instance : Zero Try.prog 127 [(Go.Value.int Go.IntKind.i64 0), (Go.Value.int Go.IntKind.i64 0), (Go.Value.int Go.IntKind.i64 0), (Go.Value.slice none 0 0), (Go.Value.int Go.IntKind.i64 0), (Go.Value.int Go.IntKind.i64 0)] := ⟨_, Try.zeroValue127, rfl⟩
instance : Fld Try.prog 127 0 0 := Fld.of (n := 3) ⟨Try.runUnderlying127⟩ rfl ⟨Try.sizeOf37⟩ (by decide) rfl
instance : Fld Try.prog 127 1 3 := Fld.of (n := 1) ⟨Try.runUnderlying127⟩ rfl ⟨Try.sizeOf104⟩ (by decide) rfl
instance : Fld Try.prog 127 2 4 := Fld.of (n := 1) ⟨Try.runUnderlying127⟩ rfl ⟨Try.sizeOf3⟩ (by decide) rfl
instance : Fld Try.prog 127 3 5 := Fld.of (n := 1) ⟨Try.runUnderlying127⟩ rfl ⟨Try.sizeOf3⟩ (by decide) rfl
instance : Places Try.prog 127 (fun i => ([(0, 3), (3, 1), (4, 1), (5, 1)] : List (Nat × Nat))[i]?) := Places.struct ⟨Try.runUnderlying127⟩ (.c Try.sizeOf37 (.c Try.sizeOf104 (.c Try.sizeOf3 (.c Try.sizeOf3 .n))))
instance : Und Try.prog 140 (Go.TypeDesc.int Go.IntKind.u64) := ⟨Try.runUnderlying140⟩
instance : IsAgg Try.prog 140 false := ⟨Try.isAgg140⟩
instance : TySize Try.prog 140 1 := ⟨Try.sizeOf140⟩
instance : TyBytes Try.prog 140 8 := ⟨_, Try.typeInfo140, rfl⟩
instance : Zero Try.prog 140 [(Go.Value.int Go.IntKind.u64 0)] := ⟨_, Try.zeroValue140, rfl⟩
instance : Und Try.prog 148 (Go.TypeDesc.int Go.IntKind.i64) := ⟨Try.runUnderlying148⟩
instance : IsAgg Try.prog 148 false := ⟨Try.isAgg148⟩
instance : TySize Try.prog 148 1 := ⟨Try.sizeOf148⟩
instance : TyBytes Try.prog 148 8 := ⟨_, Try.typeInfo148, rfl⟩
instance : Zero Try.prog 148 [(Go.Value.int Go.IntKind.i64 0)] := ⟨_, Try.zeroValue148, rfl⟩
instance : Und Try.prog 157 (Go.TypeDesc.int Go.IntKind.u32) := ⟨Try.runUnderlying157⟩
instance : IsAgg Try.prog 157 false := ⟨Try.isAgg157⟩
instance : TySize Try.prog 157 1 := ⟨Try.sizeOf157⟩
instance : TyBytes Try.prog 157 4 := ⟨_, Try.typeInfo157, rfl⟩
instance : Zero Try.prog 157 [(Go.Value.int Go.IntKind.u32 0)] := ⟨_, Try.zeroValue157, rfl⟩
instance : Und Try.prog 159 (Go.TypeDesc.int Go.IntKind.u64) := ⟨Try.runUnderlying159⟩
instance : IsAgg Try.prog 159 false := ⟨Try.isAgg159⟩
instance : TySize Try.prog 159 1 := ⟨Try.sizeOf159⟩
instance : TyBytes Try.prog 159 8 := ⟨_, Try.typeInfo159, rfl⟩
instance : Zero Try.prog 159 [(Go.Value.int Go.IntKind.u64 0)] := ⟨_, Try.zeroValue159, rfl⟩
instance : Und Try.prog 161 (Go.TypeDesc.int Go.IntKind.u64) := ⟨Try.runUnderlying161⟩
instance : IsAgg Try.prog 161 false := ⟨Try.isAgg161⟩
instance : TySize Try.prog 161 1 := ⟨Try.sizeOf161⟩
instance : TyBytes Try.prog 161 8 := ⟨_, Try.typeInfo161, rfl⟩
instance : Zero Try.prog 161 [(Go.Value.int Go.IntKind.u64 0)] := ⟨_, Try.zeroValue161, rfl⟩
theorem _root_.Go.Proofs.Try.mixed : Try.prog.follows .mixedOrders = true := by kernel_rfl
end Go.X

set_option linter.unusedSimpArgs false
set_option linter.unusedVariables false
set_option maxRecDepth 20000
namespace Go.X
open Go.Proofs
def encDraw (x : PDraw) : List Value := [.int .i64 x.power, .int .i64 x.count]
def encPJ (x : Value × PJob) : List Value := [.int .i64 x.2.n0, .int .i64 x.2.n1, .int .i64 x.2.n2, x.1, .int .i64 x.2.group, .int .i64 x.2.worth]
def encRack (x : PRack) : List Value := [.int .i64 x.r0, .int .i64 x.r1, .int .i64 x.r2, .int .i64 x.cap, .int .i64 x.domain]
/-- The draws of jobs lie in one heap. -/
def JobsK (ms : List (Value × PJob)) (K : PHeap) : Prop := ∀ i, i < ms.length → Arr (ms.getD i default).1 encDraw 2 K (ms.getD i default).2.draws
theorem map_snd_atP (l : List (Value × PJob)) (i : Nat) : (l.map Prod.snd).getD i default = (l.getD i default).2 := by
  rw [List.getD_eq_getElem?_getD, List.getD_eq_getElem?_getD, List.getElem?_map]
  cases l[i]? <;> rfl
theorem indexFuncI (v : Value) (h : PHeap) (xs : List Int) [s : Arr v encI 1 h xs] (gid : FuncId) (cap : List Value) (Hr : List PHeap) (p : Int → Bool)
    (hc : ∀ args w, (callFunc gid args).run Try.prog w = .ok (.enter gid args) w) (hS : ∀ x ∈ xs, Spec Try.prog gid (.int .i64 x :: cap).toArray [] Hr (fun v hs => v = .bool (p x) ∧ hs = [])) :
    Spec Try.prog 88 #[v, .func (.func gid) #[] cap.toArray] [] (h :: Hr) (fun v hs => v = .int .i64 (findFirst p xs) ∧ hs = []) := by
  refine Spec.intro (fn := Try.f88) (N := 19) Try.func88 rfl Try.ntmps88 rfl fun B => ?_
  refine XK.seq ?_
  refine XK.region rfl ?_
  refine XO.q (Q.assign rfl) ?_
  refine XO.done ?_
  refine XK.seq ?_
  refine XK.seq ?_
  refine XK.region rfl ?_
  refine XO.q (Q.move rfl) ?_
  refine XO.len rfl fun l7 => ?_
  refine XO.q (Q.move rfl) ?_
  refine XO.done ?_
  refine XK.block ?_
  refine XK.while (X := Nat) [4, 5, 8, 9, 10, 11, 12, 13, 14, 15, 16, 17, 18] (fun i => [(8, some (.int .i64 (i : Nat)))]) (fun i => []) (fun i => i ≤ xs.length ∧ (xs.take i).any p = false) (fun i => xs.length - i) (0) [] rfl ⟨by omega, rfl⟩ (.c rfl (.base 0 rfl rfl)) ?_
  rintro i ⟨hi, ht⟩ ih0
  dsimp only [List.cons_append, List.nil_append] at ih0 ⊢
  refine XK.seq ?_
  refine XK.region rfl ?_
  refine XO.q (Q.lss rfl rfl) ?_
  refine XO.done ?_
  refine XK.seq ?_
  refine XK.if rfl (fun c0 => ?_) (fun c0 => ?_)
  · have _t0 := True.intro
    refine XK.skip ?_
    refine XK.seq ?_
    refine XK.block ?_
    refine XK.seq ?_
    refine XK.region rfl ?_
    refine XO.q (Q.move rfl) ?_
    refine XO.q (Q.assign rfl) ?_
    refine XO.done ?_
    refine XK.seq ?_
    refine XK.region rfl ?_
    refine XO.q (Q.move rfl) ?_
    refine XO.q (Q.move rfl) ?_
    refine XO.q (Q.move rfl) ?_
    refine XO.ix rfl rfl (by omega) (by omega) fun i14 => ?_
    refine XO.q (Q.ldE rfl (by first | assumption | omega) rfl) ?_
    refine XO.call hc rfl rfl rfl (hS _ (getD_mem (by omega))) fun v16 s16 R16 => ?_
    obtain ⟨rfl, rfl⟩ := R16
    dsimp only [List.cons_append, List.nil_append]
    refine XO.done ?_
    refine XK.if rfl (fun c1 => ?_) (fun c1 => ?_)
    · have _t1 := True.intro
      refine XK.seq ?_
      refine XK.region rfl ?_
      refine XO.q (Q.move rfl) ?_
      refine XO.q (Q.assign rfl) ?_
      refine XO.done ?_
      refine XK.rt [] Try.func88 Try.results88 (.t rfl .n) ?_
      exact ⟨by rw [findFirst_here ht (by omega) c1], rfl⟩
    · have _t1 := True.intro
      refine XK.skip ?_
      refine XK.inBlock ?_
      refine XK.region rfl ?_
      refine XO.q (Q.add rfl rfl ⟨by omega, by omega⟩) ?_
      refine XO.q (Q.move rfl) ?_
      refine XO.done ?_
      exact ih0 (i + 1) _ _ ⟨by omega, any_step ht (by omega) (Bool.eq_false_iff.2 c1)⟩ (by first | omega | (dsimp only; omega)) (.c rfl (.base 25 rfl rfl)) inferInstance
  · have _t0 := True.intro
    refine XK.exit rfl ?_
    refine XK.seq ?_
    refine XK.region rfl ?_
    refine XO.q (Q.assign rfl) ?_
    refine XO.done ?_
    refine XK.rt [] Try.func88 Try.results88 (.t rfl .n) ?_
    exact ⟨by rw [findFirst_none ht c0], rfl⟩
theorem containsFuncI (v : Value) (h : PHeap) (xs : List Int) [s : Arr v encI 1 h xs] (gid : FuncId) (cap : List Value) (Hr : List PHeap) (p : Int → Bool)
    (hc : ∀ args w, (callFunc gid args).run Try.prog w = .ok (.enter gid args) w) (hS : ∀ x ∈ xs, Spec Try.prog gid (.int .i64 x :: cap).toArray [] Hr (fun v hs => v = .bool (p x) ∧ hs = [])) :
    Spec Try.prog 67 #[v, .func (.func gid) #[] cap.toArray] [] (h :: Hr) (fun v hs => v = .bool (xs.any p) ∧ hs = []) := by
  refine Spec.intro (fn := Try.f67) (N := 9) Try.func67 rfl Try.ntmps67 rfl fun B => ?_
  refine XK.seq ?_
  refine XK.region rfl ?_
  refine XO.q (Q.assign rfl) ?_
  refine XO.done ?_
  refine XK.seq ?_
  refine XK.region rfl ?_
  refine XO.q (Q.move rfl) ?_
  refine XO.q (Q.move rfl) ?_
  refine XO.call Try.call88 rfl rfl rfl (indexFuncI v h xs gid cap Hr p hc hS) fun v7 s7 R7 => ?_
  obtain ⟨rfl, rfl⟩ := R7
  dsimp only [List.cons_append, List.nil_append]
  refine XO.q (Q.geq rfl rfl) ?_
  refine XO.q (Q.assign rfl) ?_
  refine XO.done ?_
  refine XK.rt [] Try.func67 Try.results67 (.t rfl .n) ?_
  exact ⟨by rw [← findFirst_any], rfl⟩
theorem indexFuncPJ (v : Value) (h : PHeap) (xs : List (Value × PJob)) [s : Arr v encPJ 6 h xs] (gid : FuncId) (cap : List Value) (Hr : List PHeap) (p : (Value × PJob) → Bool)
    (hc : ∀ args w, (callFunc gid args).run Try.prog w = .ok (.enter gid args) w) (hS : ∀ x ∈ xs, Spec Try.prog gid (.agg #[.int .i64 x.2.n0, .int .i64 x.2.n1, .int .i64 x.2.n2, x.1, .int .i64 x.2.group, .int .i64 x.2.worth] :: cap).toArray [] Hr (fun v hs => v = .bool (p x) ∧ hs = [])) :
    Spec Try.prog 69 #[v, .func (.func gid) #[] cap.toArray] [] (h :: Hr) (fun v hs => v = .int .i64 (findFirst p xs) ∧ hs = []) := by
  refine Spec.intro (fn := Try.f69) (N := 19) Try.func69 rfl Try.ntmps69 rfl fun B => ?_
  refine XK.seq ?_
  refine XK.region rfl ?_
  refine XO.q (Q.assign rfl) ?_
  refine XO.done ?_
  refine XK.seq ?_
  refine XK.seq ?_
  refine XK.region rfl ?_
  refine XO.q (Q.move rfl) ?_
  refine XO.len rfl fun l7 => ?_
  refine XO.q (Q.move rfl) ?_
  refine XO.done ?_
  refine XK.block ?_
  refine XK.while (X := Nat) [4, 5, 8, 9, 10, 11, 12, 13, 14, 15, 16, 17, 18] (fun i => [(8, some (.int .i64 (i : Nat)))]) (fun i => []) (fun i => i ≤ xs.length ∧ (xs.take i).any p = false) (fun i => xs.length - i) (0) [] rfl ⟨by omega, rfl⟩ (.c rfl (.base 0 rfl rfl)) ?_
  rintro i ⟨hi, ht⟩ ih0
  dsimp only [List.cons_append, List.nil_append] at ih0 ⊢
  refine XK.seq ?_
  refine XK.region rfl ?_
  refine XO.q (Q.lss rfl rfl) ?_
  refine XO.done ?_
  refine XK.seq ?_
  refine XK.if rfl (fun c0 => ?_) (fun c0 => ?_)
  · have _t0 := True.intro
    refine XK.skip ?_
    refine XK.seq ?_
    refine XK.block ?_
    refine XK.seq ?_
    refine XK.region rfl ?_
    refine XO.q (Q.move rfl) ?_
    refine XO.q (Q.assign rfl) ?_
    refine XO.done ?_
    refine XK.seq ?_
    refine XK.region rfl ?_
    refine XO.q (Q.move rfl) ?_
    refine XO.q (Q.move rfl) ?_
    refine XO.q (Q.move rfl) ?_
    refine XO.ix rfl rfl (by omega) (by omega) fun i14 => ?_
    refine XO.q (Q.ldEA [_, _, _, _, _, _] rfl (by first | assumption | omega) rfl rfl) ?_
    refine XO.call hc rfl rfl rfl (hS _ (getD_mem (by omega))) fun v16 s16 R16 => ?_
    obtain ⟨rfl, rfl⟩ := R16
    dsimp only [List.cons_append, List.nil_append]
    refine XO.done ?_
    refine XK.if rfl (fun c1 => ?_) (fun c1 => ?_)
    · have _t1 := True.intro
      refine XK.seq ?_
      refine XK.region rfl ?_
      refine XO.q (Q.move rfl) ?_
      refine XO.q (Q.assign rfl) ?_
      refine XO.done ?_
      refine XK.rt [] Try.func69 Try.results69 (.t rfl .n) ?_
      exact ⟨by rw [findFirst_here ht (by omega) c1], rfl⟩
    · have _t1 := True.intro
      refine XK.skip ?_
      refine XK.inBlock ?_
      refine XK.region rfl ?_
      refine XO.q (Q.add rfl rfl ⟨by omega, by omega⟩) ?_
      refine XO.q (Q.move rfl) ?_
      refine XO.done ?_
      exact ih0 (i + 1) _ _ ⟨by omega, any_step ht (by omega) (Bool.eq_false_iff.2 c1)⟩ (by first | omega | (dsimp only; omega)) (.c rfl (.base 25 rfl rfl)) inferInstance
  · have _t0 := True.intro
    refine XK.exit rfl ?_
    refine XK.seq ?_
    refine XK.region rfl ?_
    refine XO.q (Q.assign rfl) ?_
    refine XO.done ?_
    refine XK.rt [] Try.func69 Try.results69 (.t rfl .n) ?_
    exact ⟨by rw [findFirst_none ht c0], rfl⟩
theorem containsFuncPJ (v : Value) (h : PHeap) (xs : List (Value × PJob)) [s : Arr v encPJ 6 h xs] (gid : FuncId) (cap : List Value) (Hr : List PHeap) (p : (Value × PJob) → Bool)
    (hc : ∀ args w, (callFunc gid args).run Try.prog w = .ok (.enter gid args) w) (hS : ∀ x ∈ xs, Spec Try.prog gid (.agg #[.int .i64 x.2.n0, .int .i64 x.2.n1, .int .i64 x.2.n2, x.1, .int .i64 x.2.group, .int .i64 x.2.worth] :: cap).toArray [] Hr (fun v hs => v = .bool (p x) ∧ hs = [])) :
    Spec Try.prog 43 #[v, .func (.func gid) #[] cap.toArray] [] (h :: Hr) (fun v hs => v = .bool (xs.any p) ∧ hs = []) := by
  refine Spec.intro (fn := Try.f43) (N := 9) Try.func43 rfl Try.ntmps43 rfl fun B => ?_
  refine XK.seq ?_
  refine XK.region rfl ?_
  refine XO.q (Q.assign rfl) ?_
  refine XO.done ?_
  refine XK.seq ?_
  refine XK.region rfl ?_
  refine XO.q (Q.move rfl) ?_
  refine XO.q (Q.move rfl) ?_
  refine XO.call Try.call69 rfl rfl rfl (indexFuncPJ v h xs gid cap Hr p hc hS) fun v7 s7 R7 => ?_
  obtain ⟨rfl, rfl⟩ := R7
  dsimp only [List.cons_append, List.nil_append]
  refine XO.q (Q.geq rfl rfl) ?_
  refine XO.q (Q.assign rfl) ?_
  refine XO.done ?_
  refine XK.rt [] Try.func43 Try.results43 (.t rfl .n) ?_
  exact ⟨by rw [← findFirst_any], rfl⟩
theorem indexFuncPR (v : Value) (h : PHeap) (xs : List PRack) [s : Arr v encRack 5 h xs] (gid : FuncId) (cap : List Value) (Hr : List PHeap) (p : PRack → Bool)
    (hc : ∀ args w, (callFunc gid args).run Try.prog w = .ok (.enter gid args) w) (hS : ∀ x ∈ xs, Spec Try.prog gid (.agg #[.int .i64 x.r0, .int .i64 x.r1, .int .i64 x.r2, .int .i64 x.cap, .int .i64 x.domain] :: cap).toArray [] Hr (fun v hs => v = .bool (p x) ∧ hs = [])) :
    Spec Try.prog 104 #[v, .func (.func gid) #[] cap.toArray] [] (h :: Hr) (fun v hs => v = .int .i64 (findFirst p xs) ∧ hs = []) := by
  refine Spec.intro (fn := Try.f104) (N := 19) Try.func104 rfl Try.ntmps104 rfl fun B => ?_
  refine XK.seq ?_
  refine XK.region rfl ?_
  refine XO.q (Q.assign rfl) ?_
  refine XO.done ?_
  refine XK.seq ?_
  refine XK.seq ?_
  refine XK.region rfl ?_
  refine XO.q (Q.move rfl) ?_
  refine XO.len rfl fun l7 => ?_
  refine XO.q (Q.move rfl) ?_
  refine XO.done ?_
  refine XK.block ?_
  refine XK.while (X := Nat) [4, 5, 8, 9, 10, 11, 12, 13, 14, 15, 16, 17, 18] (fun i => [(8, some (.int .i64 (i : Nat)))]) (fun i => []) (fun i => i ≤ xs.length ∧ (xs.take i).any p = false) (fun i => xs.length - i) (0) [] rfl ⟨by omega, rfl⟩ (.c rfl (.base 0 rfl rfl)) ?_
  rintro i ⟨hi, ht⟩ ih0
  dsimp only [List.cons_append, List.nil_append] at ih0 ⊢
  refine XK.seq ?_
  refine XK.region rfl ?_
  refine XO.q (Q.lss rfl rfl) ?_
  refine XO.done ?_
  refine XK.seq ?_
  refine XK.if rfl (fun c0 => ?_) (fun c0 => ?_)
  · have _t0 := True.intro
    refine XK.skip ?_
    refine XK.seq ?_
    refine XK.block ?_
    refine XK.seq ?_
    refine XK.region rfl ?_
    refine XO.q (Q.move rfl) ?_
    refine XO.q (Q.assign rfl) ?_
    refine XO.done ?_
    refine XK.seq ?_
    refine XK.region rfl ?_
    refine XO.q (Q.move rfl) ?_
    refine XO.q (Q.move rfl) ?_
    refine XO.q (Q.move rfl) ?_
    refine XO.ix rfl rfl (by omega) (by omega) fun i14 => ?_
    refine XO.q (Q.ldEA [_, _, _, _, _] rfl (by first | assumption | omega) rfl rfl) ?_
    refine XO.call hc rfl rfl rfl (hS _ (getD_mem (by omega))) fun v16 s16 R16 => ?_
    obtain ⟨rfl, rfl⟩ := R16
    dsimp only [List.cons_append, List.nil_append]
    refine XO.done ?_
    refine XK.if rfl (fun c1 => ?_) (fun c1 => ?_)
    · have _t1 := True.intro
      refine XK.seq ?_
      refine XK.region rfl ?_
      refine XO.q (Q.move rfl) ?_
      refine XO.q (Q.assign rfl) ?_
      refine XO.done ?_
      refine XK.rt [] Try.func104 Try.results104 (.t rfl .n) ?_
      exact ⟨by rw [findFirst_here ht (by omega) c1], rfl⟩
    · have _t1 := True.intro
      refine XK.skip ?_
      refine XK.inBlock ?_
      refine XK.region rfl ?_
      refine XO.q (Q.add rfl rfl ⟨by omega, by omega⟩) ?_
      refine XO.q (Q.move rfl) ?_
      refine XO.done ?_
      exact ih0 (i + 1) _ _ ⟨by omega, any_step ht (by omega) (Bool.eq_false_iff.2 c1)⟩ (by first | omega | (dsimp only; omega)) (.c rfl (.base 25 rfl rfl)) inferInstance
  · have _t0 := True.intro
    refine XK.exit rfl ?_
    refine XK.seq ?_
    refine XK.region rfl ?_
    refine XO.q (Q.assign rfl) ?_
    refine XO.done ?_
    refine XK.rt [] Try.func104 Try.results104 (.t rfl .n) ?_
    exact ⟨by rw [findFirst_none ht c0], rfl⟩
theorem containsFuncPR (v : Value) (h : PHeap) (xs : List PRack) [s : Arr v encRack 5 h xs] (gid : FuncId) (cap : List Value) (Hr : List PHeap) (p : PRack → Bool)
    (hc : ∀ args w, (callFunc gid args).run Try.prog w = .ok (.enter gid args) w) (hS : ∀ x ∈ xs, Spec Try.prog gid (.agg #[.int .i64 x.r0, .int .i64 x.r1, .int .i64 x.r2, .int .i64 x.cap, .int .i64 x.domain] :: cap).toArray [] Hr (fun v hs => v = .bool (p x) ∧ hs = [])) :
    Spec Try.prog 86 #[v, .func (.func gid) #[] cap.toArray] [] (h :: Hr) (fun v hs => v = .bool (xs.any p) ∧ hs = []) := by
  refine Spec.intro (fn := Try.f86) (N := 9) Try.func86 rfl Try.ntmps86 rfl fun B => ?_
  refine XK.seq ?_
  refine XK.region rfl ?_
  refine XO.q (Q.assign rfl) ?_
  refine XO.done ?_
  refine XK.seq ?_
  refine XK.region rfl ?_
  refine XO.q (Q.move rfl) ?_
  refine XO.q (Q.move rfl) ?_
  refine XO.call Try.call104 rfl rfl rfl (indexFuncPR v h xs gid cap Hr p hc hS) fun v7 s7 R7 => ?_
  obtain ⟨rfl, rfl⟩ := R7
  dsimp only [List.cons_append, List.nil_append]
  refine XO.q (Q.geq rfl rfl) ?_
  refine XO.q (Q.assign rfl) ?_
  refine XO.done ?_
  refine XK.rt [] Try.func86 Try.results86 (.t rfl .n) ?_
  exact ⟨by rw [← findFirst_any], rfl⟩
theorem pin1 (b : Nat) (m x : Int) : Spec Try.prog 92 #[.int .i64 x, ptr b 0] [] [blk b [.int .i64 m] 3] (fun v hs => v = .bool (pout m x) ∧ hs = []) := by
  refine Spec.intro (fn := Try.f92) (N := 11) Try.func92 rfl Try.ntmps92 rfl fun B => ?_
  refine XK.seq ?_
  refine XK.region rfl ?_
  refine XO.q (Q.assign rfl) ?_
  refine XO.done ?_
  refine XK.seq ?_
  refine XK.region rfl ?_
  refine XO.q (Q.move rfl) ?_
  refine XO.q (Q.lss rfl rfl) ?_
  refine XO.q (Q.move rfl) ?_
  refine XO.q (Quiet.guardF rfl rfl fun g7 p7 => Q.move rfl) ?_
  refine XO.q (Quiet.guardF rfl rfl fun g8 p8 => Q.ld rfl rfl) ?_
  refine XO.q (Quiet.guardF rfl rfl fun g9 p9 => Q.gtr (lzv g9 rfl) (lzv g9 rfl)) ?_
  refine XO.q (Q.or rfl (fun hp => lzv hp rfl)) ?_
  refine XO.q (Q.assign rfl) ?_
  refine XO.done ?_
  refine XK.rt [] Try.func92 Try.results92 (.t rfl .n) ?_
  exact ⟨rfl, rfl⟩
theorem pin_spec (m : Int) (v : Value) (h : PHeap) (xs : List Int) [s : Arr v encI 1 h xs] : Spec Try.prog 81 #[.int .i64 m, v] [] [h] (fun v hs => v = .bool (pin m xs) ∧ hs = []) := by
  refine Spec.intro (fn := Try.f81) (N := 9) Try.func81 rfl Try.ntmps81 rfl fun B => ?_
  refine XK.seq ?_
  refine XK.region rfl ?_
  refine XO.box rfl fun b2 => ?_
  refine XO.q (Q.assign rfl) ?_
  refine XO.done ?_
  refine XK.seq ?_
  refine XK.region rfl ?_
  refine XO.q (Q.move rfl) ?_
  refine XO.q (Q.func (fun _ he => rfl) (fun _ he => evs_rel he rfl)) ?_
  refine XO.call Try.call67 rfl rfl rfl (containsFuncI v h xs 92 [ptr b2 0] [blk b2 [.int .i64 m] 3] (pout m) Try.call92 (fun x hx => pin1 b2 m x)) fun v7 s7 R7 => ?_
  obtain ⟨rfl, rfl⟩ := R7
  dsimp only [List.cons_append, List.nil_append]
  refine XO.q (Q.not rfl) ?_
  refine XO.q (Q.assign rfl) ?_
  refine XO.done ?_
  refine XK.rt [] Try.func81 Try.results81 (.t rfl .n) ?_
  exact ⟨rfl, rfl⟩
theorem divisor_spec (a b : Nat) (ha : (a : Int) ≤ 9223372036854775807) (hb : (b : Int) ≤ 9223372036854775807) : Spec Try.prog 62 #[.int .i64 (a : Nat), .int .i64 (b : Nat)] [] [] (fun v hs => v = .int .i64 (Nat.gcd a b : Nat) ∧ hs = []) := by
  refine Spec.intro (fn := Try.f62) (N := 12) Try.func62 rfl Try.ntmps62 rfl fun B => ?_
  refine XK.seq ?_
  refine XK.region rfl ?_
  refine XO.q (Q.assign rfl) ?_
  refine XO.done ?_
  refine XK.seq ?_
  refine XK.block ?_
  refine XK.while (X := Nat × Nat) [0, 1, 5, 6, 7, 8, 9, 10] (fun ⟨x, y⟩ => [(0, some (.int .i64 (x : Nat))), (1, some (.int .i64 (y : Nat)))]) (fun ⟨x, y⟩ => []) (fun ⟨x, y⟩ => ((x : Int) ≤ 9223372036854775807 ∧ (y : Int) ≤ 9223372036854775807) ∧ Nat.gcd x y = Nat.gcd a b) (fun ⟨x, y⟩ => y) (a, b) [] rfl ⟨⟨ha, hb⟩, rfl⟩ (.c rfl (.c rfl (.base 0 rfl rfl))) ?_
  rintro ⟨x, y⟩ ⟨⟨hx, hyb⟩, hg⟩ ih0
  dsimp only [List.cons_append, List.nil_append] at ih0 ⊢
  refine XK.seq ?_
  refine XK.seq ?_
  refine XK.region rfl ?_
  refine XO.q (Q.move rfl) ?_
  refine XO.q (Q.neq rfl rfl) ?_
  refine XO.done ?_
  refine XK.if rfl (fun c0 => ?_) (fun c0 => ?_)
  · have _t0 := True.intro
    have hy : 0 < y := by omega
    have hm := Nat.mod_lt x hy
    refine XK.skip ?_
    refine XK.block ?_
    refine XK.drawn [0, 1, 2, 3, 4, 5] [] [] (.q 0 (.q 1 (.q 2 (.q 3 (.q 4 (.q 5 .done)))))) Try.mixed rfl (by kernel_rfl) ?_
    refine XT.q rfl rfl (Q.move rfl) ?_
    refine XT.q rfl rfl (Q.move rfl) ?_
    refine XT.q rfl rfl (Q.move rfl) ?_
    refine XT.q rfl rfl (Q.rem rfl rfl (by omega) (by omega)) ?_
    rw [show (x : Int) % (y : Int) = ((x % y : Nat) : Int) from rfl]
    refine XT.q rfl rfl (Q.assign rfl) ?_
    refine XT.q rfl rfl (Q.assign rfl) ?_
    refine XT.done ?_
    refine XK.inBlock ?_
    exact ih0 (y, x % y) _ _ ⟨⟨by dsimp only; omega, by dsimp only; omega⟩, by dsimp only; rw [← hg, Nat.gcd_comm y, ← Nat.gcd_rec, Nat.gcd_comm]⟩ (by first | omega | (dsimp only; omega)) (.c rfl (.c rfl (.base 18 rfl rfl))) inferInstance
  · have _t0 := True.intro
    have hy : y = 0 := by omega
    subst hy
    refine XK.exit rfl ?_
    refine XK.seq ?_
    refine XK.region rfl ?_
    refine XO.q (Q.move rfl) ?_
    refine XO.q (Q.assign rfl) ?_
    refine XO.done ?_
    refine XK.rt [] Try.func62 Try.results62 (.t rfl .n) ?_
    exact ⟨by rw [← hg, Nat.gcd_zero_right], rfl⟩
theorem chance_spec (r : PRat) : Spec Try.prog 54 #[.agg #[.int .i64 r.n, .int .i64 r.d]] [] [] (fun v hs => v = .bool (chanceR r) ∧ hs = []) := by
  refine Spec.intro (fn := Try.f54) (N := 27) Try.func54 rfl Try.ntmps54 rfl fun B => ?_
  refine XK.seq ?_
  refine XK.region rfl ?_
  refine XO.box rfl fun b1 => ?_
  refine XO.q (Q.assign rfl) ?_
  refine XO.done ?_
  refine XK.seq ?_
  refine XK.region rfl ?_
  refine XO.q (Q.fieldAddr rfl) ?_
  refine XO.q (Q.ld rfl rfl) ?_
  refine XO.q (Q.geq rfl rfl) ?_
  refine XO.q (Q.move rfl) ?_
  refine XO.q (Quiet.guardT rfl rfl fun g7 p7 => Q.fieldAddr rfl) ?_
  refine XO.q (Quiet.guardT rfl rfl fun g8 p8 => Q.ld (lzv g8 rfl) rfl) ?_
  refine XO.q (Quiet.guardT rfl rfl fun g9 p9 => Q.leq (lzv g9 rfl) rfl) ?_
  refine XO.q (Q.and rfl (fun hp => lzv hp rfl)) ?_
  refine XO.q (Q.move rfl) ?_
  refine XO.q (Quiet.guardT rfl rfl fun g12 p12 => Q.fieldAddr rfl) ?_
  refine XO.q (Quiet.guardT rfl rfl fun g13 p13 => Q.ld (lzv g13 rfl) rfl) ?_
  refine XO.q (Quiet.guardT rfl rfl fun g14 p14 => Q.fieldAddr rfl) ?_
  refine XO.q (Quiet.guardT rfl rfl fun g15 p15 => Q.ld (lzv g15 rfl) rfl) ?_
  refine XO.lit1 [_] [_] [r.n] encI rfl rfl (by rfl) (by rfl) rfl (by rfl) (fun g16 => by exact .c 0 1 (lzv g16 rfl) rfl rfl (.n _)) (fun _ => rfl) (by rfl) rfl (fun _ => by infer_instance) rfl (fun v16 h16 O16 => ?_)
  refine XO.gcallT rfl rfl Try.call81 rfl (fun g17 => .c (lzv g17 rfl) (.c (lzv g17 rfl) .n)) rfl (fun g17 p17 => by haveI := O16 g17; exact pin_spec r.d v16 h16 [r.n]) ?_
  refine XO.q (Q.and rfl (fun hp => lzv hp rfl)) ?_
  refine XO.q (Q.move rfl) ?_
  refine XO.q (Quiet.guardT rfl rfl fun g20 p20 => Q.fieldAddr rfl) ?_
  refine XO.q (Quiet.guardT rfl rfl fun g21 p21 => Q.ld (lzv g21 rfl) rfl) ?_
  refine XO.q (Quiet.guardT rfl rfl fun g22 p22 => Q.fieldAddr rfl) ?_
  refine XO.q (Quiet.guardT rfl rfl fun g23 p23 => Q.ld (lzv g23 rfl) rfl) ?_
  refine XO.gcallT rfl rfl Try.call62 rfl (fun g24 => .c (lzv g24 rfl) (.c (lzv g24 rfl) .n)) rfl (fun g24 p24 => (by
    have q := pin_one.1 p24.2
    have e1 : r.n = (r.n.toNat : Int) := by omega
    have e2 : r.d = (r.d.toNat : Int) := by omega
    have s := divisor_spec r.n.toNat r.d.toNat (by omega) (by omega)
    rw [← e1, ← e2] at s
    exact s)) ?_
  refine XO.q (Quiet.guardT rfl rfl fun g25 p25 => Q.eql (lzv g25 rfl) rfl) ?_
  refine XO.q (Q.and rfl (fun hp => lzv hp rfl)) ?_
  refine XO.q (Q.assign rfl) ?_
  refine XO.done ?_
  refine XK.rt [] Try.func54 Try.results54 (.t rfl .n) ?_
  refine ⟨?_, rfl⟩
  unfold chanceR
  by_cases h : pin r.d [r.n] = true
  · have q := pin_one.1 h
    have e : Int.gcd r.n r.d = r.n.toNat.gcd r.d.toNat := by
      unfold Int.gcd
      rw [show r.n.natAbs = r.n.toNat by omega, show r.d.natAbs = r.d.toNat by omega]
    have e3 : (((r.n.toNat.gcd r.d.toNat : Nat) : Int) = 1) ↔ (r.n.toNat.gcd r.d.toNat = 1) := by omega
    rw [e]
    simp only [e3]
  · rw [Bool.eq_false_iff.2 h]; simp
end Go.X

set_option linter.unusedSimpArgs false
set_option linter.unusedVariables false
set_option maxRecDepth 20000
namespace Go.X
open Go.Proofs
theorem rackR_spec (r : PRack) : Spec Try.prog 74 #[.agg #[.int .i64 r.r0, .int .i64 r.r1, .int .i64 r.r2, .int .i64 r.cap, .int .i64 r.domain]] [] [] (fun v hs => v = .bool (rackR r) ∧ hs = []) := by
  refine Spec.intro (fn := Try.f74) (N := 18) Try.func74 rfl Try.ntmps74 rfl fun B => ?_
  refine XK.seq ?_
  refine XK.region rfl ?_
  refine XO.box rfl fun b1 => ?_
  refine XO.q (Q.assign rfl) ?_
  refine XO.done ?_
  refine XK.seq ?_
  refine XK.region rfl ?_
  refine XO.q (Q.fieldAddr rfl) ?_
  refine XO.q (Q.sliceA rfl) ?_
  refine XO.call Try.call81 rfl rfl rfl (by haveI := arr3 (b := b1) (a0 := r.r0) (a1 := r.r1) (a2 := r.r2) (rest := [.int .i64 r.cap, .int .i64 r.domain]) (T := 62); exact pin_spec 1000000 (.slice (some ⟨b1, 0, none⟩) 3 3) (blk b1 (.int .i64 r.r0 :: .int .i64 r.r1 :: .int .i64 r.r2 :: [.int .i64 r.cap, .int .i64 r.domain]) 62) [r.r0, r.r1, r.r2]) fun v5 s5 R5 => ?_
  obtain ⟨rfl, rfl⟩ := R5
  dsimp only [List.cons_append, List.nil_append]
  refine XO.q (Q.move rfl) ?_
  refine XO.q (Quiet.guardT rfl rfl fun g7 p7 => Q.fieldAddr rfl) ?_
  refine XO.q (Quiet.guardT rfl rfl fun g8 p8 => Q.ld (lzv g8 rfl) rfl) ?_
  refine XO.lit1 [_] [_] [r.cap] encI rfl rfl (by rfl) (by rfl) rfl (by rfl) (fun g9 => by exact .c 0 1 (lzv g9 rfl) rfl rfl (.n _)) (fun _ => rfl) (by rfl) rfl (fun _ => by infer_instance) rfl (fun v9 h9 O9 => ?_)
  refine XO.gcallT rfl rfl Try.call81 rfl (fun g10 => .c rfl (.c (lzv g10 rfl) .n)) rfl (fun g10 p10 => by haveI := O9 g10; exact pin_spec 10000 v9 h9 [r.cap]) ?_
  refine XO.q (Q.and rfl (fun hp => lzv hp rfl)) ?_
  refine XO.q (Q.move rfl) ?_
  refine XO.q (Quiet.guardT rfl rfl fun g13 p13 => Q.fieldAddr rfl) ?_
  refine XO.q (Quiet.guardT rfl rfl fun g14 p14 => Q.ld (lzv g14 rfl) rfl) ?_
  refine XO.lit1 [_] [_] [r.domain] encI rfl rfl (by rfl) (by rfl) rfl (by rfl) (fun g15 => by exact .c 0 1 (lzv g15 rfl) rfl rfl (.n _)) (fun _ => rfl) (by rfl) rfl (fun _ => by infer_instance) rfl (fun v15 h15 O15 => ?_)
  refine XO.gcallT rfl rfl Try.call81 rfl (fun g16 => .c rfl (.c (lzv g16 rfl) .n)) rfl (fun g16 p16 => by haveI := O15 g16; exact pin_spec 100 v15 h15 [r.domain]) ?_
  refine XO.q (Q.and rfl (fun hp => lzv hp rfl)) ?_
  refine XO.q (Q.assign rfl) ?_
  refine XO.done ?_
  refine XK.rt [] Try.func74 Try.results74 (.t rfl .n) ?_
  exact ⟨rfl, rfl⟩
theorem draws_next {j : PJob} {i : Nat} (h : ∀ k, k < i → DrawOk j.draws k) (hi : DrawOk j.draws i) : ∀ k, k < i + 1 → DrawOk j.draws k := fun k hk => by
  by_cases e : k = i
  · subst e; exact hi
  · exact h k (by omega)
theorem jobR_no {j : PJob} (h : (((¬pin 1000000 [j.n0, j.n1, j.n2] = true ∨ ¬pin 100 [j.group] = true) ∨ ¬pin 1000000 [j.worth] = true) ∨ (j.draws.length : Int) < 1) ∨ 8 < (j.draws.length : Int)) : jobR j = false := by
  refine Bool.eq_false_iff.2 fun hc => ?_
  have k := jobR_iff.1 hc
  have := k.few
  rcases h with (((h | h) | h) | h) | h
  · exact h k.need
  · exact h (pin_one.2 k.grp)
  · exact h (pin_one.2 k.wor)
  · omega
  · omega
theorem jobR_yes {j : PJob} (h : ¬ ((((¬pin 1000000 [j.n0, j.n1, j.n2] = true ∨ ¬pin 100 [j.group] = true) ∨ ¬pin 1000000 [j.worth] = true) ∨ (j.draws.length : Int) < 1) ∨ 8 < (j.draws.length : Int))) (hg : ∀ k, k < j.draws.length → DrawOk j.draws k) : jobR j = true := by
  simp only [not_or, Decidable.not_not, pin_one] at h
  obtain ⟨⟨⟨⟨a, b⟩, c⟩, d⟩, e⟩ := h
  exact jobR_iff.2 ⟨a, b, c, ⟨by omega, by omega⟩, hg⟩
theorem drawOk_no {l : List PDraw} {i : Nat} (h : ((¬pin 1000 [(l.getD i default).power] = true ∨ (l.getD i default).count < 1) ∨ 64 < (l.getD i default).count) ∨ 0 < (i : Int) ∧ (l.getD i default).power ≤ (l.getD ((i : Int) - 1).toNat default).power) : ¬ DrawOk l i := fun hd => by
  unfold DrawOk at hd
  rw [pin_one] at h
  rw [show ((i : Int) - 1).toNat = i - 1 by omega] at h
  omega
theorem drawOk_yes {l : List PDraw} {i : Nat} (h : ¬ (((¬pin 1000 [(l.getD i default).power] = true ∨ (l.getD i default).count < 1) ∨ 64 < (l.getD i default).count) ∨ 0 < (i : Int) ∧ (l.getD i default).power ≤ (l.getD ((i : Int) - 1).toNat default).power)) : DrawOk l i := by
  unfold DrawOk
  rw [pin_one] at h
  rw [show ((i : Int) - 1).toNat = i - 1 by omega] at h
  omega
set_option maxHeartbeats 2000000 in
theorem jobR_spec (j : PJob) (vd : Value) (hd : PHeap) [id_ : Arr vd encDraw 2 hd j.draws] : Spec Try.prog 58 #[.agg #[.int .i64 j.n0, .int .i64 j.n1, .int .i64 j.n2, vd, .int .i64 j.group, .int .i64 j.worth]] [] [hd] (fun v hs => v = .bool (jobR j) ∧ hs = []) := by
  have ld := id_.le
  refine Spec.intro (fn := Try.f58) (N := 75) Try.func58 rfl Try.ntmps58 rfl fun B => ?_
  refine XK.seq ?_
  refine XK.region rfl ?_
  refine XO.box rfl fun b1 => ?_
  refine XO.q (Q.assign rfl) ?_
  refine XO.done ?_
  refine XK.seq ?_
  refine XK.seq ?_
  refine XK.region rfl ?_
  refine XO.q (Q.fieldAddr rfl) ?_
  refine XO.q (Q.sliceA rfl) ?_
  refine XO.call Try.call81 rfl rfl rfl (by haveI := arr3 (b := b1) (a0 := j.n0) (a1 := j.n1) (a2 := j.n2) (rest := [vd, .int .i64 j.group, .int .i64 j.worth]) (T := 39); exact pin_spec 1000000 (.slice (some ⟨b1, 0, none⟩) 3 3) (blk b1 (.int .i64 j.n0 :: .int .i64 j.n1 :: .int .i64 j.n2 :: [vd, .int .i64 j.group, .int .i64 j.worth]) 39) [j.n0, j.n1, j.n2]) fun v7 s7 R7 => ?_
  obtain ⟨rfl, rfl⟩ := R7
  dsimp only [List.cons_append, List.nil_append]
  refine XO.q (Q.not rfl) ?_
  refine XO.q (Q.move rfl) ?_
  refine XO.q (Quiet.guardF rfl rfl fun g10 p10 => Q.fieldAddr rfl) ?_
  refine XO.q (Quiet.guardF rfl rfl fun g11 p11 => Q.ld (lzv g11 rfl) rfl) ?_
  refine XO.lit1 [_] [_] [j.group] encI rfl rfl (by rfl) (by rfl) rfl (by rfl) (fun g12 => by exact .c 0 1 (lzv g12 rfl) rfl rfl (.n _)) (fun _ => rfl) (by rfl) rfl (fun _ => by infer_instance) rfl (fun v12 h12 O12 => ?_)
  refine XO.gcallF rfl rfl Try.call81 rfl (fun g13 => .c rfl (.c (lzv g13 rfl) .n)) rfl (fun g13 p13 => by haveI := O12 g13; exact pin_spec 100 v12 h12 [j.group]) ?_
  refine XO.q (Quiet.guardF rfl rfl fun g14 p14 => Q.not (lzv g14 rfl)) ?_
  refine XO.q (Q.or rfl (fun hp => lzv hp rfl)) ?_
  refine XO.q (Q.move rfl) ?_
  refine XO.q (Quiet.guardF rfl rfl fun g17 p17 => Q.fieldAddr rfl) ?_
  refine XO.q (Quiet.guardF rfl rfl fun g18 p18 => Q.ld (lzv g18 rfl) rfl) ?_
  refine XO.lit1 [_] [_] [j.worth] encI rfl rfl (by rfl) (by rfl) rfl (by rfl) (fun g19 => by exact .c 0 1 (lzv g19 rfl) rfl rfl (.n _)) (fun _ => rfl) (by rfl) rfl (fun _ => by infer_instance) rfl (fun v19 h19 O19 => ?_)
  refine XO.gcallF rfl rfl Try.call81 rfl (fun g20 => .c rfl (.c (lzv g20 rfl) .n)) rfl (fun g20 p20 => by haveI := O19 g20; exact pin_spec 1000000 v19 h19 [j.worth]) ?_
  refine XO.q (Quiet.guardF rfl rfl fun g21 p21 => Q.not (lzv g21 rfl)) ?_
  refine XO.q (Q.or rfl (fun hp => lzv hp rfl)) ?_
  refine XO.q (Q.move rfl) ?_
  refine XO.q (Quiet.guardF rfl rfl fun g24 p24 => Q.fieldAddr rfl) ?_
  refine XO.q (Quiet.guardF rfl rfl fun g25 p25 => Q.ld (lzv g25 rfl) rfl) ?_
  refine XO.q (Quiet.guardF rfl rfl fun g26 p26 => Q.len (lzv g26 rfl)) ?_
  refine XO.q (Quiet.guardF rfl rfl fun g27 p27 => Q.lss (lzv g27 rfl) rfl) ?_
  refine XO.q (Q.or rfl (fun hp => lzv hp rfl)) ?_
  refine XO.q (Q.move rfl) ?_
  refine XO.q (Quiet.guardF rfl rfl fun g30 p30 => Q.fieldAddr rfl) ?_
  refine XO.q (Quiet.guardF rfl rfl fun g31 p31 => Q.ld (lzv g31 rfl) rfl) ?_
  refine XO.q (Quiet.guardF rfl rfl fun g32 p32 => Q.len (lzv g32 rfl)) ?_
  refine XO.q (Quiet.guardF rfl rfl fun g33 p33 => Q.gtr (lzv g33 rfl) rfl) ?_
  refine XO.q (Q.or rfl (fun hp => lzv hp rfl)) ?_
  refine XO.done ?_
  refine XK.if rfl (fun c0 => ?_) (fun c0 => ?_)
  · have _t0 := True.intro
    refine XK.seq ?_
    refine XK.region rfl ?_
    refine XO.q (Q.assign rfl) ?_
    refine XO.done ?_
    refine XK.rt [] Try.func58 Try.results58 (.t rfl .n) ?_
    exact ⟨by rw [jobR_no c0], rfl⟩
  · have _t0 := True.intro
    refine XK.skip ?_
    refine XK.seq ?_
    refine XK.seq ?_
    refine XK.region rfl ?_
    refine XO.q (Q.fieldAddr rfl) ?_
    refine XO.q (Q.ld rfl rfl) ?_
    refine XO.len rfl fun l37 => ?_
    refine XO.q (Q.move rfl) ?_
    refine XO.done ?_
    refine XK.block ?_
    refine XK.while (X := Nat) [2, 3, 4, 38, 39, 40, 41, 42, 43, 44, 45, 46, 47, 48, 49, 50, 51, 52, 53, 54, 55, 56, 57, 58, 59, 60, 61, 62, 63, 64, 65, 66, 67, 68, 69, 70, 71, 72, 73, 74] (fun i => [(38, some (.int .i64 (i : Nat)))]) (fun i => []) (fun i => i ≤ j.draws.length ∧ ∀ k, k < i → DrawOk j.draws k) (fun i => j.draws.length - i) (0) [] rfl ⟨by omega, fun k hk => by omega⟩ (.c rfl (.base 0 rfl rfl)) ?_
    rintro i ⟨hi, hg⟩ ih0
    dsimp only [List.cons_append, List.nil_append] at ih0 ⊢
    refine XK.seq ?_
    refine XK.region rfl ?_
    refine XO.q (Q.lss rfl rfl) ?_
    refine XO.done ?_
    refine XK.seq ?_
    refine XK.if rfl (fun c1 => ?_) (fun c1 => ?_)
    · have _t1 := True.intro
      refine XK.skip ?_
      refine XK.seq ?_
      refine XK.block ?_
      refine XK.seq ?_
      refine XK.region rfl ?_
      refine XO.q (Q.move rfl) ?_
      refine XO.ix rfl rfl (by omega) (by omega) fun i41 => ?_
      refine XO.q (Q.ldEA [_, _] rfl (by first | assumption | omega) rfl rfl) ?_
      refine XO.alloc fun b4 => ?_
      refine XO.q (Q.assign rfl) ?_
      refine XO.st rfl rfl rfl ?_
      refine XO.done ?_
      refine XK.seq ?_
      refine XK.drawn [0, 1, 4, 5, 6, 7, 8, 9, 10, 11, 12, 13, 14, 15, 16, 17, 18, 19, 20, 21, 22, 23, 24, 25, 26, 27, 28, 29, 30] [b4, b1] [] (.q 0 (.q 1 (.br 2 true (.br 3 true (.q 4 (.q 5 (.q 6 (.q 7 (.q 8 (.q 9 (.q 10 (.q 11 (.q 12 (.q 13 (.q 14 (.q 15 (.q 16 (.q 17 (.q 18 (.q 19 (.q 20 (.q 21 (.q 22 (.q 23 (.q 24 (.q 25 (.q 26 (.q 27 (.q 28 (.q 29 (.q 30 .done))))))))))))))))))))))))))) .stop) .stop))) Try.mixed rfl (by kernel_rfl) ?_
      refine XT.q rfl rfl (Q.fieldAddr rfl) ?_
      refine XT.q rfl rfl (Q.ld rfl rfl) ?_
      refine XT.lit [_] [_] [(j.draws.getD i default).power] encI rfl rfl (by rfl) (by rfl) rfl (by rfl) (by exact .c 0 1 rfl rfl rfl (.n _)) (fun _ => rfl) (by rfl) rfl (by infer_instance) rfl (fun v45 h45 O45 => ⟨inferInstance, ?_⟩) XT.stop
      refine XT.call rfl rfl Try.call81 rfl rfl rfl (pin_spec 1000 v45 h45 [(j.draws.getD i default).power]) (fun v46 s46 R46 => ?_) XT.stop
      obtain ⟨rfl, rfl⟩ := R46
      dsimp only [List.cons_append, List.nil_append]
      refine ⟨inferInstance, ?_⟩
      refine XT.q rfl rfl (Q.not rfl) ?_
      refine XT.q rfl rfl (Q.move rfl) ?_
      refine XT.q rfl rfl (Quiet.guardF rfl rfl fun g49 p49 => Q.fieldAddr rfl) ?_
      refine XT.q rfl rfl (Quiet.guardF rfl rfl fun g50 p50 => Q.ld (lzv g50 rfl) rfl) ?_
      refine XT.q rfl rfl (Quiet.guardF rfl rfl fun g51 p51 => Q.lss (lzv g51 rfl) rfl) ?_
      refine XT.q rfl rfl (Q.or rfl (fun hp => lzv hp rfl)) ?_
      refine XT.q rfl rfl (Q.move rfl) ?_
      refine XT.q rfl rfl (Quiet.guardF rfl rfl fun g54 p54 => Q.fieldAddr rfl) ?_
      refine XT.q rfl rfl (Quiet.guardF rfl rfl fun g55 p55 => Q.ld (lzv g55 rfl) rfl) ?_
      refine XT.q rfl rfl (Quiet.guardF rfl rfl fun g56 p56 => Q.gtr (lzv g56 rfl) rfl) ?_
      refine XT.q rfl rfl (Q.or rfl (fun hp => lzv hp rfl)) ?_
      refine XT.q rfl rfl (Q.move rfl) ?_
      refine XT.q rfl rfl (Quiet.guardF rfl rfl fun g59 p59 => Q.move rfl) ?_
      refine XT.q rfl rfl (Quiet.guardF rfl rfl fun g60 p60 => Q.gtr (lzv g60 rfl) rfl) ?_
      refine XT.q rfl rfl (Quiet.guardF rfl rfl fun g61 p61 => Q.move (lzv g61 rfl)) ?_
      refine XT.q rfl rfl (Quiet.guard2 rfl rfl fun g62a g62b => have p62a := bpF g62a; have p62b := bpT g62b; Q.fieldAddr rfl) ?_
      refine XT.q rfl rfl (Quiet.guard2 rfl rfl fun g63a g63b => have p63a := bpF g63a; have p63b := bpT g63b; Q.ld (lzv g63b (lzv g63a rfl)) rfl) ?_
      refine XT.q rfl rfl (Quiet.guard2 rfl rfl fun g64a g64b => have p64a := bpF g64a; have p64b := bpT g64b; Q.fieldAddr rfl) ?_
      refine XT.q rfl rfl (Quiet.guard2 rfl rfl fun g65a g65b => have p65a := bpF g65a; have p65b := bpT g65b; Q.ld (lzv g65b (lzv g65a rfl)) rfl) ?_
      refine XT.q rfl rfl (Quiet.guard2 rfl rfl fun g66a g66b => have p66a := bpF g66a; have p66b := bpT g66b; Q.move rfl) ?_
      refine XT.q rfl rfl (Quiet.guard2 rfl rfl fun g67a g67b => have p67a := bpF g67a; have p67b := bpT g67b; Q.sub (lzv g67b (lzv g67a rfl)) rfl ⟨by omega, by omega⟩) ?_
      refine XT.q rfl rfl (Quiet.guard2 rfl rfl fun g68a g68b => have p68a := bpF g68a; have p68b := bpT g68b; Q.ix (lzv g68b (lzv g68a rfl)) (lzv g68b (lzv g68a rfl)) (by omega) (by omega)) ?_
      refine XT.q rfl rfl (Quiet.guard2 rfl rfl fun g69a g69b => have p69a := bpF g69a; have p69b := bpT g69b; Q.fieldQ (lzv g69b (lzv g69a rfl)) (by first | assumption | omega)) ?_
      refine XT.q rfl rfl (Quiet.guard2 rfl rfl fun g70a g70b => have p70a := bpF g70a; have p70b := bpT g70b; Q.ldE (lzv g70b (lzv g70a rfl)) (by first | assumption | omega) rfl) ?_
      refine XT.q rfl rfl (Quiet.guard2 rfl rfl fun g71a g71b => have p71a := bpF g71a; have p71b := bpT g71b; Q.leq (lzv g71b (lzv g71a rfl)) (lzv g71b (lzv g71a rfl))) ?_
      refine XT.q rfl rfl (Quiet.guardF rfl rfl fun g72 p72 => Q.and (lzv g72 rfl) (fun hp => (lzv hp (lzv g72 rfl)))) ?_
      refine XT.q rfl rfl (Q.or rfl (fun hp => lzv hp rfl)) ?_
      refine XT.done ?_
      refine XK.if rfl (fun c2 => ?_) (fun c2 => ?_)
      · have _t2 := True.intro
        refine XK.seq ?_
        refine XK.region rfl ?_
        refine XO.q (Q.assign rfl) ?_
        refine XO.done ?_
        refine XK.rt [] Try.func58 Try.results58 (.t rfl .n) ?_
        exact ⟨by rw [Bool.eq_false_iff.2 (fun h => drawOk_no c2 ((jobR_iff.1 h).draw i (by omega)))], rfl⟩
      · have _t2 := True.intro
        refine XK.skip ?_
        refine XK.inBlock ?_
        refine XK.region rfl ?_
        refine XO.q (Q.add rfl rfl ⟨by omega, by omega⟩) ?_
        refine XO.q (Q.move rfl) ?_
        refine XO.done ?_
        exact ih0 (i + 1) _ _ ⟨by omega, draws_next hg (drawOk_yes c2)⟩ (by first | omega | (dsimp only; omega)) (.c rfl (.base 80 rfl rfl)) inferInstance
    · have _t1 := True.intro
      refine XK.exit rfl ?_
      refine XK.seq ?_
      refine XK.region rfl ?_
      refine XO.q (Q.assign rfl) ?_
      refine XO.done ?_
      refine XK.rt [] Try.func58 Try.results58 (.t rfl .n) ?_
      exact ⟨by rw [jobR_yes c0 (fun k hk => hg k (by omega))], rfl⟩
theorem JobsK.mem {l : List (Value × PJob)} {K : PHeap} (h : JobsK l K) {x : Value × PJob} (hx : x ∈ l) : Arr x.1 encDraw 2 K x.2.draws := by
  obtain ⟨i, hi, rfl⟩ := List.getElem_of_mem hx
  have := h i hi
  rwa [List.getD_eq_getElem?_getD, List.getElem?_eq_getElem hi] at this
theorem check1 (j : PJob) (vd : Value) (hd : PHeap) [id_ : Arr vd encDraw 2 hd j.draws] : Spec Try.prog 85 #[.agg #[.int .i64 j.n0, .int .i64 j.n1, .int .i64 j.n2, vd, .int .i64 j.group, .int .i64 j.worth]] [] [hd] (fun v hs => v = .bool (!jobR j) ∧ hs = []) := by
  refine Spec.intro (fn := Try.f85) (N := 6) Try.func85 rfl Try.ntmps85 rfl fun B => ?_
  refine XK.seq ?_
  refine XK.region rfl ?_
  refine XO.box rfl fun b1 => ?_
  refine XO.q (Q.assign rfl) ?_
  refine XO.done ?_
  refine XK.seq ?_
  refine XK.region rfl ?_
  refine XO.q (Q.ldA [_, _, _, _, _, _] rfl rfl rfl) ?_
  refine XO.call Try.call58 rfl rfl rfl (jobR_spec j vd hd) fun v4 s4 R4 => ?_
  obtain ⟨rfl, rfl⟩ := R4
  dsimp only [List.cons_append, List.nil_append]
  refine XO.q (Q.not rfl) ?_
  refine XO.q (Q.assign rfl) ?_
  refine XO.done ?_
  refine XK.rt [] Try.func85 Try.results85 (.t rfl .n) ?_
  exact ⟨rfl, rfl⟩
theorem listed1 (j : PJob) (vd : Value) (hd : PHeap) [id_ : Arr vd encDraw 2 hd j.draws] : Spec Try.prog 57 #[.agg #[.int .i64 j.n0, .int .i64 j.n1, .int .i64 j.n2, vd, .int .i64 j.group, .int .i64 j.worth]] [] [hd] (fun v hs => v = .bool (!jobR j) ∧ hs = []) := by
  refine Spec.intro (fn := Try.f57) (N := 6) Try.func57 rfl Try.ntmps57 rfl fun B => ?_
  refine XK.seq ?_
  refine XK.region rfl ?_
  refine XO.box rfl fun b1 => ?_
  refine XO.q (Q.assign rfl) ?_
  refine XO.done ?_
  refine XK.seq ?_
  refine XK.region rfl ?_
  refine XO.q (Q.ldA [_, _, _, _, _, _] rfl rfl rfl) ?_
  refine XO.call Try.call58 rfl rfl rfl (jobR_spec j vd hd) fun v4 s4 R4 => ?_
  obtain ⟨rfl, rfl⟩ := R4
  dsimp only [List.cons_append, List.nil_append]
  refine XO.q (Q.not rfl) ?_
  refine XO.q (Q.assign rfl) ?_
  refine XO.done ?_
  refine XK.rt [] Try.func57 Try.results57 (.t rfl .n) ?_
  exact ⟨rfl, rfl⟩
theorem check2 (r : PRack) : Spec Try.prog 87 #[.agg #[.int .i64 r.r0, .int .i64 r.r1, .int .i64 r.r2, .int .i64 r.cap, .int .i64 r.domain]] [] [] (fun v hs => v = .bool (!rackR r) ∧ hs = []) := by
  refine Spec.intro (fn := Try.f87) (N := 6) Try.func87 rfl Try.ntmps87 rfl fun B => ?_
  refine XK.seq ?_
  refine XK.region rfl ?_
  refine XO.box rfl fun b1 => ?_
  refine XO.q (Q.assign rfl) ?_
  refine XO.done ?_
  refine XK.seq ?_
  refine XK.region rfl ?_
  refine XO.q (Q.ldA [_, _, _, _, _] rfl rfl rfl) ?_
  refine XO.call Try.call74 rfl rfl rfl (rackR_spec r) fun v4 s4 R4 => ?_
  obtain ⟨rfl, rfl⟩ := R4
  dsimp only [List.cons_append, List.nil_append]
  refine XO.q (Q.not rfl) ?_
  refine XO.q (Q.assign rfl) ?_
  refine XO.done ?_
  refine XK.rt [] Try.func87 Try.results87 (.t rfl .n) ?_
  exact ⟨rfl, rfl⟩
theorem any_jobs {l : List (Value × PJob)} : (l.any fun x => !jobR x.2) = ((l.map Prod.snd).any fun j => !jobR j) := by rw [List.any_map]; rfl
theorem Check_spec (l : List (Value × PJob)) (vl : Value) (hl K : PHeap) [jl : Arr vl encPJ 6 hl l] (aL : JobsK l K) (rs : List PRack) (vr : Value) (hr : PHeap) [jr : Arr vr encRack 5 hr rs] (m : PRat) : Spec Try.prog 63 #[.agg #[vl, vr, .int .i64 m.n, .int .i64 m.d]] [] [hl, K, hr] (fun v hs => v = .int .i64 (pcheck ⟨(l.map Prod.snd), rs, m⟩) ∧ hs = []) := by
  refine Spec.intro (fn := Try.f63) (N := 34) Try.func63 rfl Try.ntmps63 rfl fun B => ?_
  refine XK.seq ?_
  refine XK.region rfl ?_
  refine XO.box rfl fun b1 => ?_
  refine XO.q (Q.assign rfl) ?_
  refine XO.done ?_
  refine XK.seq ?_
  refine XK.block ?_
  refine XK.seq ?_
  refine XK.region rfl ?_
  refine XO.q (Q.fieldAddr rfl) ?_
  refine XO.q (Q.ld rfl rfl) ?_
  refine XO.len rfl fun l6 => ?_
  refine XO.q (Q.gtr rfl rfl) ?_
  refine XO.q (Q.move rfl) ?_
  refine XO.q (Quiet.guardF rfl rfl fun g9 p9 => Q.fieldAddr rfl) ?_
  refine XO.q (Quiet.guardF rfl rfl fun g10 p10 => Q.ld (lzv g10 rfl) rfl) ?_
  refine XO.q (Quiet.guardF rfl rfl fun g11 p11 => Q.len (lzv g11 rfl)) ?_
  refine XO.q (Quiet.guardF rfl rfl fun g12 p12 => Q.lss (lzv g12 rfl) rfl) ?_
  refine XO.q (Q.or rfl (fun hp => lzv hp rfl)) ?_
  refine XO.q (Q.move rfl) ?_
  refine XO.q (Quiet.guardF rfl rfl fun g15 p15 => Q.fieldAddr rfl) ?_
  refine XO.q (Quiet.guardF rfl rfl fun g16 p16 => Q.ld (lzv g16 rfl) rfl) ?_
  refine XO.q (Quiet.guardF rfl rfl fun g17 p17 => Q.len (lzv g17 rfl)) ?_
  refine XO.q (Quiet.guardF rfl rfl fun g18 p18 => Q.gtr (lzv g18 rfl) rfl) ?_
  refine XO.q (Q.or rfl (fun hp => lzv hp rfl)) ?_
  refine XO.q (Q.assign rfl) ?_
  refine XO.done ?_
  refine XK.if rfl (fun c0 => ?_) (fun c0 => ?_)
  · have _t0 := True.intro
    refine XK.seq ?_
    refine XK.region rfl ?_
    refine XO.q (Q.assign rfl) ?_
    refine XO.done ?_
    refine XK.rt [] Try.func63 Try.results63 (.t rfl .n) ?_
    exact ⟨by rw [pcheck, if_pos (by dsimp only; rw [List.length_map]; omega)], rfl⟩
  · have _t0 := True.intro
    refine XK.seq ?_
    refine XK.region rfl ?_
    refine XO.q (Q.fieldAddr rfl) ?_
    refine XO.q (Q.ld rfl rfl) ?_
    refine XO.call Try.call43 rfl rfl rfl (containsFuncPJ vl hl l 85 [] [K] (fun x => !jobR x.2) Try.call85 (fun x hx => by haveI := aL.mem hx; exact check1 x.2 x.1 K)) fun v23 s23 R23 => ?_
    obtain ⟨rfl, rfl⟩ := R23
    dsimp only [List.cons_append, List.nil_append]
    rw [any_jobs]
    refine XO.q (Q.move rfl) ?_
    refine XO.q (Quiet.guardF rfl rfl fun g25 p25 => Q.fieldAddr rfl) ?_
    refine XO.q (Quiet.guardF rfl rfl fun g26 p26 => Q.ld (lzv g26 rfl) rfl) ?_
    refine XO.gcallF rfl rfl Try.call86 rfl (fun g27 => .c (lzv g27 rfl) (.c rfl .n)) rfl (fun g27 p27 => containsFuncPR vr hr rs 87 [] [] (fun x => !rackR x) Try.call87 (fun x hx => check2 x)) ?_
    refine XO.q (Q.or rfl (fun hp => lzv hp rfl)) ?_
    refine XO.q (Q.assign rfl) ?_
    refine XO.done ?_
    refine XK.if rfl (fun c1 => ?_) (fun c1 => ?_)
    · have _t1 := True.intro
      refine XK.seq ?_
      refine XK.region rfl ?_
      refine XO.q (Q.assign rfl) ?_
      refine XO.done ?_
      refine XK.rt [] Try.func63 Try.results63 (.t rfl .n) ?_
      exact ⟨by rw [pcheck, if_neg (by dsimp only; rw [List.length_map]; omega), if_pos (by dsimp only; rw [Bool.or_eq_true]; exact c1)], rfl⟩
    · have _t1 := True.intro
      refine XK.seq ?_
      refine XK.region rfl ?_
      refine XO.q (Q.fieldAddr rfl) ?_
      refine XO.q (Q.ldA [_, _] rfl rfl rfl) ?_
      refine XO.call Try.call54 rfl rfl rfl (chance_spec m) fun v32 s32 R32 => ?_
      obtain ⟨rfl, rfl⟩ := R32
      dsimp only [List.cons_append, List.nil_append]
      refine XO.q (Q.not rfl) ?_
      refine XO.q (Q.assign rfl) ?_
      refine XO.done ?_
      refine XK.if rfl (fun c2 => ?_) (fun c2 => ?_)
      · have _t2 := True.intro
        refine XK.seq ?_
        refine XK.region rfl ?_
        refine XO.q (Q.assign rfl) ?_
        refine XO.done ?_
        refine XK.rt [] Try.func63 Try.results63 (.t rfl .n) ?_
        exact ⟨by rw [pcheck, if_neg (by dsimp only; rw [List.length_map]; omega), if_neg (by dsimp only; rw [Bool.or_eq_true]; exact c1), if_pos c2], rfl⟩
      · have _t2 := True.intro
        refine XK.skip ?_
        refine XK.inBlock ?_
        refine XK.seq ?_
        refine XK.region rfl ?_
        refine XO.q (Q.assign rfl) ?_
        refine XO.done ?_
        refine XK.rt [] Try.func63 Try.results63 (.t rfl .n) ?_
        exact ⟨by rw [pcheck, if_neg (by dsimp only; rw [List.length_map]; omega), if_neg (by dsimp only; rw [Bool.or_eq_true]; exact c1), if_neg c2], rfl⟩
end Go.X

set_option linter.unusedSimpArgs false
set_option linter.unusedVariables false
set_option maxRecDepth 20000
namespace Go.X
open Go.Proofs
theorem listed_spec (l : List (Value × PJob)) (vl : Value) (hl K : PHeap) [jl : Arr vl encPJ 6 hl l] (aL : JobsK l K) : Spec Try.prog 25 #[vl] [] [hl, K] (fun v hs => v = .tuple #[.int .i64 (listedG (l.map Prod.snd)).1, .int .i64 (listedG (l.map Prod.snd)).2] ∧ hs = []) := by
  have ll := jl.le
  have lm : (l.map Prod.snd).length = l.length := List.length_map ..
  refine Spec.intro (fn := Try.f25) (N := 40) Try.func25 rfl Try.ntmps25 rfl fun B => ?_
  refine XK.seq ?_
  refine XK.region rfl ?_
  refine XO.q (Q.assign rfl) ?_
  refine XO.q (Q.assign rfl) ?_
  refine XO.done ?_
  refine XK.seq ?_
  refine XK.seq ?_
  refine XK.region rfl ?_
  refine XO.q (Q.move rfl) ?_
  refine XO.len rfl fun l11 => ?_
  refine XO.q (Q.gtr rfl rfl) ?_
  refine XO.done ?_
  refine XK.if rfl (fun c0 => ?_) (fun c0 => ?_)
  · have _t0 := True.intro
    refine XK.seq ?_
    refine XK.region rfl ?_
    refine XO.q (Q.assign rfl) ?_
    refine XO.q (Q.assign rfl) ?_
    refine XO.done ?_
    refine XK.rt [] Try.func25 Try.results25 (.t rfl (.t rfl .n)) ?_
    exact ⟨by rw [listedG, if_pos (by omega)], rfl⟩
  · have _t0 := True.intro
    refine XK.skip ?_
    refine XK.seq ?_
    refine XK.seq ?_
    refine XK.region rfl ?_
    refine XO.q (Q.move rfl) ?_
    refine XO.call Try.call43 rfl rfl rfl (containsFuncPJ vl hl l 57 [] [K] (fun x => !jobR x.2) Try.call57 (fun x hx => by haveI := aL.mem hx; exact listed1 x.2 x.1 K)) fun v14 s14 R14 => ?_
    obtain ⟨rfl, rfl⟩ := R14
    dsimp only [List.cons_append, List.nil_append]
    rw [any_jobs]
    refine XO.done ?_
    refine XK.if rfl (fun c1 => ?_) (fun c1 => ?_)
    · have _t1 := True.intro
      refine XK.seq ?_
      refine XK.region rfl ?_
      refine XO.q (Q.assign rfl) ?_
      refine XO.q (Q.assign rfl) ?_
      refine XO.done ?_
      refine XK.rt [] Try.func25 Try.results25 (.t rfl (.t rfl .n)) ?_
      exact ⟨by rw [listedG, if_neg (by omega), if_pos c1], rfl⟩
    · have _t1 := True.intro
      have hJ : ∀ k, k < l.length → PJobOk (l.getD k default).2 := fun k hk => jobR_iff.1 (by
        have := any_false_at (Bool.eq_false_iff.2 c1) (i := k) (by rw [lm]; exact hk)
        rw [map_snd_atP] at this
        simpa using this)
      refine XK.skip ?_
      refine XK.seq ?_
      refine XK.region rfl ?_
      refine XO.q (Q.assign rfl) ?_
      refine XO.done ?_
      refine XK.seq ?_
      refine XK.seq ?_
      refine XK.region rfl ?_
      refine XO.q (Q.move rfl) ?_
      refine XO.len rfl fun l16 => ?_
      refine XO.q (Q.move rfl) ?_
      refine XO.done ?_
      refine XK.block ?_
      refine XK.while (X := Nat) [2, 3, 4, 6, 7, 9, 17, 18, 19, 20, 21, 22, 23, 24, 25, 26, 27, 28, 29, 30, 31, 32, 33, 34, 35, 36, 37, 38] (fun i => [(17, some (.int .i64 (i : Nat))), (4, some (.int .i64 (prodJ (l.map Prod.snd) i)))]) (fun i => []) (fun i => (i ≤ l.length ∧ (1 ≤ prodJ (l.map Prod.snd) i ∧ prodJ (l.map Prod.snd) i ≤ 1099511627776)) ∧ ∀ k, k < i → prodJ (l.map Prod.snd) (k + 1) ≤ 1099511627776) (fun i => l.length - i) (0) [] rfl ⟨⟨by omega, by (try unfold prodJ); omega⟩, fun k hk => by omega⟩ (.c rfl (.c rfl (.base 0 rfl rfl))) ?_
      rintro i ⟨⟨hi, pp⟩, hp⟩ ih0
      dsimp only [List.cons_append, List.nil_append] at ih0 ⊢
      refine XK.seq ?_
      refine XK.region rfl ?_
      refine XO.q (Q.lss rfl rfl) ?_
      refine XO.done ?_
      refine XK.seq ?_
      refine XK.if rfl (fun c2 => ?_) (fun c2 => ?_)
      · have _t2 := True.intro
        have ji := map_snd_atP l i
        have ai := aL i (by omega)
        have jok := hJ i (by omega)
        have pn := prod_next (l := l.map Prod.snd) (i := i) (by omega) (by rw [ji]; exact jok) pp
        rw [ji] at pn
        have jf := jok.few
        refine XK.skip ?_
        refine XK.seq ?_
        refine XK.block ?_
        refine XK.seq ?_
        refine XK.region rfl ?_
        refine XO.ix rfl rfl (by omega) (by omega) fun i19 => ?_
        refine XO.q (Q.ldEA [_, _, _, _, _, _] rfl (by first | assumption | omega) rfl rfl) ?_
        refine XO.alloc fun b6 => ?_
        refine XO.st rfl rfl rfl ?_
        refine XO.done ?_
        refine XK.seq ?_
        refine XK.region rfl ?_
        refine XO.q (Q.assign rfl) ?_
        refine XO.done ?_
        refine XK.seq ?_
        refine XK.seq ?_
        refine XK.region rfl ?_
        refine XO.q (Q.fieldAddr rfl) ?_
        refine XO.q (Q.ld rfl rfl) ?_
        refine XO.len rfl fun l23 => ?_
        refine XO.q (Q.move rfl) ?_
        refine XO.done ?_
        refine XK.block ?_
        refine XK.while (X := Nat) [7, 9, 24, 25, 26, 27, 28, 29, 30, 31, 32] (fun k => [(24, some (.int .i64 (k : Nat))), (7, some (.int .i64 (cntTo (l.getD i default).2 k)))]) (fun k => []) (fun k => k ≤ (l.getD i default).2.draws.length) (fun k => (l.getD i default).2.draws.length - k) (0) [] rfl (by omega) (.c rfl (.c rfl (.base 0 rfl rfl))) ?_
        rintro k hk ih1
        dsimp only [List.cons_append, List.nil_append] at ih1 ⊢
        refine XK.seq ?_
        refine XK.region rfl ?_
        refine XO.q (Q.lss rfl rfl) ?_
        refine XO.done ?_
        refine XK.seq ?_
        refine XK.if rfl (fun c3 => ?_) (fun c3 => ?_)
        · have _t3 := True.intro
          have ct := cntTo_rng jok k (by omega)
          have dk := jok.draw k (by omega)
          unfold DrawOk at dk
          refine XK.skip ?_
          refine XK.seq ?_
          refine XK.block ?_
          refine XK.seq ?_
          refine XK.region rfl ?_
          refine XO.ix rfl rfl (by omega) (by omega) fun i26 => ?_
          refine XO.q (Q.ldEA [_, _] rfl (by first | assumption | omega) rfl rfl) ?_
          refine XO.alloc fun b9 => ?_
          refine XO.st rfl rfl rfl ?_
          refine XO.done ?_
          refine XK.region rfl ?_
          refine XO.q (Q.move rfl) ?_
          refine XO.q (Q.fieldAddr rfl) ?_
          refine XO.q (Q.ld rfl rfl) ?_
          refine XO.q (Q.add rfl rfl ⟨by omega, by omega⟩) ?_
          refine XO.q (Q.assign rfl) ?_
          refine XO.done ?_
          refine XK.inBlock ?_
          refine XK.region rfl ?_
          refine XO.q (Q.add rfl rfl ⟨by omega, by omega⟩) ?_
          refine XO.q (Q.move rfl) ?_
          refine XO.done ?_
          rw [← cntTo_succ (by omega)]
          exact ih1 (k + 1) _ _ (by omega) (by first | omega | (dsimp only; omega)) (.c rfl (.c rfl (.base 24 rfl rfl))) inferInstance
        · have _t3 := True.intro
          have hkl : k = (l.getD i default).2.draws.length := by omega
          subst hkl
          rw [cntTo_all]
          have tr := total_rng jok
          refine XK.exit rfl ?_
          refine XK.seq ?_
          refine XK.region rfl ?_
          refine XO.q (Q.move rfl) ?_
          refine XO.q (Q.move rfl) ?_
          refine XO.q (Q.mul rfl rfl ⟨by omega, by omega⟩) ?_
          refine XO.q (Q.assign rfl) ?_
          refine XO.done ?_
          refine XK.seq ?_
          refine XK.region rfl ?_
          refine XO.q (Q.move rfl) ?_
          refine XO.q (Q.gtr rfl rfl) ?_
          refine XO.done ?_
          refine XK.if rfl (fun c4 => ?_) (fun c4 => ?_)
          · have _t4 := True.intro
            have mt := manyTo_true (l := l.map Prod.snd) (n := (l.map Prod.snd).length) (i := i) (by omega) (by rw [pn.1]; omega)
            refine XK.seq ?_
            refine XK.region rfl ?_
            refine XO.q (Q.assign rfl) ?_
            refine XO.q (Q.assign rfl) ?_
            refine XO.done ?_
            refine XK.rt [] Try.func25 Try.results25 (.t rfl (.t rfl .n)) ?_
            exact ⟨by rw [listedG, if_neg (by omega), if_neg c1, if_pos mt], rfl⟩
          · have _t4 := True.intro
            refine XK.skip ?_
            refine XK.inBlock ?_
            refine XK.region rfl ?_
            refine XO.q (Q.add rfl rfl ⟨by omega, by omega⟩) ?_
            refine XO.q (Q.move rfl) ?_
            refine XO.done ?_
            rw [← pn.1]
            exact ih0 (i + 1) _ _ ⟨⟨by omega, by rw [pn.1]; omega⟩, fun k hk => by
              by_cases h : k = i
              · subst h; rw [pn.1]; omega
              · exact hp k (by omega)⟩ (by first | omega | (dsimp only; omega)) (.c rfl (.c rfl (.base 61 rfl rfl))) inferInstance
      · have _t2 := True.intro
        refine XK.exit rfl ?_
        refine XK.seq ?_
        refine XK.region rfl ?_
        refine XO.q (Q.move rfl) ?_
        refine XO.q (Q.assign rfl) ?_
        refine XO.q (Q.assign rfl) ?_
        refine XO.done ?_
        refine XK.rt [] Try.func25 Try.results25 (.t rfl (.t rfl .n)) ?_
        have hil : i = (l.map Prod.snd).length := by omega
        exact ⟨by rw [listedG, if_neg (by omega), if_neg c1, if_neg (by rw [manyTo_false.2 fun k hk => hp k (by omega)]; decide), ← hil], rfl⟩
theorem keyI : KeyT Try.prog 3 encK1 := KeyT.int (by kernel_rfl)
set_option maxHeartbeats 2000000 in
theorem sums_spec (l : List (Value × PJob)) (vl : Value) (hl K : PHeap) [jl : Arr vl encPJ 6 hl l] (aL : JobsK l K) (ok : ListOk (l.map Prod.snd)) : Spec Try.prog 26 #[vl] [] [hl, K] (fun v hs => ∃ b es, v = .map (some b) ∧ hs = [mapH b encK1 es] ∧ MapIs es (combos (l.map Prod.snd))) := by
  haveI := keyI
  have ll := jl.le
  have lm : (l.map Prod.snd).length = l.length := List.length_map ..
  have few := ok.few
  refine Spec.intro (fn := Try.f26) (N := 49) Try.func26 rfl Try.ntmps26 rfl fun B => ?_
  refine XK.seq ?_
  refine XK.region rfl ?_
  refine XO.q (Q.assign rfl) ?_
  refine XO.done ?_
  refine XK.seq ?_
  refine XK.region rfl ?_
  refine XO.map encK1 fun b11 => ?_
  refine XO.insert (enc := encK1) (0) rfl rfl rfl ?_
  refine XO.q (Q.move rfl) ?_
  refine XO.q (Q.assign rfl) ?_
  refine XO.done ?_
  refine XK.seq ?_
  refine XK.seq ?_
  refine XK.region rfl ?_
  refine XO.q (Q.move rfl) ?_
  refine XO.len rfl fun l14 => ?_
  refine XO.q (Q.move rfl) ?_
  refine XO.done ?_
  refine XK.block ?_
  refine XK.while (X := Nat × Nat × List (Int × Value)) [3, 5, 6, 7, 8, 10, 15, 16, 17, 18, 19, 20, 21, 22, 23, 24, 25, 26, 27, 28, 29, 30, 31, 32, 33, 34, 35, 36, 37, 38, 39, 40, 41, 42, 43, 44, 45, 46, 47] (fun ⟨i, b, es⟩ => [(15, some (.int .i64 (i : Nat))), (3, some (.map (some b)))]) (fun ⟨i, b, es⟩ => [mapH b encK1 es]) (fun ⟨i, b, es⟩ => i ≤ l.length ∧ MapIs es (combos ((l.map Prod.snd).take i))) (fun ⟨i, b, es⟩ => l.length - i) (0, b11, putM 0 (.int .i64 1) []) [mapH b11 encK1 (putM 0 (.int .i64 1) [])] rfl ⟨by omega, MapIs.one⟩ (.c rfl (.c rfl (.base 0 rfl rfl))) ?_
  rintro ⟨i, b, es⟩ ⟨hi, mi⟩ ih0
  dsimp only [List.cons_append, List.nil_append] at ih0 ⊢
  refine XK.seq ?_
  refine XK.region rfl ?_
  refine XO.q (Q.lss rfl rfl) ?_
  refine XO.done ?_
  refine XK.seq ?_
  refine XK.if rfl (fun c0 => ?_) (fun c0 => ?_)
  · have _t0 := True.intro
    have ji := map_snd_atP l i
    have ai := aL i (by omega)
    have sb := step_bound ok (i := i) (by omega)
    rw [ji] at sb
    have jok := ok.job i (by omega)
    rw [ji] at jok
    have jf := jok.few
    refine XK.skip ?_
    refine XK.seq ?_
    refine XK.block ?_
    refine XK.seq ?_
    refine XK.region rfl ?_
    refine XO.ix rfl rfl (by omega) (by omega) fun i17 => ?_
    refine XO.q (Q.ldEA [_, _, _, _, _, _] rfl (by first | assumption | omega) rfl rfl) ?_
    refine XO.alloc fun b5 => ?_
    refine XO.st rfl rfl rfl ?_
    refine XO.done ?_
    refine XK.seq ?_
    refine XK.region rfl ?_
    refine XO.map encK1 fun b19 => ?_
    refine XO.q (Q.assign rfl) ?_
    refine XO.done ?_
    refine XK.seq ?_
    refine XK.seq ?_
    refine XK.region rfl ?_
    refine XO.q (Q.move rfl) ?_
    refine XO.range rfl fun q21 => ?_
    refine XO.done ?_
    refine XK.block ?_
    refine XK.while (X := List Nat × List (Int × Value)) [7, 8, 10, 22, 23, 24, 25, 26, 27, 28, 29, 30, 31, 32, 33, 34, 35, 36, 37, 38, 39, 40, 41, 42, 43, 44, 45] (fun ⟨seen, es2⟩ => []) (fun ⟨seen, es2⟩ => [itH q21 b es.length seen, mapH b19 encK1 es2]) (fun ⟨seen, es2⟩ => seen.Nodup ∧ (∀ i ∈ seen, i < es.length) ∧ MapIs es2 (given es (l.getD i default).2 seen)) (fun ⟨seen, es2⟩ => es.length - seen.length) ([], []) [itH q21 b es.length [], mapH b19 encK1 []] rfl ⟨List.nodup_nil, fun i h => (by cases h), MapIs.nil⟩ (.base 0 rfl rfl) ?_
    rintro ⟨seen, es2⟩ ⟨hnd, hlt, h2⟩ ih1
    dsimp only [List.cons_append, List.nil_append] at ih1 ⊢
    refine XK.seq ?_
    refine XK.region rfl ?_
    refine XO.next rfl rfl fun more22 nl22 seen22 out22 => ?_
    refine XO.q (Q.extract0 rfl) ?_
    refine XO.done ?_
    refine XK.seq ?_
    refine XK.if rfl (fun c1 => ?_) (fun c1 => ?_)
    · have _t1 := True.intro
      obtain ⟨q, hq, hqs, rfl⟩ := out22.next c1
      have kr := combos_rng ok i (by omega) _ (mi.at hq).2.2
      refine XK.skip ?_
      refine XK.block ?_
      refine XK.seq ?_
      refine XK.region rfl ?_
      refine XO.q (Q.entry (i := q) rfl rfl hq) ?_
      refine XO.q (Q.extract rfl rfl) ?_
      refine XO.q (Q.extract rfl rfl) ?_
      rw [(mi.at hq).1]
      refine XO.q (Q.assign rfl) ?_
      refine XO.q (Q.assign rfl) ?_
      refine XO.done ?_
      refine XK.seq ?_
      refine XK.region rfl ?_
      refine XO.q (Q.fieldAddr rfl) ?_
      refine XO.q (Q.ld rfl rfl) ?_
      refine XO.len rfl fun l29 => ?_
      refine XO.q (Q.move rfl) ?_
      refine XO.done ?_
      refine XK.block ?_
      refine XK.while (X := Nat × List (Int × Value)) [10, 30, 31, 32, 33, 34, 35, 36, 37, 38, 39, 40, 41, 42, 43, 44, 45] (fun ⟨k, es3⟩ => [(30, some (.int .i64 (k : Nat)))]) (fun ⟨k, es3⟩ => [mapH b19 encK1 es3]) (fun ⟨k, es3⟩ => k ≤ (l.getD i default).2.draws.length ∧ MapIs es3 (given es (l.getD i default).2 seen ++ give (l.getD i default).2 k (es.getD q default))) (fun ⟨k, es3⟩ => (l.getD i default).2.draws.length - k) (0, es2) [mapH b19 encK1 es2] rfl ⟨by omega, by (try dsimp only); rw [count_nil_give]; exact h2⟩ (.c rfl (.base 0 rfl rfl)) ?_
      rintro ⟨k, es3⟩ ⟨hk, h4⟩ ih2
      dsimp only [List.cons_append, List.nil_append] at ih2 ⊢
      refine XK.seq ?_
      refine XK.region rfl ?_
      refine XO.q (Q.lss rfl rfl) ?_
      refine XO.done ?_
      refine XK.seq ?_
      refine XK.if rfl (fun c2 => ?_) (fun c2 => ?_)
      · have _t2 := True.intro
        have dk := jok.draw k (by omega)
        unfold DrawOk at dk
        refine XK.skip ?_
        refine XK.seq ?_
        refine XK.block ?_
        refine XK.seq ?_
        refine XK.region rfl ?_
        refine XO.ix rfl rfl (by omega) (by omega) fun i32 => ?_
        refine XO.q (Q.ldEA [_, _] rfl (by first | assumption | omega) rfl rfl) ?_
        refine XO.alloc fun b10 => ?_
        refine XO.st rfl rfl rfl ?_
        refine XO.done ?_
        refine XK.region rfl ?_
        refine XO.q (Q.move rfl) ?_
        refine XO.q (Q.move rfl) ?_
        refine XO.q (Q.fieldAddr rfl) ?_
        refine XO.q (Q.ld rfl rfl) ?_
        refine XO.q (Q.add rfl rfl ⟨by omega, by omega⟩) ?_
        refine XO.q (Q.lookup (enc := encK1) _ Try.zeroValue3 ((es.getD q default).1 + ((l.getD i default).2.draws.getD k default).power) rfl rfl) ?_
        rw [h4.get]
        refine XO.q (Q.move rfl) ?_
        refine XO.q (Q.fieldAddr rfl) ?_
        refine XO.q (Q.ld rfl rfl) ?_
        obtain ⟨gv1, gv2, gv3⟩ := mi.give jok h4 hq (by omega) hnd hlt hqs sb.1 sb.2 rfl rfl rfl
        refine XO.q (Q.mul rfl rfl ⟨by omega, by omega⟩) ?_
        refine XO.q (Q.add rfl rfl ⟨by omega, by omega⟩) ?_
        refine XO.mapUpdate (enc := encK1) ((es.getD q default).1 + ((l.getD i default).2.draws.getD k default).power) rfl rfl rfl ?_
        refine XO.done ?_
        refine XK.inBlock ?_
        refine XK.region rfl ?_
        refine XO.q (Q.add rfl rfl ⟨by omega, by omega⟩) ?_
        refine XO.q (Q.move rfl) ?_
        refine XO.done ?_
        exact ih2 (k + 1, _) _ _ ⟨by dsimp only; omega, gv3⟩ (by first | omega | (dsimp only; omega)) (.c rfl (.base 35 rfl rfl)) inferInstance
      · have _t2 := True.intro
        have hkl : k = (l.getD i default).2.draws.length := by omega
        subst hkl
        refine XK.exit rfl ?_
        refine XK.inBlock ?_
        exact ih1 (seen ++ [q], es3) _ _ ⟨nodup_snoc hnd hqs, mem_snoc hlt hq, by dsimp only; rw [given_snoc]; exact h4⟩ (by have := seen_few (nodup_snoc hnd hqs) (mem_snoc hlt hq); rw [List.length_append, List.length_singleton] at this; dsimp only; rw [List.length_append, List.length_singleton]; omega) (.base 57 rfl rfl) inferInstance
    · have _t1 := True.intro
      obtain ⟨rfl, hall⟩ := out22.done (by simpa using c1)
      have h3 := h2.perm (given_all mi hnd hlt hall)
      refine XK.exit rfl ?_
      refine XK.region rfl ?_
      refine XO.q (Q.move rfl) ?_
      refine XO.q (Q.assign rfl) ?_
      refine XO.done ?_
      refine XK.inBlock ?_
      refine XK.region rfl ?_
      refine XO.q (Q.add rfl rfl ⟨by omega, by omega⟩) ?_
      refine XO.q (Q.move rfl) ?_
      refine XO.done ?_
      exact ih0 (i + 1, b19, es2) _ _ ⟨by dsimp only; omega, by dsimp only; rw [combos_succ (by omega), ji]; exact h3⟩ (by first | omega | (dsimp only; omega)) (.c rfl (.c rfl (.base 82 rfl rfl))) inferInstance
  · have _t0 := True.intro
    refine XK.exit rfl ?_
    refine XK.seq ?_
    refine XK.region rfl ?_
    refine XO.q (Q.move rfl) ?_
    refine XO.q (Q.assign rfl) ?_
    refine XO.done ?_
    refine XK.rt [mapH b encK1 es] Try.func26 Try.results26 (.t rfl .n) ?_
    have hil : i = l.length := by omega
    rw [← lm] at hil
    rw [hil, List.take_length] at mi
    exact ⟨b, es, rfl, rfl, mi⟩
end Go.X

set_option linter.unusedSimpArgs false
set_option linter.unusedVariables false
set_option maxRecDepth 20000
namespace Go.X
open Go.Proofs
set_option maxHeartbeats 2000000 in
theorem over_spec (l : List (Value × PJob)) (vl : Value) (hl K : PHeap) [jl : Arr vl encPJ 6 hl l] (aL : JobsK l K) (ok : ListOk (l.map Prod.snd)) (limit all : Int) (ha : 1 ≤ all ∧ all ≤ 1099511627776) : Spec Try.prog 29 #[vl, .int .i64 limit, .int .i64 all] [] [hl, K] (fun v hs => v = .agg #[.int .i64 (overG (l.map Prod.snd) limit all).n, .int .i64 (overG (l.map Prod.snd) limit all).d] ∧ hs = []) := by
  have cl := combos_len ok (l.map Prod.snd).length (Nat.le_refl _)
  rw [List.take_length] at cl
  have pr := ok.prod (l.map Prod.snd).length (Nat.le_refl _)
  have ol := over_len (combos (l.map Prod.snd)) limit
  have gp := gcd_pos (n := ((overN (combos (l.map Prod.snd)) limit : Nat) : Int)) ha.1
  refine Spec.intro (fn := Try.f29) (N := 35) Try.func29 rfl Try.ntmps29 rfl fun B => ?_
  refine XK.seq ?_
  refine XK.region rfl ?_
  refine XO.alloc fun b6 => ?_
  refine XO.done ?_
  refine XK.seq ?_
  refine XK.region rfl ?_
  refine XO.q (Q.assign rfl) ?_
  refine XO.done ?_
  refine XK.seq ?_
  refine XK.seq ?_
  refine XK.region rfl ?_
  refine XO.q (Q.move rfl) ?_
  refine XO.call Try.call26 rfl rfl rfl (sums_spec l vl hl K aL ok) fun v12 s12 R12 => ?_
  obtain ⟨b, es, rfl, rfl, mi⟩ := R12
  dsimp only [List.cons_append, List.nil_append]
  refine XO.range rfl fun q13 => ?_
  refine XO.done ?_
  refine XK.block ?_
  refine XK.while (X := List Nat) [7, 8, 9, 14, 15, 16, 17, 18, 19, 20, 21, 22, 23, 24] (fun seen => [(7, some (.int .i64 (overS es limit seen)))]) (fun seen => [itH q13 b es.length seen]) (fun seen => seen.Nodup ∧ (∀ i ∈ seen, i < es.length)) (fun seen => es.length - seen.length) ([]) [itH q13 b es.length []] rfl ⟨List.nodup_nil, fun i h => (by cases h)⟩ (.c rfl (.base 0 rfl rfl)) ?_
  rintro seen ⟨hnd, hlt⟩ ih0
  dsimp only [List.cons_append, List.nil_append] at ih0 ⊢
  refine XK.seq ?_
  refine XK.region rfl ?_
  refine XO.next rfl rfl fun more14 nl14 seen14 out14 => ?_
  refine XO.q (Q.extract0 rfl) ?_
  refine XO.done ?_
  refine XK.seq ?_
  refine XK.if rfl (fun c0 => ?_) (fun c0 => ?_)
  · have _t0 := True.intro
    obtain ⟨q, hq, hqs, rfl⟩ := out14.next c0
    refine XK.skip ?_
    refine XK.block ?_
    refine XK.seq ?_
    refine XK.region rfl ?_
    refine XO.q (Q.entry (i := q) rfl rfl hq) ?_
    refine XO.q (Q.extract rfl rfl) ?_
    refine XO.q (Q.extract rfl rfl) ?_
    rw [(mi.at hq).1]
    have os := overS_snoc es limit seen q
    rw [(mi.at hq).2.1] at os
    have orr := overS_rng (limit := limit) mi hnd hlt
    have cle : List.count (es.getD q default).1 (combos (l.map Prod.snd)) ≤ (combos (l.map Prod.snd)).length := List.count_le_length
    refine XO.q (Q.assign rfl) ?_
    refine XO.q (Q.assign rfl) ?_
    refine XO.done ?_
    refine XK.seq ?_
    refine XK.region rfl ?_
    refine XO.q (Q.move rfl) ?_
    refine XO.q (Q.move rfl) ?_
    refine XO.q (Q.gtr rfl rfl) ?_
    refine XO.done ?_
    refine XK.if rfl (fun c1 => ?_) (fun c1 => ?_)
    · have _t1 := True.intro
      rw [if_pos c1] at os
      refine XK.region rfl ?_
      refine XO.q (Q.move rfl) ?_
      refine XO.q (Q.move rfl) ?_
      refine XO.q (Q.add rfl rfl ⟨by omega, by omega⟩) ?_
      refine XO.q (Q.assign rfl) ?_
      refine XO.done ?_
      refine XK.inBlock ?_
      rw [← os]
      exact ih0 (seen ++ [q]) _ _ ⟨nodup_snoc hnd hqs, mem_snoc hlt hq⟩ (by have := seen_few (nodup_snoc hnd hqs) (mem_snoc hlt hq); rw [List.length_append, List.length_singleton] at this; (try dsimp only); rw [List.length_append, List.length_singleton]; omega) (.c rfl (.base 29 rfl rfl)) inferInstance
    · have _t1 := True.intro
      rw [if_neg c1, Int.add_zero] at os
      refine XK.skip ?_
      refine XK.inBlock ?_
      rw [← os]
      exact ih0 (seen ++ [q]) _ _ ⟨nodup_snoc hnd hqs, mem_snoc hlt hq⟩ (by have := seen_few (nodup_snoc hnd hqs) (mem_snoc hlt hq); rw [List.length_append, List.length_singleton] at this; (try dsimp only); rw [List.length_append, List.length_singleton]; omega) (.c rfl (.base 25 rfl rfl)) inferInstance
  · have _t0 := True.intro
    obtain ⟨rfl, hall⟩ := out14.done (by simpa using c0)
    rw [overS_all mi hnd hlt hall]
    refine XK.exit rfl ?_
    refine XK.seq ?_
    refine XK.region rfl ?_
    refine XO.q (Q.move rfl) ?_
    refine XO.q (Q.move rfl) ?_
    refine XO.call Try.call62 rfl rfl rfl ((by
      have q := divisor_spec (overN (combos (l.map Prod.snd)) limit) all.toNat (by omega) (by omega)
      rw [show ((all.toNat : Nat) : Int) = all by omega] at q
      exact q)) fun v27 s27 R27 => ?_
    obtain ⟨rfl, rfl⟩ := R27
    dsimp only [List.cons_append, List.nil_append]
    rw [show (Nat.gcd (overN (combos (l.map Prod.snd)) limit) all.toNat : Nat) = Int.gcd ((overN (combos (l.map Prod.snd)) limit : Nat) : Int) all by unfold Int.gcd; rw [Int.natAbs_natCast, show all.natAbs = all.toNat by omega]]
    refine XO.q (Q.assign rfl) ?_
    refine XO.done ?_
    refine XK.seq ?_
    refine XK.drawn [0, 1, 2, 3, 4, 5, 6] [] [] (.q 0 (.q 1 (.q 2 (.q 3 (.q 4 (.q 5 (.q 6 (.br 7 false .done .stop)))))))) Try.mixed rfl (by kernel_rfl) ?_
    refine XT.q rfl rfl (Q.move rfl) ?_
    refine XT.q rfl rfl (Q.move rfl) ?_
    refine XT.q rfl rfl (Q.quo rfl rfl (by omega) (by omega) (by omega)) ?_
    refine XT.q rfl rfl (Q.move rfl) ?_
    refine XT.q rfl rfl (Q.move rfl) ?_
    refine XT.q rfl rfl (Q.quo rfl rfl (by omega) (by omega) (by omega)) ?_
    refine XT.q rfl rfl (Q.build [_, _] (.c 0 1 rfl rfl rfl (.c 1 1 rfl rfl rfl (.n _)))) ?_
    refine XT.st rfl rfl rfl rfl rfl ⟨inferInstance, ?_⟩ XT.stop
    refine XT.done ?_
    refine XK.rt [] Try.func29 Try.results29 (.cell [_, _] rfl rfl rfl (.n)) ?_
    exact ⟨rfl, rfl⟩
theorem listed_rng {l : List PJob} (ok : ListOk l) : listedG l = (prodJ l l.length, 0) ∧ 1 ≤ prodJ l l.length ∧ prodJ l l.length ≤ 1099511627776 := ⟨listed_prod ok, prod_pos ok _ (Nat.le_refl _), ok.prod _ (Nat.le_refl _)⟩
theorem Chance_spec (l : List (Value × PJob)) (vl : Value) (hl K : PHeap) [jl : Arr vl encPJ 6 hl l] (aL : JobsK l K) (limit : Int) : Spec Try.prog 10 #[vl, .int .i64 limit] [] [hl, K] (fun v hs => v = .tuple #[.agg #[.int .i64 (chanceG (l.map Prod.snd) limit).1.n, .int .i64 (chanceG (l.map Prod.snd) limit).1.d], .int .i64 (chanceG (l.map Prod.snd) limit).2] ∧ hs = []) := by
  refine Spec.intro (fn := Try.f10) (N := 21) Try.func10 rfl Try.ntmps10 rfl fun B => ?_
  refine XK.seq ?_
  refine XK.region rfl ?_
  refine XO.alloc fun b4 => ?_
  refine XO.q (Q.assign rfl) ?_
  refine XO.done ?_
  refine XK.seq ?_
  refine XK.region rfl ?_
  refine XO.q (Q.move rfl) ?_
  refine XO.call Try.call25 rfl rfl rfl (listed_spec l vl hl K aL) fun v10 s10 R10 => ?_
  obtain ⟨rfl, rfl⟩ := R10
  dsimp only [List.cons_append, List.nil_append]
  refine XO.q (Q.move rfl) ?_
  refine XO.q (Q.extract rfl rfl) ?_
  refine XO.q (Q.extract rfl rfl) ?_
  refine XO.q (Q.assign rfl) ?_
  refine XO.q (Q.assign rfl) ?_
  refine XO.done ?_
  refine XK.seq ?_
  refine XK.seq ?_
  refine XK.region rfl ?_
  refine XO.q (Q.move rfl) ?_
  refine XO.q (Q.neq rfl rfl) ?_
  refine XO.done ?_
  refine XK.if rfl (fun c0 => ?_) (fun c0 => ?_)
  · have _t0 := True.intro
    refine XK.seq ?_
    refine XK.region rfl ?_
    refine XO.q (Q.build [_, _] (.n _)) ?_
    refine XO.q (Q.move rfl) ?_
    refine XO.st rfl rfl rfl ?_
    refine XO.q (Q.assign rfl) ?_
    refine XO.done ?_
    refine XK.rt [] Try.func10 Try.results10 (.cell [_, _] rfl rfl rfl (.t rfl .n)) ?_
    exact ⟨by rw [chanceG, if_pos c0], rfl⟩
  · have _t0 := True.intro
    have ok := listed_ok.1 (Decidable.of_not_not c0)
    have lr := listed_rng ok
    refine XK.skip ?_
    refine XK.seq ?_
    refine XK.region rfl ?_
    refine XO.q (Q.move rfl) ?_
    refine XO.q (Q.move rfl) ?_
    refine XO.q (Q.move rfl) ?_
    refine XO.call Try.call29 rfl rfl rfl (over_spec l vl hl K aL ok limit (listedG (l.map Prod.snd)).1 (by rw [lr.1]; exact lr.2)) fun v20 s20 R20 => ?_
    obtain ⟨rfl, rfl⟩ := R20
    dsimp only [List.cons_append, List.nil_append]
    refine XO.st rfl rfl rfl ?_
    refine XO.q (Q.assign rfl) ?_
    refine XO.done ?_
    refine XK.rt [] Try.func10 Try.results10 (.cell [_, _] rfl rfl rfl (.t rfl .n)) ?_
    exact ⟨by rw [chanceG, if_neg c0], rfl⟩
theorem atMost_spec (a b : PRat) (ha : (0 ≤ a.n ∧ a.n ≤ 1099511627776) ∧ (0 ≤ a.d ∧ a.d ≤ 1099511627776)) (hb : (0 ≤ b.n ∧ b.n ≤ 1000000) ∧ (0 ≤ b.d ∧ b.d ≤ 1000000)) : Spec Try.prog 55 #[.agg #[.int .i64 a.n, .int .i64 a.d], .agg #[.int .i64 b.n, .int .i64 b.d]] [] [] (fun v hs => v = .bool (atMostB a b) ∧ hs = []) := by
  have m1 := mulP ha.1 hb.2
  have m2 := mulP ha.2 hb.1
  rw [Int.mul_comm a.d] at m2
  refine Spec.intro (fn := Try.f55) (N := 16) Try.func55 rfl Try.ntmps55 rfl fun B => ?_
  refine XK.seq ?_
  refine XK.region rfl ?_
  refine XO.box rfl fun b2 => ?_
  refine XO.box rfl fun b3 => ?_
  refine XO.q (Q.assign rfl) ?_
  refine XO.done ?_
  refine XK.seq ?_
  refine XK.region rfl ?_
  refine XO.q (Q.fieldAddr rfl) ?_
  refine XO.q (Q.ld rfl rfl) ?_
  refine XO.q (Q.fieldAddr rfl) ?_
  refine XO.q (Q.ld rfl rfl) ?_
  refine XO.q (Q.mul rfl rfl ⟨by omega, by omega⟩) ?_
  refine XO.q (Q.fieldAddr rfl) ?_
  refine XO.q (Q.ld rfl rfl) ?_
  refine XO.q (Q.fieldAddr rfl) ?_
  refine XO.q (Q.ld rfl rfl) ?_
  refine XO.q (Q.mul rfl rfl ⟨by omega, by omega⟩) ?_
  refine XO.q (Q.leq rfl rfl) ?_
  refine XO.q (Q.assign rfl) ?_
  refine XO.done ?_
  refine XK.rt [] Try.func55 Try.results55 (.t rfl .n) ?_
  exact ⟨rfl, rfl⟩
set_option maxHeartbeats 4000000 in
theorem fits_spec (l : List (Value × PJob)) (vl : Value) (hl K : PHeap) [jl : Arr vl encPJ 6 hl l] (aL : JobsK l K) (ok : ListOk (l.map Prod.snd)) (r : PRack) (m : PRat) (hm : chanceR m = true) (all : Int) (ha : all = prodJ (l.map Prod.snd) (l.map Prod.snd).length) : Spec Try.prog 65 #[vl, .agg #[.int .i64 r.r0, .int .i64 r.r1, .int .i64 r.r2, .int .i64 r.cap, .int .i64 r.domain], .agg #[.int .i64 m.n, .int .i64 m.d], .int .i64 all] [] [hl, K] (fun v hs => v = .bool (fitsG (l.map Prod.snd) r m) ∧ hs = []) := by
  have ll := jl.le
  have lm : (l.map Prod.snd).length = l.length := List.length_map ..
  have few := ok.few
  have lr := listed_rng ok
  have mr := chanceR_rng hm
  refine Spec.intro (fn := Try.f65) (N := 55) Try.func65 rfl Try.ntmps65 rfl fun B => ?_
  refine XK.seq ?_
  refine XK.region rfl ?_
  refine XO.box rfl fun b5 => ?_
  refine XO.box rfl fun b6 => ?_
  refine XO.q (Q.assign rfl) ?_
  refine XO.done ?_
  refine XK.seq ?_
  refine XK.region rfl ?_
  refine XO.alloc fun b9 => ?_
  refine XO.done ?_
  refine XK.seq ?_
  refine XK.seq ?_
  refine XK.region rfl ?_
  refine XO.q (Q.move rfl) ?_
  refine XO.len rfl fun l17 => ?_
  refine XO.q (Q.move rfl) ?_
  refine XO.done ?_
  refine XK.block ?_
  refine XK.while (X := Nat) [11, 12, 13, 18, 19, 20, 21, 22, 23, 24, 25, 26, 27, 28, 29, 30, 31, 32, 33, 34, 35] (fun i => [(18, some (.int .i64 (i : Nat)))]) (fun i => [blk b9 [.int .i64 (needK (l.map Prod.snd) 0 i), .int .i64 (needK (l.map Prod.snd) 1 i), .int .i64 (needK (l.map Prod.snd) 2 i)] 37]) (fun i => i ≤ l.length) (fun i => l.length - i) (0) [blk b9 [.int .i64 0, .int .i64 0, .int .i64 0] 37] rfl (by omega) (.c rfl (.base 0 rfl rfl)) ?_
  rintro i hi ih0
  dsimp only [List.cons_append, List.nil_append] at ih0 ⊢
  refine XK.seq ?_
  refine XK.region rfl ?_
  refine XO.q (Q.lss rfl rfl) ?_
  refine XO.done ?_
  refine XK.seq ?_
  refine XK.if rfl (fun c0 => ?_) (fun c0 => ?_)
  · have _t0 := True.intro
    have ji := map_snd_atP l i
    have ai := aL i (by omega)
    have jok := ok.job i (by omega)
    rw [ji] at jok
    have nr := pin_three.1 jok.need
    have na := need_succ (l := l.map Prod.snd) (i := i) (by omega)
    rw [ji] at na
    have nb := need_rng ok i (by omega)
    obtain ⟨na0, na1, na2⟩ := na
    refine XK.skip ?_
    refine XK.seq ?_
    refine XK.block ?_
    refine XK.seq ?_
    refine XK.region rfl ?_
    refine XO.ix rfl rfl (by omega) (by omega) fun i20 => ?_
    refine XO.q (Q.ldEA [_, _, _, _, _, _] rfl (by first | assumption | omega) rfl rfl) ?_
    refine XO.alloc fun b11 => ?_
    refine XO.st rfl rfl rfl ?_
    refine XO.done ?_
    refine XK.seq ?_
    refine XK.region rfl ?_
    refine XO.q (Q.fieldAddr rfl) ?_
    refine XO.q (Q.ldA [_, _, _] rfl rfl rfl) ?_
    refine XO.q (Q.move rfl) ?_
    refine XO.done ?_
    refine XK.block ?_
    refine XK.loop' ?_
    refine XK.seq ?_
    refine XK.region rfl ?_
    refine XO.q (Q.lss rfl rfl) ?_
    refine XO.done ?_
    refine XK.seq ?_
    refine XK.if rfl (fun c1 => ?_) (fun c1 => ?_)
    · have _t1 := True.intro
      refine XK.skip ?_
      refine XK.seq ?_
      refine XK.block ?_
      refine XK.seq ?_
      refine XK.region rfl ?_
      refine XO.q (Q.move rfl) ?_
      refine XO.q (Q.index rfl rfl (by decide) (Nat.le_of_ble_eq_true rfl)) ?_
      refine XO.q (Q.assign rfl) ?_
      refine XO.q (Q.assign rfl) ?_
      refine XO.done ?_
      refine XK.region rfl ?_
      refine XO.q (Q.move rfl) ?_
      refine XO.q (Q.ixA rfl rfl (by omega) (by omega)) ?_
      (try rw [show (0 + Int.toNat 0 * 1 : Nat) = 0 from rfl])
      (try rw [show (0 + Int.toNat 1 * 1 : Nat) = 1 from rfl])
      (try rw [show (0 + Int.toNat 2 * 1 : Nat) = 2 from rfl])
      refine XO.q (Q.ld rfl rfl) ?_
      refine XO.q (Q.move rfl) ?_
      refine XO.q (Q.add rfl rfl ⟨by omega, by omega⟩) ?_
      refine XO.q (Q.ixA rfl rfl (by omega) (by omega)) ?_
      (try rw [show (0 + Int.toNat 0 * 1 : Nat) = 0 from rfl])
      (try rw [show (0 + Int.toNat 1 * 1 : Nat) = 1 from rfl])
      (try rw [show (0 + Int.toNat 2 * 1 : Nat) = 2 from rfl])
      refine XO.st rfl rfl rfl ?_
      refine XO.done ?_
      refine XK.inBlock ?_
      refine XK.region rfl ?_
      refine XO.q (Q.add rfl rfl ⟨by omega, by omega⟩) ?_
      (try rw [show ((0 : Int) + 1) = 1 from rfl])
      (try rw [show ((1 : Int) + 1) = 2 from rfl])
      (try rw [show ((2 : Int) + 1) = 3 from rfl])
      refine XO.q (Q.move rfl) ?_
      refine XO.done ?_
      refine XK.inLoop' ?_
      refine XK.seq ?_
      refine XK.region rfl ?_
      refine XO.q (Q.lss rfl rfl) ?_
      refine XO.done ?_
      refine XK.seq ?_
      refine XK.if rfl (fun c2 => ?_) (fun c2 => ?_)
      · have _t2 := True.intro
        refine XK.skip ?_
        refine XK.seq ?_
        refine XK.block ?_
        refine XK.seq ?_
        refine XK.region rfl ?_
        refine XO.q (Q.move rfl) ?_
        refine XO.q (Q.index rfl rfl (by decide) (Nat.le_of_ble_eq_true rfl)) ?_
        refine XO.q (Q.assign rfl) ?_
        refine XO.q (Q.assign rfl) ?_
        refine XO.done ?_
        refine XK.region rfl ?_
        refine XO.q (Q.move rfl) ?_
        refine XO.q (Q.ixA rfl rfl (by omega) (by omega)) ?_
        (try rw [show (0 + Int.toNat 0 * 1 : Nat) = 0 from rfl])
        (try rw [show (0 + Int.toNat 1 * 1 : Nat) = 1 from rfl])
        (try rw [show (0 + Int.toNat 2 * 1 : Nat) = 2 from rfl])
        refine XO.q (Q.ld rfl rfl) ?_
        refine XO.q (Q.move rfl) ?_
        refine XO.q (Q.add rfl rfl ⟨by omega, by omega⟩) ?_
        refine XO.q (Q.ixA rfl rfl (by omega) (by omega)) ?_
        (try rw [show (0 + Int.toNat 0 * 1 : Nat) = 0 from rfl])
        (try rw [show (0 + Int.toNat 1 * 1 : Nat) = 1 from rfl])
        (try rw [show (0 + Int.toNat 2 * 1 : Nat) = 2 from rfl])
        refine XO.st rfl rfl rfl ?_
        refine XO.done ?_
        refine XK.inBlock ?_
        refine XK.region rfl ?_
        refine XO.q (Q.add rfl rfl ⟨by omega, by omega⟩) ?_
        (try rw [show ((0 : Int) + 1) = 1 from rfl])
        (try rw [show ((1 : Int) + 1) = 2 from rfl])
        (try rw [show ((2 : Int) + 1) = 3 from rfl])
        refine XO.q (Q.move rfl) ?_
        refine XO.done ?_
        refine XK.inLoop' ?_
        refine XK.seq ?_
        refine XK.region rfl ?_
        refine XO.q (Q.lss rfl rfl) ?_
        refine XO.done ?_
        refine XK.seq ?_
        refine XK.if rfl (fun c3 => ?_) (fun c3 => ?_)
        · have _t3 := True.intro
          refine XK.skip ?_
          refine XK.seq ?_
          refine XK.block ?_
          refine XK.seq ?_
          refine XK.region rfl ?_
          refine XO.q (Q.move rfl) ?_
          refine XO.q (Q.index rfl rfl (by decide) (Nat.le_of_ble_eq_true rfl)) ?_
          refine XO.q (Q.assign rfl) ?_
          refine XO.q (Q.assign rfl) ?_
          refine XO.done ?_
          refine XK.region rfl ?_
          refine XO.q (Q.move rfl) ?_
          refine XO.q (Q.ixA rfl rfl (by omega) (by omega)) ?_
          (try rw [show (0 + Int.toNat 0 * 1 : Nat) = 0 from rfl])
          (try rw [show (0 + Int.toNat 1 * 1 : Nat) = 1 from rfl])
          (try rw [show (0 + Int.toNat 2 * 1 : Nat) = 2 from rfl])
          refine XO.q (Q.ld rfl rfl) ?_
          refine XO.q (Q.move rfl) ?_
          refine XO.q (Q.add rfl rfl ⟨by omega, by omega⟩) ?_
          refine XO.q (Q.ixA rfl rfl (by omega) (by omega)) ?_
          (try rw [show (0 + Int.toNat 0 * 1 : Nat) = 0 from rfl])
          (try rw [show (0 + Int.toNat 1 * 1 : Nat) = 1 from rfl])
          (try rw [show (0 + Int.toNat 2 * 1 : Nat) = 2 from rfl])
          refine XO.st rfl rfl rfl ?_
          refine XO.done ?_
          refine XK.inBlock ?_
          refine XK.region rfl ?_
          refine XO.q (Q.add rfl rfl ⟨by omega, by omega⟩) ?_
          (try rw [show ((0 : Int) + 1) = 1 from rfl])
          (try rw [show ((1 : Int) + 1) = 2 from rfl])
          (try rw [show ((2 : Int) + 1) = 3 from rfl])
          refine XO.q (Q.move rfl) ?_
          refine XO.done ?_
          refine XK.inLoop' ?_
          refine XK.seq ?_
          refine XK.region rfl ?_
          refine XO.q (Q.lss rfl rfl) ?_
          refine XO.done ?_
          refine XK.seq ?_
          refine XK.if rfl (fun c4 => ?_) (fun c4 => ?_)
          · have _t4 := True.intro
            exact absurd c4 (by decide)
          · have _t4 := True.intro
            refine XK.exit rfl ?_
            refine XK.inBlock ?_
            refine XK.region rfl ?_
            refine XO.q (Q.add rfl rfl ⟨by omega, by omega⟩) ?_
            refine XO.q (Q.move rfl) ?_
            refine XO.done ?_
            rw [← na0, ← na1, ← na2]
            exact ih0 (i + 1) _ _ (by omega) (by first | omega | (dsimp only; omega)) (.c rfl (.base 71 rfl rfl)) inferInstance
        · have _t3 := True.intro
          exact absurd (by decide) c3
      · have _t2 := True.intro
        exact absurd (by decide) c2
    · have _t1 := True.intro
      exact absurd (by decide) c1
  · have _t0 := True.intro
    have hil : i = (l.map Prod.snd).length := by omega
    refine XK.exit rfl ?_
    refine XK.seq ?_
    refine XK.seq ?_
    refine XK.region rfl ?_
    refine XO.q (Q.ldA [_, _, _] rfl rfl rfl) ?_
    refine XO.q (Q.move rfl) ?_
    refine XO.done ?_
    refine XK.block ?_
    refine XK.loop' ?_
    refine XK.seq ?_
    refine XK.region rfl ?_
    refine XO.q (Q.lss rfl rfl) ?_
    refine XO.done ?_
    refine XK.seq ?_
    refine XK.if rfl (fun c5 => ?_) (fun c5 => ?_)
    · have _t5 := True.intro
      refine XK.skip ?_
      refine XK.seq ?_
      refine XK.block ?_
      refine XK.seq ?_
      refine XK.region rfl ?_
      refine XO.q (Q.move rfl) ?_
      refine XO.q (Q.index rfl rfl (by decide) (Nat.le_of_ble_eq_true rfl)) ?_
      refine XO.q (Q.assign rfl) ?_
      refine XO.q (Q.assign rfl) ?_
      refine XO.done ?_
      refine XK.seq ?_
      refine XK.region rfl ?_
      refine XO.q (Q.move rfl) ?_
      refine XO.q (Q.move rfl) ?_
      refine XO.q (Q.fieldAddr rfl) ?_
      refine XO.q (Q.ixA rfl rfl (by omega) (by omega)) ?_
      (try rw [show (0 + Int.toNat 0 * 1 : Nat) = 0 from rfl])
      (try rw [show (0 + Int.toNat 1 * 1 : Nat) = 1 from rfl])
      (try rw [show (0 + Int.toNat 2 * 1 : Nat) = 2 from rfl])
      refine XO.q (Q.ld rfl rfl) ?_
      refine XO.q (Q.gtr rfl rfl) ?_
      refine XO.done ?_
      refine XK.if rfl (fun c6 => ?_) (fun c6 => ?_)
      · have _t6 := True.intro
        refine XK.seq ?_
        refine XK.region rfl ?_
        refine XO.q (Q.assign rfl) ?_
        refine XO.done ?_
        refine XK.rt [] Try.func65 Try.results65 (.t rfl .n) ?_
        refine ⟨?_, rfl⟩
        rw [fitsG, ← hil, decide_eq_false (show ¬ needK (l.map Prod.snd) 0 i ≤ r.r0 by omega)]
        simp
      · have _t6 := True.intro
        refine XK.skip ?_
        refine XK.inBlock ?_
        refine XK.region rfl ?_
        refine XO.q (Q.add rfl rfl ⟨by omega, by omega⟩) ?_
        (try rw [show ((0 : Int) + 1) = 1 from rfl])
        (try rw [show ((1 : Int) + 1) = 2 from rfl])
        (try rw [show ((2 : Int) + 1) = 3 from rfl])
        refine XO.q (Q.move rfl) ?_
        refine XO.done ?_
        refine XK.inLoop' ?_
        refine XK.seq ?_
        refine XK.region rfl ?_
        refine XO.q (Q.lss rfl rfl) ?_
        refine XO.done ?_
        refine XK.seq ?_
        refine XK.if rfl (fun c7 => ?_) (fun c7 => ?_)
        · have _t7 := True.intro
          refine XK.skip ?_
          refine XK.seq ?_
          refine XK.block ?_
          refine XK.seq ?_
          refine XK.region rfl ?_
          refine XO.q (Q.move rfl) ?_
          refine XO.q (Q.index rfl rfl (by decide) (Nat.le_of_ble_eq_true rfl)) ?_
          refine XO.q (Q.assign rfl) ?_
          refine XO.q (Q.assign rfl) ?_
          refine XO.done ?_
          refine XK.seq ?_
          refine XK.region rfl ?_
          refine XO.q (Q.move rfl) ?_
          refine XO.q (Q.move rfl) ?_
          refine XO.q (Q.fieldAddr rfl) ?_
          refine XO.q (Q.ixA rfl rfl (by omega) (by omega)) ?_
          (try rw [show (0 + Int.toNat 0 * 1 : Nat) = 0 from rfl])
          (try rw [show (0 + Int.toNat 1 * 1 : Nat) = 1 from rfl])
          (try rw [show (0 + Int.toNat 2 * 1 : Nat) = 2 from rfl])
          refine XO.q (Q.ld rfl rfl) ?_
          refine XO.q (Q.gtr rfl rfl) ?_
          refine XO.done ?_
          refine XK.if rfl (fun c8 => ?_) (fun c8 => ?_)
          · have _t8 := True.intro
            refine XK.seq ?_
            refine XK.region rfl ?_
            refine XO.q (Q.assign rfl) ?_
            refine XO.done ?_
            refine XK.rt [] Try.func65 Try.results65 (.t rfl .n) ?_
            refine ⟨?_, rfl⟩
            rw [fitsG, ← hil, decide_eq_false (show ¬ needK (l.map Prod.snd) 1 i ≤ r.r1 by omega)]
            simp
          · have _t8 := True.intro
            refine XK.skip ?_
            refine XK.inBlock ?_
            refine XK.region rfl ?_
            refine XO.q (Q.add rfl rfl ⟨by omega, by omega⟩) ?_
            (try rw [show ((0 : Int) + 1) = 1 from rfl])
            (try rw [show ((1 : Int) + 1) = 2 from rfl])
            (try rw [show ((2 : Int) + 1) = 3 from rfl])
            refine XO.q (Q.move rfl) ?_
            refine XO.done ?_
            refine XK.inLoop' ?_
            refine XK.seq ?_
            refine XK.region rfl ?_
            refine XO.q (Q.lss rfl rfl) ?_
            refine XO.done ?_
            refine XK.seq ?_
            refine XK.if rfl (fun c9 => ?_) (fun c9 => ?_)
            · have _t9 := True.intro
              refine XK.skip ?_
              refine XK.seq ?_
              refine XK.block ?_
              refine XK.seq ?_
              refine XK.region rfl ?_
              refine XO.q (Q.move rfl) ?_
              refine XO.q (Q.index rfl rfl (by decide) (Nat.le_of_ble_eq_true rfl)) ?_
              refine XO.q (Q.assign rfl) ?_
              refine XO.q (Q.assign rfl) ?_
              refine XO.done ?_
              refine XK.seq ?_
              refine XK.region rfl ?_
              refine XO.q (Q.move rfl) ?_
              refine XO.q (Q.move rfl) ?_
              refine XO.q (Q.fieldAddr rfl) ?_
              refine XO.q (Q.ixA rfl rfl (by omega) (by omega)) ?_
              (try rw [show (0 + Int.toNat 0 * 1 : Nat) = 0 from rfl])
              (try rw [show (0 + Int.toNat 1 * 1 : Nat) = 1 from rfl])
              (try rw [show (0 + Int.toNat 2 * 1 : Nat) = 2 from rfl])
              refine XO.q (Q.ld rfl rfl) ?_
              refine XO.q (Q.gtr rfl rfl) ?_
              refine XO.done ?_
              refine XK.if rfl (fun c10 => ?_) (fun c10 => ?_)
              · have _t10 := True.intro
                refine XK.seq ?_
                refine XK.region rfl ?_
                refine XO.q (Q.assign rfl) ?_
                refine XO.done ?_
                refine XK.rt [] Try.func65 Try.results65 (.t rfl .n) ?_
                refine ⟨?_, rfl⟩
                rw [fitsG, ← hil, decide_eq_false (show ¬ needK (l.map Prod.snd) 2 i ≤ r.r2 by omega)]
                simp
              · have _t10 := True.intro
                refine XK.skip ?_
                refine XK.inBlock ?_
                refine XK.region rfl ?_
                refine XO.q (Q.add rfl rfl ⟨by omega, by omega⟩) ?_
                (try rw [show ((0 : Int) + 1) = 1 from rfl])
                (try rw [show ((1 : Int) + 1) = 2 from rfl])
                (try rw [show ((2 : Int) + 1) = 3 from rfl])
                refine XO.q (Q.move rfl) ?_
                refine XO.done ?_
                refine XK.inLoop' ?_
                refine XK.seq ?_
                refine XK.region rfl ?_
                refine XO.q (Q.lss rfl rfl) ?_
                refine XO.done ?_
                refine XK.seq ?_
                refine XK.if rfl (fun c11 => ?_) (fun c11 => ?_)
                · have _t11 := True.intro
                  exact absurd c11 (by decide)
                · have _t11 := True.intro
                  refine XK.exit rfl ?_
                  refine XK.seq ?_
                  refine XK.drawn [0, 1, 2, 3, 5, 7] [b5, b6] [] (.q 0 (.q 1 (.q 2 (.q 3 (.q 5 (.br 4 true (.br 6 true (.q 7 .done) .stop) .stop)))))) Try.mixed rfl (by kernel_rfl) ?_
                  refine XT.q rfl rfl (Q.move rfl) ?_
                  refine XT.q rfl rfl (Q.fieldAddr rfl) ?_
                  refine XT.q rfl rfl (Q.ld rfl rfl) ?_
                  refine XT.q rfl rfl (Q.move rfl) ?_
                  refine XT.q rfl rfl (Q.ldA [_, _] rfl rfl rfl) ?_
                  refine XT.call rfl rfl Try.call29 rfl rfl rfl (over_spec l vl hl K aL ok r.cap all (by rw [ha]; exact lr.2)) (fun v52 s52 R52 => ?_) XT.stop
                  obtain ⟨rfl, rfl⟩ := R52
                  dsimp only [List.cons_append, List.nil_append]
                  refine ⟨inferInstance, ?_⟩
                  have orr := over_rng (l.map Prod.snd) r.cap (all := all) (by rw [ha]; exact lr.2) (by have := combos_len ok (l.map Prod.snd).length (Nat.le_refl _); rw [List.take_length] at this; rw [ha]; exact this)
                  refine XT.call rfl rfl Try.call55 rfl rfl rfl (atMost_spec (overG (l.map Prod.snd) r.cap all) m orr mr) (fun v54 s54 R54 => ?_) XT.stop
                  obtain ⟨rfl, rfl⟩ := R54
                  dsimp only [List.cons_append, List.nil_append]
                  refine ⟨inferInstance, ?_⟩
                  refine XT.q rfl rfl (Q.assign rfl) ?_
                  refine XT.done ?_
                  refine XK.rt [] Try.func65 Try.results65 (.t rfl .n) ?_
                  refine ⟨?_, rfl⟩
                  rw [fitsG, ← hil, decide_eq_true (show needK (l.map Prod.snd) 0 i ≤ r.r0 by omega), decide_eq_true (show needK (l.map Prod.snd) 1 i ≤ r.r1 by omega), decide_eq_true (show needK (l.map Prod.snd) 2 i ≤ r.r2 by omega), ha, hil]
                  simp
            · have _t9 := True.intro
              exact absurd (by decide) c9
        · have _t7 := True.intro
          exact absurd (by decide) c7
    · have _t5 := True.intro
      exact absurd (by decide) c5
end Go.X

set_option linter.unusedSimpArgs false
set_option linter.unusedVariables false
set_option maxRecDepth 20000
namespace Go.X
open Go.Proofs
theorem JobsK.inTo {l : List (Value × PJob)} {K : PHeap} (aL : JobsK l K) {w : List Int} {r : Int} {n : Nat} (hn : n ≤ l.length) : JobsK (inTo l w r n) K := fun i hi => by
  obtain ⟨j, hj, _, he⟩ := inTo_mem (getD_mem hi)
  rw [he]; exact aL j (by omega)
theorem in_mem {l : List (Value × PJob)} {w : List Int} {r : Int} (n : Nat) : (inTo l w r n).map Prod.snd = inTo (l.map Prod.snd) w r n := inTo_map Prod.snd l w r rfl n
theorem in_spec (l : List (Value × PJob)) (vl : Value) (hl K : PHeap) [jl : Arr vl encPJ 6 hl l] (aL : JobsK l K) (rs : List PRack) (vr : Value) (hr : PHeap) [jr : Arr vr encRack 5 hr rs] (m : PRat) (w : List Int) (vw : Value) (hw : PHeap) [jw : Arr vw encI 1 hw w] (r : Int) (hwl : w.length ≤ l.length) (few : w.length ≤ 1000) : Spec Try.prog 42 #[.agg #[vl, vr, .int .i64 m.n, .int .i64 m.d], vw, .int .i64 r] [] [hl, K, hr, hw] (fun v hs => ∃ k, hs = [k] ∧ OArr v encPJ 6 39 k (inTo l w r w.length)) := by
  have nP : OArr (.slice none 0 0) encPJ 6 39 emp ([] : List (Value × PJob)) := OArr.nil (fun _ => rfl)
  refine Spec.intro (fn := Try.f42) (N := 30) Try.func42 rfl Try.ntmps42 rfl fun B => ?_
  refine XK.seq ?_
  refine XK.region rfl ?_
  refine XO.box rfl fun b3 => ?_
  refine XO.q (Q.assign rfl) ?_
  refine XO.done ?_
  refine XK.seq ?_
  refine XK.region rfl ?_
  refine XO.q (Q.assign rfl) ?_
  refine XO.done ?_
  refine XK.seq ?_
  refine XK.seq ?_
  refine XK.region rfl ?_
  refine XO.q (Q.move rfl) ?_
  refine XO.len rfl fun l11 => ?_
  refine XO.q (Q.move rfl) ?_
  refine XO.done ?_
  refine XK.block ?_
  refine XK.while (X := Nat × Value × PHeap) [7, 8, 9, 12, 13, 14, 15, 16, 17, 18, 19, 20, 21, 22, 23, 24, 25, 26, 27, 28] (fun ⟨i, vo, ho⟩ => [(12, some (.int .i64 (i : Nat))), (7, some (vo))]) (fun ⟨i, vo, ho⟩ => [ho]) (fun ⟨i, vo, ho⟩ => i ≤ w.length ∧ OArr vo encPJ 6 39 ho (inTo l w r i)) (fun ⟨i, vo, ho⟩ => w.length - i) (0, .slice none 0 0, emp) [emp] rfl ⟨by omega, nP⟩ (.c rfl (.c rfl (.base 0 rfl rfl))) ?_
  rintro ⟨i, vo, ho⟩ ⟨hi, OV⟩ ih0
  dsimp only [List.cons_append, List.nil_append] at ih0 ⊢
  refine XK.seq ?_
  refine XK.region rfl ?_
  refine XO.q (Q.lss rfl rfl) ?_
  refine XO.done ?_
  refine XK.seq ?_
  refine XK.if rfl (fun c0 => ?_) (fun c0 => ?_)
  · have _t0 := True.intro
    have ai := aL i (by omega)
    refine XK.skip ?_
    refine XK.seq ?_
    refine XK.block ?_
    refine XK.seq ?_
    refine XK.region rfl ?_
    refine XO.q (Q.move rfl) ?_
    refine XO.ix rfl rfl (by omega) (by omega) fun i15 => ?_
    refine XO.q (Q.ldE rfl (by first | assumption | omega) rfl) ?_
    refine XO.q (Q.assign rfl) ?_
    refine XO.q (Q.assign rfl) ?_
    refine XO.done ?_
    refine XK.seq ?_
    refine XK.region rfl ?_
    refine XO.q (Q.move rfl) ?_
    refine XO.q (Q.move rfl) ?_
    refine XO.q (Q.eql rfl rfl) ?_
    refine XO.done ?_
    refine XK.if rfl (fun c1 => ?_) (fun c1 => ?_)
    · have _t1 := True.intro
      refine XK.region rfl ?_
      refine XO.q (Q.move rfl) ?_
      refine XO.q (Q.fieldAddr rfl) ?_
      refine XO.q (Q.ld rfl rfl) ?_
      refine XO.q (Q.move rfl) ?_
      refine XO.ix rfl rfl (by omega) (by omega) fun i24 => ?_
      refine XO.q (Q.ldEA [_, _, _, _, _, _] rfl (by first | assumption | omega) rfl rfl) ?_
      refine XO.lit [_, _, _, _, _, _] [_, _, _, _, _, _] [l.getD i default] encPJ (by rfl) (by rfl) rfl (by rfl) (by exact .c 0 6 rfl rfl rfl (.n _)) (fun _ => rfl) (by rfl) rfl (by infer_instance) rfl fun v26 h26 O26 => ?_
      refine XO.append rfl rfl rfl rfl (by have := inTo_len l w r i; simp only [List.length_cons, List.length_nil]; omega) fun v27 h27 O27 => ?_
      refine XO.q (Q.assign rfl) ?_
      refine XO.done ?_
      refine XK.inBlock ?_
      refine XK.region rfl ?_
      refine XO.q (Q.add rfl rfl ⟨by omega, by omega⟩) ?_
      refine XO.q (Q.move rfl) ?_
      refine XO.done ?_
      exact ih0 (i + 1, v27, h27) _ _ ⟨by dsimp only; omega, by dsimp only; rw [inTo, if_pos c1]; exact O27⟩ (by first | omega | (dsimp only; omega)) (.c rfl (.c rfl (.base 42 rfl rfl))) inferInstance
    · have _t1 := True.intro
      refine XK.skip ?_
      refine XK.inBlock ?_
      refine XK.region rfl ?_
      refine XO.q (Q.add rfl rfl ⟨by omega, by omega⟩) ?_
      refine XO.q (Q.move rfl) ?_
      refine XO.done ?_
      exact ih0 (i + 1, vo, ho) _ _ ⟨by dsimp only; omega, by dsimp only; rw [inTo, if_neg c1, List.append_nil]; exact OV⟩ (by first | omega | (dsimp only; omega)) (.c rfl (.c rfl (.base 33 rfl rfl))) inferInstance
  · have _t0 := True.intro
    have hil : i = w.length := by omega
    subst hil
    refine XK.exit rfl ?_
    refine XK.seq ?_
    refine XK.region rfl ?_
    refine XO.q (Q.move rfl) ?_
    refine XO.q (Q.assign rfl) ?_
    refine XO.done ?_
    refine XK.rt [ho] Try.func42 Try.results42 (.t rfl .n) ?_
    exact ⟨ho, rfl, OV⟩
theorem worth_spec (l : List (Value × PJob)) (vl : Value) (hl K : PHeap) [jl : Arr vl encPJ 6 hl l] (aL : JobsK l K) (rs : List PRack) (vr : Value) (hr : PHeap) [jr : Arr vr encRack 5 hr rs] (m : PRat) (w : List Int) (vw : Value) (hw : PHeap) [jw : Arr vw encI 1 hw w] (ok : TaskOk (⟨(l.map Prod.snd), rs, m⟩ : PTask)) (hwl : w.length ≤ l.length) : Spec Try.prog 36 #[.agg #[vl, vr, .int .i64 m.n, .int .i64 m.d], vw] [] [hl, K, hr, hw] (fun v hs => v = .int .i64 (worthG (⟨(l.map Prod.snd), rs, m⟩ : PTask) w) ∧ hs = []) := by
  have ll := jl.le
  have lm : (l.map Prod.snd).length = l.length := List.length_map ..
  have few := ok.few
  have few2 : l.length ≤ 8 := by rw [← lm]; exact few
  refine Spec.intro (fn := Try.f36) (N := 27) Try.func36 rfl Try.ntmps36 rfl fun B => ?_
  refine XK.seq ?_
  refine XK.region rfl ?_
  refine XO.box rfl fun b2 => ?_
  refine XO.q (Q.assign rfl) ?_
  refine XO.done ?_
  refine XK.seq ?_
  refine XK.region rfl ?_
  refine XO.q (Q.assign rfl) ?_
  refine XO.done ?_
  refine XK.seq ?_
  refine XK.seq ?_
  refine XK.region rfl ?_
  refine XO.q (Q.move rfl) ?_
  refine XO.len rfl fun l9 => ?_
  refine XO.q (Q.move rfl) ?_
  refine XO.done ?_
  refine XK.block ?_
  refine XK.while (X := Nat) [5, 6, 7, 10, 11, 12, 13, 14, 15, 16, 17, 18, 19, 20, 21, 22, 23, 24, 25] (fun i => [(10, some (.int .i64 (i : Nat))), (5, some (.int .i64 (worthTo (⟨(l.map Prod.snd), rs, m⟩ : PTask) w i)))]) (fun i => []) (fun i => i ≤ w.length) (fun i => w.length - i) (0) [] rfl (by omega) (.c rfl (.c rfl (.base 0 rfl rfl))) ?_
  rintro i hi ih0
  dsimp only [List.cons_append, List.nil_append] at ih0 ⊢
  refine XK.seq ?_
  refine XK.region rfl ?_
  refine XO.q (Q.lss rfl rfl) ?_
  refine XO.done ?_
  refine XK.seq ?_
  refine XK.if rfl (fun c0 => ?_) (fun c0 => ?_)
  · have _t0 := True.intro
    have wr := worth_rng ok (w := w) i (by dsimp only; omega)
    have ji := map_snd_atP l i
    have wj := (ok.job i (by dsimp only; omega)).wor
    dsimp only at wj
    rw [ji] at wj
    refine XK.skip ?_
    refine XK.seq ?_
    refine XK.block ?_
    refine XK.seq ?_
    refine XK.region rfl ?_
    refine XO.q (Q.move rfl) ?_
    refine XO.ix rfl rfl (by omega) (by omega) fun i13 => ?_
    refine XO.q (Q.ldE rfl (by first | assumption | omega) rfl) ?_
    refine XO.q (Q.assign rfl) ?_
    refine XO.q (Q.assign rfl) ?_
    refine XO.done ?_
    refine XK.seq ?_
    refine XK.region rfl ?_
    refine XO.q (Q.move rfl) ?_
    refine XO.q (Q.geq rfl rfl) ?_
    refine XO.done ?_
    refine XK.if rfl (fun c1 => ?_) (fun c1 => ?_)
    · have _t1 := True.intro
      have e1 : worthTo (⟨(l.map Prod.snd), rs, m⟩ : PTask) w (i + 1) = worthTo (⟨(l.map Prod.snd), rs, m⟩ : PTask) w i + (l.getD i default).2.worth := by rw [worthTo, if_pos (by omega)]; dsimp only; rw [ji]
      refine XK.region rfl ?_
      refine XO.q (Q.move rfl) ?_
      refine XO.q (Q.fieldAddr rfl) ?_
      refine XO.q (Q.ld rfl rfl) ?_
      refine XO.q (Q.move rfl) ?_
      refine XO.ix rfl rfl (by omega) (by omega) fun i21 => ?_
      refine XO.q (Q.fieldQ rfl (by first | assumption | omega)) ?_
      refine XO.q (Q.ldE rfl (by first | assumption | omega) rfl) ?_
      refine XO.q (Q.add rfl rfl ⟨by omega, by omega⟩) ?_
      refine XO.q (Q.assign rfl) ?_
      refine XO.done ?_
      refine XK.inBlock ?_
      refine XK.region rfl ?_
      refine XO.q (Q.add rfl rfl ⟨by omega, by omega⟩) ?_
      refine XO.q (Q.move rfl) ?_
      refine XO.done ?_
      rw [← e1]
      exact ih0 (i + 1) _ _ (by omega) (by first | omega | (dsimp only; omega)) (.c rfl (.c rfl (.base 40 rfl rfl))) inferInstance
    · have _t1 := True.intro
      have e1 : worthTo (⟨(l.map Prod.snd), rs, m⟩ : PTask) w (i + 1) = worthTo (⟨(l.map Prod.snd), rs, m⟩ : PTask) w i := by rw [worthTo, if_neg (by omega), Int.add_zero]
      refine XK.skip ?_
      refine XK.inBlock ?_
      refine XK.region rfl ?_
      refine XO.q (Q.add rfl rfl ⟨by omega, by omega⟩) ?_
      refine XO.q (Q.move rfl) ?_
      refine XO.done ?_
      rw [← e1]
      exact ih0 (i + 1) _ _ (by omega) (by first | omega | (dsimp only; omega)) (.c rfl (.c rfl (.base 31 rfl rfl))) inferInstance
  · have _t0 := True.intro
    have hil : i = w.length := by omega
    subst hil
    refine XK.exit rfl ?_
    refine XK.seq ?_
    refine XK.region rfl ?_
    refine XO.q (Q.move rfl) ?_
    refine XO.q (Q.assign rfl) ?_
    refine XO.done ?_
    refine XK.rt [] Try.func36 Try.results36 (.t rfl .n) ?_
    exact ⟨rfl, rfl⟩
theorem cut_at {l : List (Value × PJob)} {n k : Nat} (hk : k < l.length - n) : ((l.drop n).take (l.length - n)).getD k default = l.getD (n + k) default := by
  rw [List.getD_eq_getElem?_getD, List.getElem?_take, if_pos hk, List.getElem?_drop, ← List.getD_eq_getElem?_getD]
theorem hope_spec (l : List (Value × PJob)) (vl : Value) (hl K : PHeap) [jl : Arr vl encPJ 6 hl l] (aL : JobsK l K) (rs : List PRack) (vr : Value) (hr : PHeap) [jr : Arr vr encRack 5 hr rs] (m : PRat) (w : List Int) (vw : Value) (hw : PHeap) [jw : Arr vw encI 1 hw w] (ok : TaskOk (⟨(l.map Prod.snd), rs, m⟩ : PTask)) (hwl : w.length ≤ l.length) : Spec Try.prog 35 #[.agg #[vl, vr, .int .i64 m.n, .int .i64 m.d], vw] [] [hl, K, hr, hw] (fun v hs => v = .int .i64 (hopeG (⟨(l.map Prod.snd), rs, m⟩ : PTask) w) ∧ hs = []) := by
  have ll := jl.le
  have lm : (l.map Prod.snd).length = l.length := List.length_map ..
  have few := ok.few
  have few2 : l.length ≤ 8 := by rw [← lm]; exact few
  have wr := worth_rng ok (w := w) w.length (by dsimp only; omega)
  have lc : ((l.drop w.length).take (l.length - w.length)).length = l.length - w.length := by rw [List.length_take, List.length_drop]; omega
  refine Spec.intro (fn := Try.f35) (N := 27) Try.func35 rfl Try.ntmps35 rfl fun B => ?_
  refine XK.seq ?_
  refine XK.region rfl ?_
  refine XO.box rfl fun b2 => ?_
  refine XO.q (Q.assign rfl) ?_
  refine XO.done ?_
  refine XK.seq ?_
  refine XK.region rfl ?_
  refine XO.q (Q.ldA [_, _, _, _] rfl rfl rfl) ?_
  refine XO.q (Q.move rfl) ?_
  refine XO.call Try.call36 rfl rfl rfl (worth_spec l vl hl K aL rs vr hr m w vw hw ok hwl) fun v10 s10 R10 => ?_
  obtain ⟨rfl, rfl⟩ := R10
  dsimp only [List.cons_append, List.nil_append]
  rw [show worthG (⟨(l.map Prod.snd), rs, m⟩ : PTask) w = worthG (⟨(l.map Prod.snd), rs, m⟩ : PTask) w + restTo (⟨(l.map Prod.snd), rs, m⟩ : PTask) w.length 0 by rw [restTo, Int.add_zero]]
  refine XO.q (Q.assign rfl) ?_
  refine XO.done ?_
  refine XK.seq ?_
  refine XK.seq ?_
  refine XK.region rfl ?_
  refine XO.q (Q.fieldAddr rfl) ?_
  refine XO.q (Q.ld rfl rfl) ?_
  refine XO.q (Q.move rfl) ?_
  refine XO.len rfl fun l14 => ?_
  refine XO.cut (i := w.length) (j := l.length) rfl (.s rfl (by omega)) .n (by omega) (by omega) fun v15 A15 => ?_
  refine XO.len rfl fun l16 => ?_
  refine XO.q (Q.move rfl) ?_
  refine XO.done ?_
  refine XK.block ?_
  refine XK.while (X := Nat) [5, 7, 17, 18, 19, 20, 21, 22, 23, 24, 25] (fun i => [(17, some (.int .i64 (i : Nat))), (5, some (.int .i64 (worthG (⟨(l.map Prod.snd), rs, m⟩ : PTask) w + restTo (⟨(l.map Prod.snd), rs, m⟩ : PTask) w.length i)))]) (fun i => []) (fun i => i ≤ l.length - w.length) (fun i => l.length - w.length - i) (0) [] rfl (by omega) (.c rfl (.c rfl (.base 0 rfl rfl))) ?_
  rintro i hi ih0
  dsimp only [List.cons_append, List.nil_append] at ih0 ⊢
  refine XK.seq ?_
  refine XK.region rfl ?_
  refine XO.q (Q.lss rfl rfl) ?_
  refine XO.done ?_
  refine XK.seq ?_
  refine XK.if rfl (fun c0 => ?_) (fun c0 => ?_)
  · have _t0 := True.intro
    have rr := rest_rng ok (n := w.length) i (by dsimp only; omega)
    have ji := map_snd_atP l (w.length + i)
    have ca := cut_at (l := l) (n := w.length) (k := i) (by omega)
    have ai := aL (w.length + i) (by omega)
    rw [← ca] at ai
    have wj := (ok.job (w.length + i) (by dsimp only; omega)).wor
    dsimp only at wj
    rw [ji] at wj
    have e1 : restTo (⟨(l.map Prod.snd), rs, m⟩ : PTask) w.length (i + 1) = restTo (⟨(l.map Prod.snd), rs, m⟩ : PTask) w.length i + (l.getD (w.length + i) default).2.worth := by rw [restTo]; dsimp only; rw [ji]
    rw [← ca] at wj e1
    have wg : worthG (⟨(l.map Prod.snd), rs, m⟩ : PTask) w = worthTo (⟨(l.map Prod.snd), rs, m⟩ : PTask) w w.length := rfl
    refine XK.skip ?_
    refine XK.seq ?_
    refine XK.block ?_
    refine XK.seq ?_
    refine XK.region rfl ?_
    refine XO.ix rfl rfl (by omega) (by omega) fun i19 => ?_
    refine XO.q (Q.ldEA [_, _, _, _, _, _] rfl (by first | assumption | omega) rfl rfl) ?_
    refine XO.alloc fun b7 => ?_
    refine XO.st rfl rfl rfl ?_
    refine XO.done ?_
    refine XK.region rfl ?_
    refine XO.q (Q.move rfl) ?_
    refine XO.q (Q.fieldAddr rfl) ?_
    refine XO.q (Q.ld rfl rfl) ?_
    refine XO.q (Q.add rfl rfl ⟨by omega, by omega⟩) ?_
    refine XO.q (Q.assign rfl) ?_
    refine XO.done ?_
    refine XK.inBlock ?_
    refine XK.region rfl ?_
    refine XO.q (Q.add rfl rfl ⟨by omega, by omega⟩) ?_
    refine XO.q (Q.move rfl) ?_
    refine XO.done ?_
    rw [show worthG (⟨(l.map Prod.snd), rs, m⟩ : PTask) w + restTo (⟨(l.map Prod.snd), rs, m⟩ : PTask) w.length i + ((((l.drop w.length).take (l.length - w.length))).getD i default).2.worth = worthG (⟨(l.map Prod.snd), rs, m⟩ : PTask) w + restTo (⟨(l.map Prod.snd), rs, m⟩ : PTask) w.length (i + 1) by rw [e1]; omega]
    exact ih0 (i + 1) _ _ (by omega) (by first | omega | (dsimp only; omega)) (.c rfl (.c rfl (.base 24 rfl rfl))) inferInstance
  · have _t0 := True.intro
    have hil : i = l.length - w.length := by omega
    subst hil
    refine XK.exit rfl ?_
    refine XK.seq ?_
    refine XK.region rfl ?_
    refine XO.q (Q.move rfl) ?_
    refine XO.q (Q.assign rfl) ?_
    refine XO.done ?_
    refine XK.rt [] Try.func35 Try.results35 (.t rfl .n) ?_
    exact ⟨by rw [hopeG]; dsimp only; rw [lm], rfl⟩
theorem ready_spec (l : List (Value × PJob)) (vl : Value) (hl K : PHeap) [jl : Arr vl encPJ 6 hl l] (aL : JobsK l K) (rs : List PRack) (vr : Value) (hr : PHeap) [jr : Arr vr encRack 5 hr rs] (m : PRat) : Spec Try.prog 33 #[.agg #[vl, vr, .int .i64 m.n, .int .i64 m.d]] [] [hl, K, hr] (fun v hs => v = .int .i64 (readyG (⟨(l.map Prod.snd), rs, m⟩ : PTask)) ∧ hs = []) := by
  refine Spec.intro (fn := Try.f33) (N := 18) Try.func33 rfl Try.ntmps33 rfl fun B => ?_
  refine XK.seq ?_
  refine XK.region rfl ?_
  refine XO.box rfl fun b1 => ?_
  refine XO.q (Q.assign rfl) ?_
  refine XO.done ?_
  refine XK.seq ?_
  refine XK.seq ?_
  refine XK.region rfl ?_
  refine XO.q (Q.ldA [_, _, _, _] rfl rfl rfl) ?_
  refine XO.call Try.call63 rfl rfl rfl (Check_spec l vl hl K aL rs vr hr m) fun v7 s7 R7 => ?_
  obtain ⟨rfl, rfl⟩ := R7
  dsimp only [List.cons_append, List.nil_append]
  refine XO.q (Q.assign rfl) ?_
  refine XO.done ?_
  refine XK.seq ?_
  refine XK.region rfl ?_
  refine XO.q (Q.move rfl) ?_
  refine XO.q (Q.neq rfl rfl) ?_
  refine XO.done ?_
  refine XK.if rfl (fun c0 => ?_) (fun c0 => ?_)
  · have _t0 := True.intro
    refine XK.seq ?_
    refine XK.region rfl ?_
    refine XO.q (Q.move rfl) ?_
    refine XO.q (Q.assign rfl) ?_
    refine XO.done ?_
    refine XK.rt [] Try.func33 Try.results33 (.t rfl .n) ?_
    exact ⟨by rw [readyG, if_pos c0], rfl⟩
  · have _t0 := True.intro
    refine XK.skip ?_
    refine XK.seq ?_
    refine XK.region rfl ?_
    refine XO.q (Q.fieldAddr rfl) ?_
    refine XO.q (Q.ld rfl rfl) ?_
    refine XO.call Try.call25 rfl rfl rfl (listed_spec l vl hl K aL) fun v14 s14 R14 => ?_
    obtain ⟨rfl, rfl⟩ := R14
    dsimp only [List.cons_append, List.nil_append]
    refine XO.q (Q.move rfl) ?_
    refine XO.q (Q.extract rfl rfl) ?_
    refine XO.q (Q.extract rfl rfl) ?_
    refine XO.q (Q.assign rfl) ?_
    refine XO.q (Q.assign rfl) ?_
    refine XO.done ?_
    refine XK.seq ?_
    refine XK.region rfl ?_
    refine XO.q (Q.move rfl) ?_
    refine XO.q (Q.assign rfl) ?_
    refine XO.done ?_
    refine XK.rt [] Try.func33 Try.results33 (.t rfl .n) ?_
    exact ⟨by rw [readyG, if_neg c0], rfl⟩
theorem formed1 (l : List (Value × PJob)) (vl : Value) (hl K : PHeap) [jl : Arr vl encPJ 6 hl l] (aL : JobsK l K) (rs : List PRack) (vr : Value) (hr : PHeap) [jr : Arr vr encRack 5 hr rs] (m : PRat) (x : Int) (b : Nat) : Spec Try.prog 68 #[.int .i64 x, ptr b 0] [] [blk b [vl, vr, .int .i64 m.n, .int .i64 m.d] 28, hl, K, hr] (fun v hs => v = .bool (outW (⟨(l.map Prod.snd), rs, m⟩ : PTask) x) ∧ hs = []) := by
  refine Spec.intro (fn := Try.f68) (N := 13) Try.func68 rfl Try.ntmps68 rfl fun B => ?_
  refine XK.seq ?_
  refine XK.region rfl ?_
  refine XO.q (Q.assign rfl) ?_
  refine XO.done ?_
  refine XK.seq ?_
  refine XK.region rfl ?_
  refine XO.q (Q.move rfl) ?_
  refine XO.q (Q.lss rfl rfl) ?_
  refine XO.q (Q.move rfl) ?_
  refine XO.q (Quiet.guardF rfl rfl fun g7 p7 => Q.move rfl) ?_
  refine XO.q (Quiet.guardF rfl rfl fun g8 p8 => Q.fieldAddr rfl) ?_
  refine XO.q (Quiet.guardF rfl rfl fun g9 p9 => Q.ld (lzv g9 rfl) rfl) ?_
  refine XO.q (Quiet.guardF rfl rfl fun g10 p10 => Q.len (lzv g10 rfl)) ?_
  refine XO.q (Quiet.guardF rfl rfl fun g11 p11 => Q.geq (lzv g11 rfl) (lzv g11 rfl)) ?_
  refine XO.q (Q.or rfl (fun hp => lzv hp rfl)) ?_
  refine XO.q (Q.assign rfl) ?_
  refine XO.done ?_
  refine XK.rt [] Try.func68 Try.results68 (.t rfl .n) ?_
  exact ⟨rfl, rfl⟩
theorem formed_spec (l : List (Value × PJob)) (vl : Value) (hl K : PHeap) [jl : Arr vl encPJ 6 hl l] (aL : JobsK l K) (rs : List PRack) (vr : Value) (hr : PHeap) [jr : Arr vr encRack 5 hr rs] (m : PRat) (w : List Int) (vw : Value) (hw : PHeap) [jw : Arr vw encI 1 hw w] : Spec Try.prog 39 #[.agg #[vl, vr, .int .i64 m.n, .int .i64 m.d], vw] [] [hl, K, hr, hw] (fun v hs => v = .int .i64 (formedG (⟨(l.map Prod.snd), rs, m⟩ : PTask) w) ∧ hs = []) := by
  have lm : (l.map Prod.snd).length = l.length := List.length_map ..
  refine Spec.intro (fn := Try.f39) (N := 43) Try.func39 rfl Try.ntmps39 rfl fun B => ?_
  refine XK.seq ?_
  refine XK.region rfl ?_
  refine XO.box rfl fun b2 => ?_
  refine XO.q (Q.assign rfl) ?_
  refine XO.done ?_
  refine XK.seq ?_
  refine XK.seq ?_
  refine XK.region rfl ?_
  refine XO.q (Q.ldA [_, _, _, _] rfl rfl rfl) ?_
  refine XO.call Try.call63 rfl rfl rfl (Check_spec l vl hl K aL rs vr hr m) fun v10 s10 R10 => ?_
  obtain ⟨rfl, rfl⟩ := R10
  dsimp only [List.cons_append, List.nil_append]
  refine XO.q (Q.assign rfl) ?_
  refine XO.done ?_
  refine XK.seq ?_
  refine XK.region rfl ?_
  refine XO.q (Q.move rfl) ?_
  refine XO.q (Q.neq rfl rfl) ?_
  refine XO.done ?_
  refine XK.if rfl (fun c0 => ?_) (fun c0 => ?_)
  · have _t0 := True.intro
    refine XK.seq ?_
    refine XK.region rfl ?_
    refine XO.q (Q.move rfl) ?_
    refine XO.q (Q.assign rfl) ?_
    refine XO.done ?_
    refine XK.rt [] Try.func39 Try.results39 (.t rfl .n) ?_
    exact ⟨by rw [formedG, if_pos c0], rfl⟩
  · have _t0 := True.intro
    have tk := pcheck_iff.1 (Decidable.of_not_not c0)
    have few := tk.few
    have rk5 := tk.rk5
    dsimp only at few rk5
    refine XK.skip ?_
    refine XK.seq ?_
    refine XK.seq ?_
    refine XK.region rfl ?_
    refine XO.q (Q.move rfl) ?_
    refine XO.len rfl fun l15 => ?_
    refine XO.q (Q.fieldAddr rfl) ?_
    refine XO.q (Q.ld rfl rfl) ?_
    refine XO.len rfl fun l18 => ?_
    refine XO.q (Q.neq rfl rfl) ?_
    refine XO.q (Q.move rfl) ?_
    refine XO.q (Quiet.guardF rfl rfl fun g21 p21 => Q.move rfl) ?_
    refine XO.q (Quiet.guardF rfl rfl fun g22 p22 => Q.func (fun _ he => rfl) (fun _ he => evs_rel he rfl)) ?_
    refine XO.gcallF rfl rfl Try.call67 rfl (fun g23 => .c (lzv g23 rfl) (.c (lzv g23 rfl) .n)) rfl (fun g23 p23 => containsFuncI vw hw w 68 [ptr b2 0] [blk b2 [vl, vr, .int .i64 m.n, .int .i64 m.d] 28, hl, K, hr] (outW (⟨(l.map Prod.snd), rs, m⟩ : PTask)) Try.call68 (fun x hx => formed1 l vl hl K aL rs vr hr m x b2)) ?_
    refine XO.q (Q.or rfl (fun hp => lzv hp rfl)) ?_
    refine XO.done ?_
    refine XK.if rfl (fun c1 => ?_) (fun c1 => ?_)
    · have _t1 := True.intro
      refine XK.seq ?_
      refine XK.region rfl ?_
      refine XO.q (Q.assign rfl) ?_
      refine XO.done ?_
      refine XK.rt [] Try.func39 Try.results39 (.t rfl .n) ?_
      exact ⟨by rw [formedG, if_neg c0, if_pos (by dsimp only; rw [lm]; exact c1)], rfl⟩
    · have _t1 := True.intro
      rw [not_or] at c1
      have hwl : w.length = l.length := by omega
      refine XK.skip ?_
      refine XK.seq ?_
      refine XK.seq ?_
      refine XK.region rfl ?_
      refine XO.q (Q.fieldAddr rfl) ?_
      refine XO.q (Q.ld rfl rfl) ?_
      refine XO.len rfl fun l27 => ?_
      refine XO.q (Q.move rfl) ?_
      refine XO.done ?_
      refine XK.block ?_
      refine XK.while (X := Nat) [4, 6, 7, 8, 28, 29, 30, 31, 32, 33, 34, 35, 36, 37, 38, 39, 40, 41, 42] (fun r => [(28, some (.int .i64 (r : Nat)))]) (fun r => []) (fun r => r ≤ rs.length ∧ refTo (⟨(l.map Prod.snd), rs, m⟩ : PTask) w r = 0) (fun r => rs.length - r) (0) [] rfl ⟨by omega, rfl⟩ (.c rfl (.base 0 rfl rfl)) ?_
      rintro r ⟨hr_, rz⟩ ih0
      dsimp only [List.cons_append, List.nil_append] at ih0 ⊢
      refine XK.seq ?_
      refine XK.region rfl ?_
      refine XO.q (Q.lss rfl rfl) ?_
      refine XO.done ?_
      refine XK.seq ?_
      refine XK.if rfl (fun c2 => ?_) (fun c2 => ?_)
      · have _t2 := True.intro
        refine XK.skip ?_
        refine XK.seq ?_
        refine XK.block ?_
        refine XK.seq ?_
        refine XK.region rfl ?_
        refine XO.q (Q.move rfl) ?_
        refine XO.q (Q.assign rfl) ?_
        refine XO.done ?_
        refine XK.seq ?_
        refine XK.region rfl ?_
        refine XO.q (Q.ldA [_, _, _, _] rfl rfl rfl) ?_
        refine XO.q (Q.move rfl) ?_
        refine XO.q (Q.move rfl) ?_
        refine XO.call Try.call42 rfl rfl rfl (in_spec l vl hl K aL rs vr hr m w vw hw (r : Nat) (by omega) (by omega)) fun v35 s35 R35 => ?_
        obtain ⟨k35, rfl, O35⟩ := R35
        dsimp only [List.cons_append, List.nil_append]
        refine XO.call Try.call25 rfl rfl rfl (listed_spec (inTo l w (r : Nat) w.length) v35 k35 K (aL.inTo (by omega))) fun v36 s36 R36 => ?_
        obtain ⟨rfl, rfl⟩ := R36
        dsimp only [List.cons_append, List.nil_append]
        rw [in_mem]
        refine XO.q (Q.move rfl) ?_
        refine XO.q (Q.extract rfl rfl) ?_
        refine XO.q (Q.extract rfl rfl) ?_
        refine XO.q (Q.assign rfl) ?_
        refine XO.q (Q.assign rfl) ?_
        refine XO.done ?_
        refine XK.seq ?_
        refine XK.region rfl ?_
        refine XO.q (Q.move rfl) ?_
        refine XO.q (Q.neq rfl rfl) ?_
        refine XO.done ?_
        refine XK.if rfl (fun c3 => ?_) (fun c3 => ?_)
        · have _t3 := True.intro
          refine XK.seq ?_
          refine XK.region rfl ?_
          refine XO.q (Q.move rfl) ?_
          refine XO.q (Q.assign rfl) ?_
          refine XO.done ?_
          refine XK.rt [] Try.func39 Try.results39 (.t rfl .n) ?_
          have e1 : refTo (⟨(l.map Prod.snd), rs, m⟩ : PTask) w (r + 1) = (listedG (inTo (l.map Prod.snd) w (r : Nat) w.length)).2 := by rw [refTo, if_neg (by rw [rz]; decide)]; rfl
          have e2 := refTo_keep (t := (⟨(l.map Prod.snd), rs, m⟩ : PTask)) (w := w) (n := r + 1) (by rw [e1]; exact c3) rs.length (by omega)
          exact ⟨by rw [formedG, if_neg c0, if_neg (by dsimp only; rw [lm, not_or]; exact c1)]; dsimp only; rw [e2, e1], rfl⟩
        · have _t3 := True.intro
          refine XK.skip ?_
          refine XK.inBlock ?_
          refine XK.region rfl ?_
          refine XO.q (Q.add rfl rfl ⟨by omega, by omega⟩) ?_
          refine XO.q (Q.move rfl) ?_
          refine XO.done ?_
          exact ih0 (r + 1) _ _ ⟨by omega, by rw [refTo, if_neg (by rw [rz]; decide)]; exact Decidable.of_not_not c3⟩ (by first | omega | (dsimp only; omega)) (.c rfl (.base 37 rfl rfl)) inferInstance
      · have _t2 := True.intro
        have hrl : r = rs.length := by omega
        subst hrl
        refine XK.exit rfl ?_
        refine XK.seq ?_
        refine XK.region rfl ?_
        refine XO.q (Q.assign rfl) ?_
        refine XO.done ?_
        refine XK.rt [] Try.func39 Try.results39 (.t rfl .n) ?_
        exact ⟨by rw [formedG, if_neg c0, if_neg (by dsimp only; rw [lm, not_or]; exact c1)]; dsimp only; rw [rz], rfl⟩
end Go.X

set_option linter.unusedSimpArgs false
set_option linter.unusedVariables false
set_option maxRecDepth 20000
namespace Go.X
open Go.Proofs
instance : KeyT Try.prog 122 encK2 := KeyT.pair Try.underlying122 inferInstance inferInstance inferInstance inferInstance
theorem apart_spec (l : List (Value × PJob)) (vl : Value) (hl K : PHeap) [jl : Arr vl encPJ 6 hl l] (aL : JobsK l K) (rs : List PRack) (vr : Value) (hr : PHeap) [jr : Arr vr encRack 5 hr rs] (m : PRat) (w : List Int) (vw : Value) (hw : PHeap) [jw : Arr vw encI 1 hw w] (ok : TaskOk (⟨(l.map Prod.snd), rs, m⟩ : PTask)) (wok : WOk (⟨(l.map Prod.snd), rs, m⟩ : PTask) w) : Spec Try.prog 66 #[.agg #[vl, vr, .int .i64 m.n, .int .i64 m.d], vw] [] [hl, K, hr, hw] (fun v hs => v = .bool (apartG (⟨(l.map Prod.snd), rs, m⟩ : PTask) w) ∧ hs = []) := by
  have ll := jl.le
  have lm : (l.map Prod.snd).length = l.length := List.length_map ..
  have hwl : w.length ≤ l.length := by have := wok.len; dsimp only at this; omega
  refine Spec.intro (fn := Try.f66) (N := 47) Try.func66 rfl Try.ntmps66 rfl fun B => ?_
  refine XK.seq ?_
  refine XK.region rfl ?_
  refine XO.box rfl fun b2 => ?_
  refine XO.q (Q.assign rfl) ?_
  refine XO.done ?_
  refine XK.seq ?_
  refine XK.region rfl ?_
  refine XO.map encK2 fun b9 => ?_
  refine XO.q (Q.assign rfl) ?_
  refine XO.done ?_
  refine XK.seq ?_
  refine XK.seq ?_
  refine XK.region rfl ?_
  refine XO.q (Q.move rfl) ?_
  refine XO.len rfl fun l11 => ?_
  refine XO.q (Q.move rfl) ?_
  refine XO.done ?_
  refine XK.block ?_
  refine XK.while (X := Nat) [4, 6, 7, 8, 12, 13, 14, 15, 16, 17, 18, 19, 20, 21, 22, 23, 24, 25, 26, 27, 28, 29, 30, 31, 32, 33, 34, 35, 36, 37, 38, 39, 40, 41, 42, 43, 44, 45, 46] (fun i => [(12, some (.int .i64 (i : Nat)))]) (fun i => [mapH b9 encK2 (seenK (keysTo (⟨(l.map Prod.snd), rs, m⟩ : PTask) w i))]) (fun i => i ≤ w.length ∧ apartTo (⟨(l.map Prod.snd), rs, m⟩ : PTask) w i = true) (fun i => w.length - i) (0) [mapH b9 encK2 []] rfl ⟨by omega, rfl⟩ (.c rfl (.base 0 rfl rfl)) ?_
  rintro i ⟨hi, ha⟩ ih0
  dsimp only [List.cons_append, List.nil_append] at ih0 ⊢
  refine XK.seq ?_
  refine XK.region rfl ?_
  refine XO.q (Q.lss rfl rfl) ?_
  refine XO.done ?_
  refine XK.seq ?_
  refine XK.if rfl (fun c0 => ?_) (fun c0 => ?_)
  · have _t0 := True.intro
    have ji := map_snd_atP l i
    have sk : skipK (⟨(l.map Prod.snd), rs, m⟩ : PTask) w i = (decide (w.getD i default < 0) || decide ((l.getD i default).2.group = 0)) := by rw [skipK]; dsimp only; rw [ji]
    refine XK.skip ?_
    refine XK.seq ?_
    refine XK.block ?_
    refine XK.seq ?_
    refine XK.region rfl ?_
    refine XO.q (Q.move rfl) ?_
    refine XO.ix rfl rfl (by omega) (by omega) fun i15 => ?_
    refine XO.q (Q.ldE rfl (by first | assumption | omega) rfl) ?_
    refine XO.q (Q.assign rfl) ?_
    refine XO.q (Q.assign rfl) ?_
    refine XO.done ?_
    refine XK.seq ?_
    refine XK.seq ?_
    refine XK.region rfl ?_
    refine XO.q (Q.move rfl) ?_
    refine XO.q (Q.lss rfl rfl) ?_
    refine XO.q (Q.move rfl) ?_
    refine XO.q (Quiet.guardF rfl rfl fun g20 p20 => Q.fieldAddr rfl) ?_
    refine XO.q (Quiet.guardF rfl rfl fun g21 p21 => Q.ld (lzv g21 rfl) rfl) ?_
    refine XO.q (Quiet.guardF rfl rfl fun g22 p22 => Q.move rfl) ?_
    refine XO.q (Quiet.guardF rfl rfl fun g23 p23 => Q.ix (lzv g23 rfl) (lzv g23 rfl) (by omega) (by omega)) ?_
    refine XO.q (Quiet.guardF rfl rfl fun g24 p24 => Q.fieldQ (lzv g24 rfl) (by first | assumption | omega)) ?_
    refine XO.q (Quiet.guardF rfl rfl fun g25 p25 => Q.ldE (lzv g25 rfl) (by first | assumption | omega) rfl) ?_
    refine XO.q (Quiet.guardF rfl rfl fun g26 p26 => Q.eql (lzv g26 rfl) rfl) ?_
    refine XO.q (Q.or rfl (fun hp => lzv hp rfl)) ?_
    refine XO.done ?_
    refine XK.if rfl (fun c1 => ?_) (fun c1 => ?_)
    · have _t1 := True.intro
      have sk1 : skipK (⟨(l.map Prod.snd), rs, m⟩ : PTask) w i = true := by rw [sk, Bool.or_eq_true, decide_eq_true_eq, decide_eq_true_eq]; exact c1
      refine XK.exit rfl ?_
      refine XK.region rfl ?_
      refine XO.q (Q.add rfl rfl ⟨by omega, by omega⟩) ?_
      refine XO.q (Q.move rfl) ?_
      refine XO.done ?_
      have e2 : (keysTo (⟨(l.map Prod.snd), rs, m⟩ : PTask) w (i + 1)) = (keysTo (⟨(l.map Prod.snd), rs, m⟩ : PTask) w i) := by rw [keysTo, if_pos sk1, List.append_nil]
      rw [← e2]
      exact ih0 (i + 1) _ _ ⟨by omega, by rw [apartTo, ha, sk1]; rfl⟩ (by first | omega | (dsimp only; omega)) (.c rfl (.base 59 rfl rfl)) inferInstance
    · have _t1 := True.intro
      have sk0 : skipK (⟨(l.map Prod.snd), rs, m⟩ : PTask) w i = false := by rw [sk, Bool.or_eq_false_iff, decide_eq_false_iff_not, decide_eq_false_iff_not]; exact ⟨fun h => c1 (.inl h), fun h => c1 (.inr h)⟩
      rw [not_or] at c1
      have gr := getD_rackP wok (i := i) (by omega) c1.1
      dsimp only at gr
      have ek : (keyOf (⟨(l.map Prod.snd), rs, m⟩ : PTask) w i) = ((l.getD i default).2.group, (rs.getD (w.getD i default).toNat default).domain) := by rw [keyOf]; dsimp only; rw [ji]
      refine XK.skip ?_
      refine XK.seq ?_
      refine XK.drawn [0, 1, 2, 3, 4, 5, 6, 7, 8, 9, 10, 11, 12] [b2] [] (.q 0 (.q 1 (.q 2 (.q 3 (.q 4 (.q 5 (.q 6 (.q 7 (.q 8 (.q 9 (.q 10 (.q 11 (.q 12 (.br 13 true (.br 14 false .done .stop) .stop)))))))))))))) Try.mixed rfl (by kernel_rfl) ?_
      refine XT.q rfl rfl (Q.fieldAddr rfl) ?_
      refine XT.q rfl rfl (Q.ld rfl rfl) ?_
      refine XT.q rfl rfl (Q.move rfl) ?_
      refine XT.ix rfl rfl rfl rfl (by omega) (by omega) fun i31 => ?_
      refine XT.q rfl rfl (Q.fieldQ rfl (by first | assumption | omega)) ?_
      refine XT.q rfl rfl (Q.ldE rfl (by first | assumption | omega) rfl) ?_
      refine XT.q rfl rfl (Q.fieldAddr rfl) ?_
      refine XT.q rfl rfl (Q.ld rfl rfl) ?_
      refine XT.q rfl rfl (Q.move rfl) ?_
      refine XT.ix rfl rfl rfl rfl (by omega) (by omega) fun i37 => ?_
      refine XT.q rfl rfl (Q.fieldQ rfl (by first | assumption | omega)) ?_
      refine XT.q rfl rfl (Q.ldE rfl (by first | assumption | omega) rfl) ?_
      refine XT.q rfl rfl (Q.build [_, _] (.c 0 1 rfl rfl rfl (.c 1 1 rfl rfl rfl (.n _)))) ?_
      refine XT.alloc rfl rfl (fun b8 => ⟨inferInstance, ?_⟩) XT.stop
      refine XT.st rfl rfl rfl rfl rfl ⟨inferInstance, ?_⟩ XT.stop
      refine XT.done ?_
      refine XK.seq ?_
      refine XK.seq ?_
      refine XK.region rfl ?_
      refine XO.q (Q.move rfl) ?_
      refine XO.q (Q.ldA [_, _] rfl rfl rfl) ?_
      refine XO.q (Q.lookup (enc := encK2) _ Try.zeroValue4 (((l.getD i default).2.group, (rs.getD (w.getD i default).toNat default).domain)) rfl rfl) ?_
      rw [← ek, get_seenK]
      refine XO.done ?_
      refine XK.if rfl (fun c2 => ?_) (fun c2 => ?_)
      · have _t2 := True.intro
        refine XK.seq ?_
        refine XK.region rfl ?_
        refine XO.q (Q.assign rfl) ?_
        refine XO.done ?_
        refine XK.rt [] Try.func66 Try.results66 (.t rfl .n) ?_
        exact ⟨by rw [apartG, apartTo_false (n := i + 1) (by rw [apartTo, sk0, c2, ha]; rfl) _ (by omega)], rfl⟩
      · have _t2 := True.intro
        have c2 := Bool.eq_false_iff.2 c2
        refine XK.skip ?_
        refine XK.region rfl ?_
        refine XO.q (Q.move rfl) ?_
        refine XO.q (Q.ldA [_, _] rfl rfl rfl) ?_
        refine XO.mapUpdate (enc := encK2) (((l.getD i default).2.group, (rs.getD (w.getD i default).toNat default).domain)) rfl rfl rfl ?_
        rw [← ek, put_seenK c2]
        refine XO.done ?_
        refine XK.inBlock ?_
        refine XK.region rfl ?_
        refine XO.q (Q.add rfl rfl ⟨by omega, by omega⟩) ?_
        refine XO.q (Q.move rfl) ?_
        refine XO.done ?_
        have e2 : (keysTo (⟨(l.map Prod.snd), rs, m⟩ : PTask) w (i + 1)) = (keysTo (⟨(l.map Prod.snd), rs, m⟩ : PTask) w i) ++ [(keyOf (⟨(l.map Prod.snd), rs, m⟩ : PTask) w i)] := by rw [keysTo, if_neg (by rw [sk0]; decide)]
        rw [← e2]
        exact ih0 (i + 1) _ _ ⟨by omega, by rw [apartTo, ha, c2]; simp⟩ (by first | omega | (dsimp only; omega)) (.c rfl (.base 78 rfl rfl)) inferInstance
  · have _t0 := True.intro
    have hin : i = w.length := by omega
    subst hin
    refine XK.exit rfl ?_
    refine XK.seq ?_
    refine XK.region rfl ?_
    refine XO.q (Q.assign rfl) ?_
    refine XO.done ?_
    refine XK.rt [] Try.func66 Try.results66 (.t rfl .n) ?_
    exact ⟨by rw [apartG, ha], rfl⟩
end Go.X

set_option linter.unusedSimpArgs false
set_option linter.unusedVariables false
set_option maxRecDepth 20000
namespace Go.X
open Go.Proofs
theorem allowed_spec (l : List (Value × PJob)) (vl : Value) (hl K : PHeap) [jl : Arr vl encPJ 6 hl l] (aL : JobsK l K) (rs : List PRack) (vr : Value) (hr : PHeap) [jr : Arr vr encRack 5 hr rs] (m : PRat) (w : List Int) (vw : Value) (hw : PHeap) [jw : Arr vw encI 1 hw w] (ok : TaskOk (⟨(l.map Prod.snd), rs, m⟩ : PTask)) (wok : WOk (⟨(l.map Prod.snd), rs, m⟩ : PTask) w) (lok : ∀ r, r < rs.length → ListOk (inL (⟨(l.map Prod.snd), rs, m⟩ : PTask) w r)) : Spec Try.prog 40 #[.agg #[vl, vr, .int .i64 m.n, .int .i64 m.d], vw] [] [hl, K, hr, hw] (fun v hs => v = .bool (allowedB (⟨(l.map Prod.snd), rs, m⟩ : PTask) w) ∧ hs = []) := by
  have ll := jl.le
  have lm : (l.map Prod.snd).length = l.length := List.length_map ..
  have few := ok.few
  have few2 : l.length ≤ 8 := by rw [← lm]; exact few
  have hwl : w.length ≤ l.length := by have := wok.len; dsimp only at this; omega
  refine Spec.intro (fn := Try.f40) (N := 38) Try.func40 rfl Try.ntmps40 rfl fun B => ?_
  refine XK.seq ?_
  refine XK.region rfl ?_
  refine XO.box rfl fun b2 => ?_
  refine XO.q (Q.assign rfl) ?_
  refine XO.done ?_
  refine XK.seq ?_
  refine XK.seq ?_
  refine XK.region rfl ?_
  refine XO.q (Q.fieldAddr rfl) ?_
  refine XO.q (Q.ld rfl rfl) ?_
  refine XO.len rfl fun l12 => ?_
  refine XO.q (Q.move rfl) ?_
  refine XO.done ?_
  refine XK.block ?_
  refine XK.while (X := Nat) [4, 5, 6, 7, 8, 9, 13, 14, 15, 16, 17, 18, 19, 20, 21, 22, 23, 24, 25, 26, 27, 28, 29, 30, 31, 32, 33, 34] (fun r => [(13, some (.int .i64 (r : Nat)))]) (fun r => []) (fun r => r ≤ rs.length ∧ (fitTo (⟨(l.map Prod.snd), rs, m⟩ : PTask) w r) = true) (fun r => rs.length - r) (0) [] rfl ⟨by omega, rfl⟩ (.c rfl (.base 0 rfl rfl)) ?_
  rintro r ⟨hr_, ft⟩ ih0
  dsimp only [List.cons_append, List.nil_append] at ih0 ⊢
  refine XK.seq ?_
  refine XK.region rfl ?_
  refine XO.q (Q.lss rfl rfl) ?_
  refine XO.done ?_
  refine XK.seq ?_
  refine XK.if rfl (fun c0 => ?_) (fun c0 => ?_)
  · have _t0 := True.intro
    refine XK.skip ?_
    refine XK.seq ?_
    refine XK.block ?_
    refine XK.seq ?_
    refine XK.region rfl ?_
    refine XO.q (Q.move rfl) ?_
    refine XO.ix rfl rfl (by omega) (by omega) fun i16 => ?_
    refine XO.q (Q.ldEA [_, _, _, _, _] rfl (by first | assumption | omega) rfl rfl) ?_
    refine XO.alloc fun b6 => ?_
    refine XO.q (Q.assign rfl) ?_
    refine XO.st rfl rfl rfl ?_
    refine XO.done ?_
    refine XK.seq ?_
    refine XK.region rfl ?_
    refine XO.q (Q.ldA [_, _, _, _] rfl rfl rfl) ?_
    refine XO.q (Q.move rfl) ?_
    refine XO.q (Q.move rfl) ?_
    refine XO.call Try.call42 rfl rfl rfl (in_spec l vl hl K aL rs vr hr m w vw hw (r : Nat) (by omega) (by omega)) fun v21 s21 R21 => ?_
    obtain ⟨k21, rfl, O21⟩ := R21
    dsimp only [List.cons_append, List.nil_append]
    refine XO.q (Q.assign rfl) ?_
    refine XO.done ?_
    refine XK.seq ?_
    refine XK.region rfl ?_
    refine XO.q (Q.move rfl) ?_
    refine XO.call Try.call25 rfl rfl rfl (listed_spec (inTo l w (r : Nat) w.length) v21 k21 K (aL.inTo (by omega))) fun v24 s24 R24 => ?_
    obtain ⟨rfl, rfl⟩ := R24
    dsimp only [List.cons_append, List.nil_append]
    have lr := listed_rng (lok r (by omega))
    have em : ((inTo l w (r : Nat) w.length).map Prod.snd) = inL (⟨(l.map Prod.snd), rs, m⟩ : PTask) w r := in_mem _
    refine XO.q (Q.move rfl) ?_
    refine XO.q (Q.extract rfl rfl) ?_
    refine XO.q (Q.extract rfl rfl) ?_
    refine XO.q (Q.assign rfl) ?_
    refine XO.q (Q.assign rfl) ?_
    refine XO.done ?_
    refine XK.seq ?_
    refine XK.region rfl ?_
    refine XO.q (Q.move rfl) ?_
    refine XO.q (Q.ldA [_, _, _, _, _] rfl rfl rfl) ?_
    refine XO.q (Q.fieldAddr rfl) ?_
    refine XO.q (Q.ldA [_, _] rfl rfl rfl) ?_
    refine XO.q (Q.move rfl) ?_
    refine XO.call Try.call65 rfl rfl rfl (fits_spec (inTo l w (r : Nat) w.length) v21 k21 K (aL.inTo (by omega)) (by rw [em]; exact lok r (by omega)) (rs.getD r default) m ok.most (listedG ((inTo l w (r : Nat) w.length).map Prod.snd)).1 (by rw [em, lr.1])) fun v32 s32 R32 => ?_
    obtain ⟨rfl, rfl⟩ := R32
    dsimp only [List.cons_append, List.nil_append]
    rw [show fitsG ((inTo l w (r : Nat) w.length).map Prod.snd) (rs.getD r default) m = fitAt (⟨(l.map Prod.snd), rs, m⟩ : PTask) w r by rw [em]; rfl]
    refine XO.q (Q.not rfl) ?_
    refine XO.done ?_
    refine XK.if rfl (fun c1 => ?_) (fun c1 => ?_)
    · have _t1 := True.intro
      refine XK.seq ?_
      refine XK.region rfl ?_
      refine XO.q (Q.assign rfl) ?_
      refine XO.done ?_
      refine XK.rt [] Try.func40 Try.results40 (.t rfl .n) ?_
      exact ⟨by rw [allowedB, fitTo_false (n := r + 1) (by rw [fitTo, ft, Bool.eq_false_iff.2 c1]; rfl) _ (by dsimp only; omega)]; rfl, rfl⟩
    · have _t1 := True.intro
      refine XK.skip ?_
      refine XK.inBlock ?_
      refine XK.region rfl ?_
      refine XO.q (Q.add rfl rfl ⟨by omega, by omega⟩) ?_
      refine XO.q (Q.move rfl) ?_
      refine XO.done ?_
      exact ih0 (r + 1) _ _ ⟨by omega, by rw [fitTo, ft, Decidable.of_not_not c1]; rfl⟩ (by first | omega | (dsimp only; omega)) (.c rfl (.base 56 rfl rfl)) inferInstance
  · have _t0 := True.intro
    have hrl : r = rs.length := by omega
    subst hrl
    refine XK.exit rfl ?_
    refine XK.seq ?_
    refine XK.region rfl ?_
    refine XO.q (Q.ldA [_, _, _, _] rfl rfl rfl) ?_
    refine XO.q (Q.move rfl) ?_
    refine XO.call Try.call66 rfl rfl rfl (apart_spec l vl hl K aL rs vr hr m w vw hw ok wok) fun v37 s37 R37 => ?_
    obtain ⟨rfl, rfl⟩ := R37
    dsimp only [List.cons_append, List.nil_append]
    refine XO.q (Q.assign rfl) ?_
    refine XO.done ?_
    refine XK.rt [] Try.func40 Try.results40 (.t rfl .n) ?_
    exact ⟨by rw [allowedB]; dsimp only; rw [ft]; rfl, rfl⟩
theorem Allowed_spec (l : List (Value × PJob)) (vl : Value) (hl K : PHeap) [jl : Arr vl encPJ 6 hl l] (aL : JobsK l K) (rs : List PRack) (vr : Value) (hr : PHeap) [jr : Arr vr encRack 5 hr rs] (m : PRat) (w : List Int) (vw : Value) (hw : PHeap) [jw : Arr vw encI 1 hw w] : Spec Try.prog 15 #[.agg #[vl, vr, .int .i64 m.n, .int .i64 m.d], vw] [] [hl, K, hr, hw] (fun v hs => v = .tuple #[.bool (allowedG (⟨(l.map Prod.snd), rs, m⟩ : PTask) w).1, .int .i64 (allowedG (⟨(l.map Prod.snd), rs, m⟩ : PTask) w).2] ∧ hs = []) := by
  refine Spec.intro (fn := Try.f15) (N := 16) Try.func15 rfl Try.ntmps15 rfl fun B => ?_
  refine XK.seq ?_
  refine XK.region rfl ?_
  refine XO.box rfl fun b2 => ?_
  refine XO.q (Q.assign rfl) ?_
  refine XO.q (Q.assign rfl) ?_
  refine XO.done ?_
  refine XK.seq ?_
  refine XK.seq ?_
  refine XK.region rfl ?_
  refine XO.q (Q.ldA [_, _, _, _] rfl rfl rfl) ?_
  refine XO.q (Q.move rfl) ?_
  refine XO.call Try.call39 rfl rfl rfl (formed_spec l vl hl K aL rs vr hr m w vw hw) fun v9 s9 R9 => ?_
  obtain ⟨rfl, rfl⟩ := R9
  dsimp only [List.cons_append, List.nil_append]
  refine XO.q (Q.assign rfl) ?_
  refine XO.done ?_
  refine XK.seq ?_
  refine XK.region rfl ?_
  refine XO.q (Q.move rfl) ?_
  refine XO.q (Q.neq rfl rfl) ?_
  refine XO.done ?_
  refine XK.if rfl (fun c0 => ?_) (fun c0 => ?_)
  · have _t0 := True.intro
    refine XK.seq ?_
    refine XK.region rfl ?_
    refine XO.q (Q.move rfl) ?_
    refine XO.q (Q.assign rfl) ?_
    refine XO.q (Q.assign rfl) ?_
    refine XO.done ?_
    refine XK.rt [] Try.func15 Try.results15 (.t rfl (.t rfl .n)) ?_
    exact ⟨by rw [allowedG, if_pos c0], rfl⟩
  · have _t0 := True.intro
    have fk := formed_iff (Decidable.of_not_not c0)
    refine XK.skip ?_
    refine XK.seq ?_
    refine XK.region rfl ?_
    refine XO.q (Q.ldA [_, _, _, _] rfl rfl rfl) ?_
    refine XO.q (Q.move rfl) ?_
    refine XO.call Try.call40 rfl rfl rfl (allowed_spec l vl hl K aL rs vr hr m w vw hw fk.1 fk.2.1 fk.2.2.2) fun v15 s15 R15 => ?_
    obtain ⟨rfl, rfl⟩ := R15
    dsimp only [List.cons_append, List.nil_append]
    refine XO.q (Q.assign rfl) ?_
    refine XO.q (Q.assign rfl) ?_
    refine XO.done ?_
    refine XK.rt [] Try.func15 Try.results15 (.t rfl (.t rfl .n)) ?_
    exact ⟨by rw [allowedG, if_neg c0], rfl⟩
theorem prodJ_take {l : List PJob} {n : Nat} : ∀ {i : Nat}, i ≤ n → prodJ (l.take n) i = prodJ l i
  | 0, _ => rfl
  | i + 1, h => by
    rw [prodJ, prodJ, prodJ_take (by omega), List.getD_eq_getElem?_getD, List.getElem?_take, if_pos (by omega), List.getD_eq_getElem?_getD]
theorem ListOk.take {l : List PJob} (ok : ListOk l) (n : Nat) : ListOk (l.take n) := by
  have hl : (l.take n).length ≤ n := by rw [List.length_take]; omega
  have hl2 : (l.take n).length ≤ l.length := by rw [List.length_take]; omega
  refine ⟨Nat.le_trans hl2 ok.few, fun i hi => ?_, fun i hi => ?_⟩
  · rw [List.getD_eq_getElem?_getD, List.getElem?_take, if_pos (by omega), ← List.getD_eq_getElem?_getD]; exact ok.job i (by omega)
  · rw [prodJ_take (by omega)]; exact ok.prod i (by omega)
theorem JobsK.cut {l : List (Value × PJob)} {K : PHeap} (aL : JobsK l K) {n : Nat} (hn : n < l.length) : JobsK ((l.drop 0).take ((n + 1) - 0)) K := fun i hi => by
  have hl : ((l.drop 0).take ((n + 1) - 0)).length = n + 1 := by rw [List.drop_zero, Nat.sub_zero, List.length_take]; omega
  have e : (((l.drop 0).take ((n + 1) - 0))).getD i default = l.getD i default := by
    rw [List.drop_zero, Nat.sub_zero, List.getD_eq_getElem?_getD, List.getElem?_take, if_pos (by omega), ← List.getD_eq_getElem?_getD]
  rw [e]; exact aL i (by omega)
end Go.X
