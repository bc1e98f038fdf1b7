/- A part of the proof: a small program logic, plain laws and contracts of functions, each proved by a walk through its operations. No condition but those that stand in each theorem. -/
import Derived.Test.YtocdijoiaongbaaA2
import Derived.KernelRfl
import Derived.Lib.AppendZeros
import Derived.Shelf.Slices.In.SortNone
import Derived.Shelf.Sort.Plain
import Derived.Test.YtocdijoiaongbaaProg
/- Iterators that give what they yield, with a state that is shared with the rounds; loops over them. No condition. -/
set_option linter.unusedSimpArgs false
set_option linter.unusedVariables false
namespace Go.X
theorem VSpec.joinG {P : Program} {y : Value} {vs : List Value} {Hm Ht Hr : List PHeap} {R : Value → List PHeap → Prop} (h : VSpec P y vs (Hm ++ Ht) Hr R) (hp : PD Hm) {R' : Value → List PHeap → PHeap → Prop} (hR : ∀ v hs, R v hs → ∃ a s, hs = a ++ [s] ∧ R' v a s) :
    VSpec P y vs (join Hm :: Ht) Hr (fun v hs => ∃ a s, PD a ∧ hs = [join a, s] ∧ R' v a s) := fun o r w hs hr =>
  (h o r w (by have := Sep.split hp (o := Ht ++ o) hs; rwa [← List.append_assoc] at this) hr).mono fun v _ ⟨hs', hR0, hS⟩ => by
    obtain ⟨a, s, rfl, h2⟩ := hR v hs' hR0
    rw [List.append_assoc] at hS
    exact ⟨[join a, s], ⟨a, s, ⟨hS.left.pw, hS.left.no⟩, rfl, h2⟩, hS.join⟩
/-- It yields n times; each value is given away with its heap; St: what is shared with the rounds. -/
def ItG (P : Program) (y : Value) (n : Nat) (Y : Nat → PHeap → List Value → Prop) (St : PHeap → Prop) (Hg : List PHeap) : Prop :=
  ∀ (f : Value) (Hr : List PHeap) (Q : Nat → PHeap → Prop) (X : PHeap → Prop),
    (∀ i, i < n → ∀ g vs q s, Y i g vs → Q i q → St s → VSpec P f vs [q, s, g] Hr (fun v hs => ∃ b q' s', v = .bool b ∧ hs = [q', s'] ∧ St s' ∧ (b = true → Q (i + 1) q') ∧ (b = false → X q'))) →
    ∀ q s, Q 0 q → St s → VSpec P y [f] [q, s] (Hg ++ Hr) (fun _ hs => ∃ q' s', hs = [q', s'] ∧ St s' ∧ (Q n q' ∨ X q'))
def RoundG {X : Type} (oc : X → List PHeap) (St : PHeap → Prop) (I : X → Prop) (J : Code → X → Prop) : Option Code → List PHeap → Prop
  | none, hs => ∃ x s, I x ∧ St s ∧ hs = oc x ++ [s]
  | some j, hs => ∃ x s, J j x ∧ St s ∧ hs = oc x ++ [s]
theorem XK.rangeG {P : Program} {f : FuncId} {N : Nat} {B : PHeap} {E : Frame → World → Prop} {X : Type} {k : List Item} {e : Env} {o o1 ok r : List PHeap} {x : Operand} {y : Value} {ps : List Tmp} {asn bd : Code} {Hg : List PHeap} {n : Nat} {Y : Nat → PHeap → List Value → Prop} {St : PHeap → Prop}
    (oc : X → List PHeap) (I : Nat → X → Prop) (J : Code → X → Prop) (x0 : X) (o0 : List PHeap) (s0 : PHeap) (hx : ev e x = some y) (hit : ItG P y n Y St Hg)
    [rst : Rest o0 o o1] [tk : Take s0 o1 ok] (ho0 : oc x0 = o0) (h0 : I 0 x0) (hs0 : St s0)
    [al : AllIn Hg ok (B :: r)] (hps : ps.all (fun p => Nat.blt p N) = true) (hlen : ∀ i g vs, Y i g vs → vs.length = ps.length)
    (round : ∀ l rec B' i x s g vs, i < n → Y i g vs → I i x → St s → XK (rcx P f N l rec B' (RoundG oc St (I (i + 1)) J)) [.code asn, .beginRound, .code bd] (pars ps vs e) (rdy l rec :: (oc x ++ [s, g])) (ok ++ r))
    (cont : ∀ x s, I n x → St s → XK ⟨P, f, none, N, B, E⟩ k e (oc x ++ s :: ok) r)
    (jump : ∀ j x s, J j x → St s → XK ⟨P, f, none, N, B, E⟩ (.code j :: k) e (oc x ++ s :: ok) r) :
    XK ⟨P, f, none, N, B, E⟩ (.code (.rangeFunc x ps.toArray asn bd) :: k) e o r := fun D ds a w cs ha he hD hm => by
  have hm0 : Sep (D :: (o0 ++ o1)) (B :: r) w := rst.wk.sepD hm
  have hm1 : Sep (D :: (o0 ++ ([s0] ++ ok))) (B :: r) w := hm0.perm ((tk.pf.append_left o0).cons D)
  let rec' : Loop := { state := .ready, pending := none, fn := f, tmps := a, params := ps.toArray, assign := asn, body := bd, defers := w.heap.size }
  let l := w.heap.size + 1
  let w1 := (w.alloc (.deferred (some []))).alloc (.loop rec')
  have henter : (Instr.enterLoop f a ps.toArray asn bd none).run P w = .ok (l, [{ target := .collected w.heap.size, args := #[] }]) w1 := run_enterLoop_outer f a ps.toArray asn bd
  have hs1 : Sep (rdy l rec' :: sing w.heap.size (.deferred (some [])) :: D :: (o0 ++ ([s0] ++ ok))) (B :: r) w1 := by
    have := (hm1.push (.deferred (some []))).push (.loop rec')
    simp only [Array.size_push] at this
    exact this
  let D' := Go.X.join [sing w.heap.size (.deferred (some [])), D]
  have hs2 : Sep (D' :: rdy l rec' :: (o0 ++ ([s0] ++ ok))) (B :: r) w1 := by
    refine Sep.join (hs := [sing w.heap.size (.deferred (some [])), D]) (hs1.perm ?_)
    exact (List.Perm.swap _ _ _).trans ((List.Perm.swap _ _ _).cons _)
  have hD' : Marked D' (w.heap.size :: ds) := by
    refine ⟨List.nodup_cons.2 ⟨fun hmem => ?_, hD.1⟩, fun b => ?_⟩
    · have := sub_lt (hm.so D List.mem_cons_self) (b := w.heap.size) (o := .deferred (some [])) (by rw [hD.2, if_pos hmem])
      omega
    · simp only [D', Go.X.join, sing, emp, Option.or_none, hD.2 b, List.mem_cons]
      by_cases hb : b = w.heap.size
      · simp [hb]
      · simp [hb]
  have hs3 : Sep ((Go.X.join (rdy l rec' :: o0) :: [s0]) ++ (D' :: ok)) (B :: r) w1 := by
    refine (Sep.join (hs := rdy l rec' :: o0) (o := D' :: ([s0] ++ ok)) (hs2.perm ?_)).perm ?_
    · show (D' :: ((rdy l rec' :: o0) ++ ([s0] ++ ok))).Perm ((rdy l rec' :: o0) ++ D' :: ([s0] ++ ok))
      exact List.perm_middle.symm
    · show (_ :: D' :: ([s0] ++ ok)).Perm (_ :: ([s0] ++ D' :: ok))
      exact List.perm_middle.symm.cons _
  have hp0 : PD (rdy l rec' :: oc x0) := by
    rw [ho0]
    have hsub : (rdy l rec' :: o0).Sublist (rdy l rec' :: (o0 ++ ([s0] ++ ok))) := List.Sublist.cons_cons _ (List.sublist_append_left _ _)
    exact ⟨hs2.tail.pw.sublist hsub, fun h hh => hs2.tail.no h (hsub.mem hh)⟩
  have hpsN : ∀ p ∈ ps, p < N := fun p hp => by
    have := List.all_eq_true.1 hps p hp
    rwa [Nat.blt_eq] at this
  have hyield : ∀ i, i < n → ∀ g vs q s, Y i g vs → (∃ x, I i x ∧ PD (rdy l rec' :: oc x) ∧ q = Go.X.join (rdy l rec' :: oc x)) → St s →
      VSpec P (.func (.yield l) #[] #[]) vs [q, s, g] (ok ++ r) (fun v hs => ∃ b q' s', v = .bool b ∧ hs = [q', s'] ∧ St s' ∧
        (b = true → ∃ x, I (i + 1) x ∧ PD (rdy l rec' :: oc x) ∧ q' = Go.X.join (rdy l rec' :: oc x)) ∧
        (b = false → ∃ j x, J j x ∧ PD (ovr l rec' (some j) :: oc x) ∧ q' = Go.X.join (ovr l rec' (some j) :: oc x))) := by
    rintro i hi g vs q s hY ⟨x, hI, hp, rfl⟩ hSt
    refine (VSpec.joinG (Hm := rdy l rec' :: oc x) (Ht := [s, g]) (VSpec.round (rec := rec') (N := N) (e := e) rfl ha he hpsN (hlen i g vs hY) (fun B' => round l rec' B' i x s g vs hi hY hI hSt)) hp
      (R' := fun v a s => ∃ j x, v = .bool (Option.isNone j) ∧ a = ovr l rec' j :: oc x ∧ St s ∧ (match j with | none => I (i + 1) x | some j => J j x)) ?_).mono ?_
    · rintro v hs ⟨j, hs', rfl, rfl, hR⟩
      cases j with
      | none =>
        obtain ⟨x', s', h1, h2, rfl⟩ := hR
        exact ⟨_, s', rfl, none, x', rfl, rfl, h2, h1⟩
      | some j =>
        obtain ⟨x', s', h1, h2, rfl⟩ := hR
        exact ⟨_, s', rfl, some j, x', rfl, rfl, h2, h1⟩
    · rintro v hs ⟨a, s', hpd, rfl, j, x', rfl, rfl, h2, h1⟩
      refine ⟨_, _, s', rfl, rfl, h2, ?_, ?_⟩
      · intro hj
        cases j with
        | some j => cases hj
        | none => exact ⟨x', h1, hpd, rfl⟩
      · intro hj
        cases j with
        | none => cases hj
        | some j => exact ⟨j, x', h1, hpd, rfl⟩
  have hN := hit _ (ok ++ r) (fun i q => ∃ x, I i x ∧ PD (rdy l rec' :: oc x) ∧ q = Go.X.join (rdy l rec' :: oc x)) _ hyield (Go.X.join (rdy l rec' :: o0)) s0 ⟨x0, h0, hp0, by rw [ho0]⟩ hs0 (D' :: ok) (B :: r) w1 hs3 (fun h hh => by
    rcases List.mem_append.1 hh with hh | hh
    · exact orMap (al.pf h hh) (List.mem_cons_of_mem _) id
    · rcases List.mem_append.1 hh with hh | hh
      · exact .inl (List.mem_cons_of_mem _ hh)
      · exact .inr (List.mem_cons_of_mem _ hh))
  obtain ⟨v, w', ⟨hs', ⟨q', s', rfl, hSt', hq⟩, hS⟩, st⟩ := step_range (ds := marks ds) (k := k) (cs := cs) henter (ev_rel he hx) hN
  have hperm : ∀ g : List PHeap, (g ++ ([s'] ++ (D' :: ok))).Perm (D' :: (g ++ s' :: ok)) := fun g => by
    refine ((List.Perm.swap D' s' ok).append_left g).trans ?_
    exact List.perm_middle
  rcases hq with ⟨x', hI, hpw, rfl⟩ | ⟨j, x', hJ, hpw, rfl⟩
  · obtain ⟨hS2, hb⟩ := Sep.turn (y := .loop { rec' with state := .exhausted, pending := none }) (Sep.split hpw hS)
    obtain ⟨fr, w2, hE, st2⟩ := cont x' s' hI hSt' D' (w.heap.size :: ds) a _ cs ha he hD' (hS2.tail.perm (hperm _))
    exact ⟨fr, w2, hE, Steps.trans st (.head (step_endRange (run_endLoop hb (by simp))) st2)⟩
  · obtain ⟨hS2, hb⟩ := Sep.turn (y := .loop { rec' with state := .exhausted, pending := some j }) (Sep.split hpw hS)
    obtain ⟨fr, w2, hE, st2⟩ := jump j x' s' hJ hSt' D' (w.heap.size :: ds) a _ cs ha he hD' (hS2.tail.perm (hperm _))
    exact ⟨fr, w2, hE, Steps.trans st (.head (step_endRange (run_endLoop hb (by simp))) st2)⟩
end Go.X

/- How long proofs are. No condition. -/
set_option linter.unusedVariables false
namespace Go.X
theorem psons_few {t : PTask} (ok : TaskOk t) (w : List Int) : (psons t w).length ≤ 6 := by
  have := psonsTo_len t w t.racks.length
  have := ok.rk5
  rw [psons_len]; omega
theorem cut_leaf {t : PTask} {b : Int} {w : List Int} (k : belowG t b w) (h : w.length = t.jobs.length) : hopeG t w ≤ b := by
  unfold belowG at k
  rw [h, Nat.sub_self] at k
  rw [hope_leaf h]; exact k
theorem prove_case {t : PTask} {b : Int} {w : List Int} (hw : w.length ≤ t.jobs.length) (k : belowG t b w) (p : List Bool) : proveG t b w p = if hopeG t w ≤ b then p ++ [true] else foldTo (fun p son => proveG t b son p) (psons t w) (p ++ [false]) (psons t w).length := by
  refine prove_eq ?_ p
  by_cases h : w.length = t.jobs.length
  · exact .inr (cut_leaf k h)
  · exact .inl (by omega)
theorem fold_len {t : PTask} {b : Int} {w : List Int} {c : Nat} (hc : 1 ≤ c) (h : ∀ i, i < (psons t w).length → ∀ p, (proveG t b ((psons t w).getD i default) p).length + 1 ≤ p.length + c) (p : List Bool) : ∀ n, n ≤ (psons t w).length → (foldTo (fun p son => proveG t b son p) (psons t w) p n).length ≤ p.length + n * (c - 1)
  | 0, _ => by rw [foldTo]; omega
  | n + 1, hn => by
    have ih := fold_len hc h p n (by omega)
    have := h n (by omega) (foldTo (fun p son => proveG t b son p) (psons t w) p n)
    rw [foldTo, Nat.succ_mul]; omega
theorem prove_len {t : PTask} (ok : TaskOk t) {b : Int} : ∀ m w p, w.length ≤ t.jobs.length → t.jobs.length - w.length ≤ m → belowG t b w → (proveG t b w p).length + 1 ≤ p.length + 2 * 6 ^ m
  | m, w, p, hw, hm, k => by
    rw [prove_case hw k]
    have h6 : 1 ≤ 6 ^ m := Nat.one_le_pow _ _ (by decide)
    by_cases h : hopeG t w ≤ b
    · rw [if_pos h, List.length_append]; simp; omega
    · rw [if_neg h]
      cases m with
      | zero => exact absurd (cut_leaf k (by omega)) h
      | succ m =>
        have h7 : 1 ≤ 6 ^ m := Nat.one_le_pow _ _ (by decide)
        have hl : ¬ w.length = t.jobs.length := fun e => h (cut_leaf k e)
        have f := fold_len (t := t) (b := b) (w := w) (c := 2 * 6 ^ m) (by omega) (fun i hi p => by
          obtain ⟨y, e, _⟩ := psons_get hi
          have kk := below_son (by omega) k hi
          exact prove_len ok m _ p (by rw [e, List.length_append]; simp; omega) (by rw [e, List.length_append]; simp; omega) kk) (p ++ [false]) _ (Nat.le_refl _)
        have s6 := psons_few ok w
        have mm : (psons t w).length * (2 * 6 ^ m - 1) ≤ 6 * (2 * 6 ^ m - 1) := Nat.mul_le_mul_right _ s6
        rw [List.length_append] at f
        simp only [List.length_cons, List.length_nil] at f
        rw [Nat.pow_succ]
        omega
theorem prove_room {t : PTask} (ok : TaskOk t) {b : Int} {m : Nat} {w : List Int} (hw : w.length < t.jobs.length) (hm : t.jobs.length - w.length ≤ m + 1) (k : belowG t b w) (p : List Bool) {i : Nat} (hi : i < (psons t w).length) : (foldTo (fun p son => proveG t b son p) (psons t w) (p ++ [false]) i).length + 2 * 6 ^ m ≤ p.length + 2 * 6 ^ (m + 1) := by
  have h7 : 1 ≤ 6 ^ m := Nat.one_le_pow _ _ (by decide)
  have f := fold_len (t := t) (b := b) (w := w) (c := 2 * 6 ^ m) (by omega) (fun i hi p => by
    obtain ⟨y, e, _⟩ := psons_get hi
    have kk := below_son hw k hi
    exact prove_len ok m _ p (by rw [e, List.length_append]; simp; omega) (by rw [e, List.length_append]; simp; omega) kk) (p ++ [false]) i (by omega)
  have s6 := psons_few ok w
  have mm : i * (2 * 6 ^ m - 1) ≤ 5 * (2 * 6 ^ m - 1) := Nat.mul_le_mul_right _ (by omega)
  rw [List.length_append] at f
  simp only [List.length_cons, List.length_nil] at f
  rw [Nat.pow_succ]
  omega
/-- What Best returns. -/
def bestP (t : PTask) : List Int × Int × List Bool := ((lookG t [] ([], -1)).1, (lookG t [] ([], -1)).2, proveG t (lookG t [] ([], -1)).2 [] [])
theorem wok_nil (t : PTask) : WOk t [] := ⟨Nat.zero_le _, fun i hi => absurd hi (Nat.not_lt_zero i)⟩
theorem ready_ok {t : PTask} (h : readyG t = 0) : TaskOk t ∧ ListOk t.jobs := by
  unfold readyG at h
  split at h
  · contradiction
  · rename_i h1
    exact ⟨pcheck_iff.1 (Decidable.of_not_not h1), listed_ok.1 h⟩
/-- What Verify returns. -/
def verifyP (t : PTask) (w : List Int) (W : Int) (P : List Bool) : Int :=
  if readyG t ≠ 0 then readyG t else if formedG t w ≠ 0 ∨ ¬ allowedB t w = true then 90
  else if worthG t w ≠ W ∨ ¬ (holdsG t P W [] 0).1 = true ∨ (holdsG t P W [] 0).2 ≠ P.length then 7 else 0
end Go.X

/- The library's sort of numbers, by the library's own contract. No condition. -/
set_option linter.unusedSimpArgs false
set_option linter.unusedVariables false
namespace Go.X
open Go.Proofs Go.Shelf Go.Sort
theorem Sep.swapG {h h' : PHeap} {o r : List PHeap} {w w' : World} (s : Sep (h :: o) r w) (d : ∀ x, h x = none → h' x = none) (hb : sub h' w') (hk : ∀ x ob, w.heap[x]? = some ob → h x = none → w'.heap[x]? = some ob) (hm : h'.m = none) (ht : mt w' = mt w) : Sep (h' :: o) r w' where
  pw := by
    obtain ⟨a, b⟩ := List.pairwise_cons.1 s.pw
    exact List.pairwise_cons.2 ⟨fun g hg x => orMap (a g hg x) (d x) id, b⟩
  dr := fun g hg q hq => by
    rcases List.mem_cons.1 hg with rfl | hg
    · exact fun x => orMap (s.dr h List.mem_cons_self q hq x) (d x) id
    · exact s.dr g (List.mem_cons_of_mem _ hg) q hq
  so := fun g hg => by
    rcases List.mem_cons.1 hg with rfl | hg
    · exact hb
    · intro x ob hx
      refine hk x ob (s.so g (List.mem_cons_of_mem _ hg) x ob hx) ?_
      rcases (List.pairwise_cons.1 s.pw).1 g hg x with h1 | h1
      · exact h1
      · rw [hx] at h1; cases h1
  sr := fun g hg x ob hx => by
    refine hk x ob (s.sr g hg x ob hx) ?_
    rcases s.dr h List.mem_cons_self g hg x with h1 | h1
    · exact h1
    · rw [hx] at h1; cases h1
  no := fun g hg => by
    rcases List.mem_cons.1 hg with rfl | hg
    · exact hm
    · exact s.no g (List.mem_cons_of_mem _ hg)
  sm := fun g hg m h => ht.trans (s.sm g hg m h)
theorem flat_encI (xs : List Int) : xs.flatMap encI = xs.map (Value.int .i64) := by
  induction xs with
  | nil => rfl
  | cons a l ih => rw [List.flatMap_cons, ih]; rfl
def sortL (xs : List Int) : List Int := xs.mergeSort fun x y => decide (x ≤ y)
theorem sort_specG {P : Program} {ρ : Ren} (L : Lays.n189 P ρ) (T : TypeId) (v : Value) (h : PHeap) (xs : List Int) [s : OArr v encI 1 T h xs] : Spec P (ρ.f 189) #[v] [h] [] (fun _ hs => ∃ h', hs = [h'] ∧ OArr v encI 1 T h' (sortL xs)) := fun o r w hs hr => by
  obtain ⟨henc, hm, ⟨rfl, rfl, rfl⟩ | ⟨b, c, cs, rfl, rfl, hle, hlen, ht⟩⟩ := s.pf
  · refine (Any.slices_Sort_int_none L none 0 w).mono fun e w' ⟨he, hw⟩ => ⟨_, [emp], he, ⟨emp, rfl, ?_⟩, by rw [hw]; exact hs⟩
    have : sortL [] = [] := by simp [sortL]
    rw [this]; exact s
  · have hh : w.heap[b]? = some (.cells cs.toArray T (0, 0)) := hs.so _ List.mem_cons_self b _ (sing_self _ _)
    have hlt : b < w.heap.size := (Array.getElem?_eq_some_iff.1 hh).1
    have lS : (sortL xs).length = xs.length := List.length_mergeSort _
    rw [Nat.mul_one] at hlen ht
    rw [flat_encI] at ht
    have hcs : ∀ j, (hj : j < xs.length) → cs[j]? = some (.int .i64 xs[j]) := fun j hj => by
      have e := congrArg (·[j]?) ht
      simp only [List.getElem?_take, if_pos hj, List.getElem?_map, List.getElem?_eq_getElem hj, Option.map_some] at e
      exact e
    have hH : Holds (Value.int .i64) w b 0 xs.toArray := fun j hj => by
      have hj : j < xs.length := hj
      rw [Nat.zero_add]
      refine ⟨?_, ?_⟩
      · rw [cell_of_heap hh (hcs j hj)]
        congr 2
        rw [getElem!_pos xs.toArray j hj]; rfl
      · simp [World.frozen?, hh]
    refine (Any.slices_Sort_int L b 0 c xs w hH hlt (by have := hm.1; omega)).mono fun e w' ⟨he, n, os, hw⟩ => ?_
    have hb' : w'.heap[b]? = some (.cells (putCells (Value.int .i64) 0 (sortL xs).toArray cs.toArray) T (0, 0)) := by
      rw [hw]
      show ((w.heap.modify b _) ++ os)[b]? = _
      rw [Array.getElem?_append_left (by simpa using hlt), Array.getElem?_modify, if_pos rfl, hh]; rfl
    have hk : ∀ x ob, w.heap[x]? = some ob → x ≠ b → w'.heap[x]? = some ob := fun x ob hx hne => by
      have hlx : x < w.heap.size := (Array.getElem?_eq_some_iff.1 hx).1
      rw [hw]
      show ((w.heap.modify b _) ++ os)[x]? = _
      rw [Array.getElem?_append_left (by simpa using hlx), Array.getElem?_modify, if_neg (fun h => hne h.symm), hx]
    have hcl : (putCells (Value.int .i64) 0 (sortL xs).toArray cs.toArray).toList.length = c := by
      rw [Array.length_toList, putCells, Array.size_mapIdx]; exact hlen
    refine ⟨_, [blk b (putCells (Value.int .i64) 0 (sortL xs).toArray cs.toArray).toList T], he, ⟨_, rfl, ⟨henc, ⟨by rw [lS]; exact hm.1, fun x hx => hm.2 x (List.mem_mergeSort.1 hx)⟩, .inr ⟨b, c, _, by rw [lS], rfl, by rw [lS]; exact hle, by rw [Nat.mul_one]; exact hcl, ?_⟩⟩⟩, ?_⟩
    · rw [Nat.mul_one, flat_encI]
      refine List.ext_getElem? fun j => ?_
      rw [List.getElem?_take, List.getElem?_map]
      by_cases hj : j < (sortL xs).length
      · rw [if_pos hj, List.getElem?_eq_getElem hj, Array.getElem?_toList, putCells, Array.getElem?_mapIdx, List.getElem?_toArray, hcs j (by omega), Option.map_some, Option.map_some, if_pos ⟨Nat.zero_le _, by simpa using hj⟩, Nat.sub_zero, getElem!_pos _ j hj]; rfl
      · rw [if_neg hj, List.getElem?_eq_none (by omega)]; rfl
    · refine hs.swapG (fun x hx => ?_) (fun x ob hx => ?_) (fun x ob h1 h2 => hk x ob h1 ?_) rfl (by rw [hw]; rfl)
      · unfold blk sing at *; dsimp only at hx ⊢; split at hx
        · cases hx
        · simp [*]
      · obtain ⟨rfl, rfl⟩ := sing_some hx
        rw [hb']
      · rintro rfl
        rw [blk, sing_self] at h2; cases h2
end Go.X

/- Iterators over what has no order: each of n things once; loops over them. No condition. -/
set_option linter.unusedSimpArgs false
set_option linter.unusedVariables false
namespace Go.X
/-- It yields n things, each once, in any order. -/
def ItM (P : Program) (y : Value) (n : Nat) (Y : Nat → List Value) (Hg : List PHeap) : Prop :=
  ∀ (f : Value) (Hr : List PHeap) (Q : List Nat → PHeap → Prop) (X : PHeap → Prop),
    (∀ seen i, i < n → ¬ i ∈ seen → ∀ q, Q seen q → VSpec P f (Y i) [q] Hr (fun v hs => ∃ b q', v = .bool b ∧ hs = [q'] ∧ (b = true → Q (seen ++ [i]) q') ∧ (b = false → X q'))) →
    ∀ q, Q [] q → VSpec P y [f] [q] (Hg ++ Hr) (fun _ hs => ∃ q', hs = [q'] ∧ ((∃ seen, seen.Nodup ∧ (∀ i, i ∈ seen ↔ i < n) ∧ Q seen q') ∨ X q'))
/-- A loop over a function in a frame that is no round. 'I i x': ahead of item i; 'J j x': a round has left the loop by the jump j. -/
theorem XK.rangeM {P : Program} {f : FuncId} {N : Nat} {B : PHeap} {E : Frame → World → Prop} {X : Type} {k : List Item} {e : Env} {o ok r : List PHeap} {x : Operand} {y : Value} {ps : List Tmp} {asn bd : Code} {Hg : List PHeap} {n : Nat} (Y : Nat → List Value)
    (oc : X → List PHeap) (I : List Nat → X → Prop) (J : Code → X → Prop) (x0 : X) (o0 : List PHeap) [rst : Rest o0 o ok] (ho0 : oc x0 = o0) (h0 : I [] x0) (hx : ev e x = some y)
    (hit : ItM P y n Y Hg) [al : AllIn Hg ok (B :: r)] (hps : ps.all (fun p => Nat.blt p N) = true) (hlen : ∀ i, i < n → (Y i).length = ps.length)
    (round : ∀ l rec B' seen i x, i < n → ¬ i ∈ seen → I seen x → XK (rcx P f N l rec B' (RoundR oc (I (seen ++ [i])) J)) [.code asn, .beginRound, .code bd] (pars ps (Y i) e) (rdy l rec :: oc x) (ok ++ r))
    (cont : ∀ x seen, seen.Nodup → (∀ i, i ∈ seen ↔ i < n) → I seen x → XK ⟨P, f, none, N, B, E⟩ k e (oc x ++ ok) r)
    (jump : ∀ j x, J j x → XK ⟨P, f, none, N, B, E⟩ (.code j :: k) e (oc x ++ ok) r) :
    XK ⟨P, f, none, N, B, E⟩ (.code (.rangeFunc x ps.toArray asn bd) :: k) e o r := fun D ds a w cs ha he hD hm => by
  have hm1 : Sep (D :: (o0 ++ ok)) (B :: r) w := rst.wk.sepD hm
  let rec' : Loop := { state := .ready, pending := none, fn := f, tmps := a, params := ps.toArray, assign := asn, body := bd, defers := w.heap.size }
  let l := w.heap.size + 1
  let w1 := (w.alloc (.deferred (some []))).alloc (.loop rec')
  have henter : (Instr.enterLoop f a ps.toArray asn bd none).run P w = .ok (l, [{ target := .collected w.heap.size, args := #[] }]) w1 := run_enterLoop_outer f a ps.toArray asn bd
  have hs1 : Sep (rdy l rec' :: sing w.heap.size (.deferred (some [])) :: D :: (o0 ++ ok)) (B :: r) w1 := by
    have := (hm1.push (.deferred (some []))).push (.loop rec')
    simp only [Array.size_push] at this
    exact this
  let D' := Go.X.join [sing w.heap.size (.deferred (some [])), D]
  have hs2 : Sep (D' :: rdy l rec' :: (o0 ++ ok)) (B :: r) w1 := by
    refine Sep.join (hs := [sing w.heap.size (.deferred (some [])), D]) (hs1.perm ?_)
    exact (List.Perm.swap _ _ _).trans ((List.Perm.swap _ _ _).cons _)
  have hD' : Marked D' (w.heap.size :: ds) := by
    refine ⟨List.nodup_cons.2 ⟨fun hmem => ?_, hD.1⟩, fun b => ?_⟩
    · have := sub_lt (hm.so D List.mem_cons_self) (b := w.heap.size) (o := .deferred (some [])) (by rw [hD.2, if_pos hmem])
      omega
    · simp only [D', Go.X.join, sing, emp, Option.or_none, hD.2 b, List.mem_cons]
      by_cases hb : b = w.heap.size
      · simp [hb]
      · simp [hb]
  have hs3 : Sep (Go.X.join (rdy l rec' :: o0) :: D' :: ok) (B :: r) w1 := Sep.join (hs := rdy l rec' :: o0) (hs2.perm (by
    simp only [List.cons_append]
    exact (List.Perm.swap _ _ _).trans (List.perm_middle.symm.cons _)))
  have hp0 : PD (rdy l rec' :: oc x0) := by
    rw [ho0]
    have hsub : (rdy l rec' :: o0).Sublist (rdy l rec' :: (o0 ++ ok)) := List.Sublist.cons_cons _ (List.sublist_append_left _ _)
    exact ⟨hs2.tail.pw.sublist hsub, fun h hh => hs2.tail.no h (hsub.mem hh)⟩
  have hpsN : ∀ p ∈ ps, p < N := fun p hp => by
    have := List.all_eq_true.1 hps p hp
    rwa [Nat.blt_eq] at this
  have hyield : ∀ seen i, i < n → ¬ i ∈ seen → ∀ q, (∃ x, I seen x ∧ PD (rdy l rec' :: oc x) ∧ q = Go.X.join (rdy l rec' :: oc x)) →
      VSpec P (.func (.yield l) #[] #[]) (Y i) [q] (ok ++ r) (fun v hs => ∃ b q', v = .bool b ∧ hs = [q'] ∧
        (b = true → ∃ x, I (seen ++ [i]) x ∧ PD (rdy l rec' :: oc x) ∧ q' = Go.X.join (rdy l rec' :: oc x)) ∧
        (b = false → ∃ j x, J j x ∧ PD (ovr l rec' (some j) :: oc x) ∧ q' = Go.X.join (ovr l rec' (some j) :: oc x))) := by
    rintro seen i hi hns q ⟨x, hI, hp, rfl⟩
    refine ((VSpec.round (rec := rec') (N := N) (e := e) rfl ha he hpsN (hlen i hi) (fun B' => round l rec' B' seen i x hi hns hI)).joined hp).mono ?_
    rintro v hs ⟨hs', ⟨j, hs'', rfl, rfl, hR⟩, hpw, rfl⟩
    refine ⟨_, _, rfl, rfl, ?_, ?_⟩
    · intro hj
      cases j with
      | some j => cases hj
      | none =>
        obtain ⟨x', h1, rfl⟩ := hR
        exact ⟨x', h1, hpw, rfl⟩
    · intro hj
      cases j with
      | none => cases hj
      | some j =>
        obtain ⟨x', h1, rfl⟩ := hR
        exact ⟨j, x', h1, hpw, rfl⟩
  have hN := hit _ (ok ++ r) _ _ hyield (Go.X.join (rdy l rec' :: o0)) ⟨x0, h0, hp0, by rw [ho0]⟩ (D' :: ok) (B :: r) w1 hs3 (fun h hh => by
    rcases List.mem_append.1 hh with hh | hh
    · exact orMap (al.pf h hh) (List.mem_cons_of_mem _) id
    · rcases List.mem_append.1 hh with hh | hh
      · exact .inl (List.mem_cons_of_mem _ hh)
      · exact .inr (List.mem_cons_of_mem _ hh))
  obtain ⟨v, w', ⟨hs', ⟨q', rfl, hq⟩, hS⟩, st⟩ := step_range (ds := marks ds) (k := k) (cs := cs) henter (ev_rel he hx) hN
  rcases hq with ⟨seen, hnd, hall, x', hI, hpw, rfl⟩ | ⟨j, x', hJ, hpw, rfl⟩
  · obtain ⟨hS2, hb⟩ := Sep.turn (y := .loop { rec' with state := .exhausted, pending := none }) (Sep.split hpw hS)
    obtain ⟨fr, w2, hE, st2⟩ := cont x' seen hnd hall hI D' (w.heap.size :: ds) a _ cs ha he hD' (hS2.tail.perm List.perm_middle)
    exact ⟨fr, w2, hE, Steps.trans st (.head (step_endRange (run_endLoop hb (by simp))) st2)⟩
  · obtain ⟨hS2, hb⟩ := Sep.turn (y := .loop { rec' with state := .exhausted, pending := some j }) (Sep.split hpw hS)
    obtain ⟨fr, w2, hE, st2⟩ := jump j x' hJ D' (w.heap.size :: ds) a _ cs ha he hD' (hS2.tail.perm List.perm_middle)
    exact ⟨fr, w2, hE, Steps.trans st (.head (step_endRange (run_endLoop hb (by simp))) st2)⟩
end Go.X

/- Sorted lists of sums. No condition. -/
set_option linter.unusedVariables false
namespace Go.X
def dd : List Int → List Int
  | [] => []
  | a :: l => if a ∈ dd l then dd l else a :: dd l
theorem dd_mem {a : Int} : ∀ {l : List Int}, a ∈ dd l ↔ a ∈ l
  | [] => Iff.rfl
  | b :: l => by
    rw [dd]
    split
    · rename_i h
      rw [dd_mem, List.mem_cons]
      exact ⟨.inr, fun h2 => h2.elim (fun e => e ▸ dd_mem.1 h) id⟩
    · rw [List.mem_cons, List.mem_cons, dd_mem]
theorem dd_nodup : ∀ l : List Int, (dd l).Nodup
  | [] => List.nodup_nil
  | b :: l => by
    rw [dd]
    split
    · exact dd_nodup l
    · exact List.nodup_cons.2 ⟨‹_›, dd_nodup l⟩
theorem sort_sorted (l : List Int) : (sortL l).Pairwise (fun a b => a ≤ b) := by
  have := List.pairwise_mergeSort (le := fun x y : Int => decide (x ≤ y)) (fun a b c h1 h2 => by simp only [decide_eq_true_eq] at *; omega) (fun a b => by simp only [Bool.or_eq_true, decide_eq_true_eq]; omega) l
  exact pairMap this fun h => by simpa using h
theorem sort_perm (l : List Int) : (sortL l).Perm l := List.mergeSort_perm l _
theorem sort_eq {a b : List Int} (p : a.Perm b) : sortL a = sortL b :=
  List.Perm.eq_of_pairwise (fun x y _ _ h1 h2 => Int.le_antisymm h1 h2) (sort_sorted a) (sort_sorted b) (((sort_perm a).trans p).trans (sort_perm b).symm)
/-- The sums that occur, in order, each with how often. -/
def sumsL (L : List Int) : List PDraw := (sortL (dd L)).map fun p => ⟨p, (L.count p : Nat)⟩
theorem sums_keys {es : List (Int × Value)} {L : List Int} (h : MapIs es L) {seen : List Nat} (hn : seen.Nodup) (ha : ∀ i, i ∈ seen ↔ i < es.length) : sortL (seen.map fun i => (es.getD i default).1) = sortL (dd L) := by
  refine sort_eq ?_
  have p1 : seen.Perm (List.range es.length) := (List.perm_ext_iff_of_nodup hn List.nodup_range).2 fun i => by rw [ha, List.mem_range]
  have p2 := p1.map fun i => (es.getD i default).1
  have e : (List.range es.length).map (fun i => (es.getD i default).1) = es.map Prod.fst := by
    refine List.ext_getElem (by simp) fun i h1 h2 => ?_
    simp only [List.getElem_map, List.getElem_range]
    rw [List.getD_eq_getElem?_getD, List.getElem?_eq_getElem (by simpa using h2)]; rfl
  rw [e] at p2
  refine p2.trans ((List.perm_ext_iff_of_nodup h.nodup (dd_nodup L)).2 fun a => ?_)
  rw [dd_mem]
  exact ⟨fun h2 => by
    obtain ⟨x, hx, rfl⟩ := List.mem_map.1 h2
    exact (h.val x.1 x.2 hx).2, h.all a⟩
theorem sum_keys_len {es : List (Int × Value)} {L : List Int} (h : MapIs es L) : (sortL (dd L)).length = es.length := by
  rw [(sort_perm _).length_eq]
  have : (es.map Prod.fst).Perm (dd L) := (List.perm_ext_iff_of_nodup h.nodup (dd_nodup L)).2 fun a => by
    rw [dd_mem]
    exact ⟨fun h2 => by
      obtain ⟨x, hx, rfl⟩ := List.mem_map.1 h2
      exact (h.val x.1 x.2 hx).2, h.all a⟩
  rw [← this.length_eq, List.length_map]
def sumsG (l : List PJob) : List PDraw × Int × Int := if (listedG l).2 ≠ 0 then ([], 0, (listedG l).2) else (sumsL (combos l), (listedG l).1, 0)
theorem few_keys {es : List (Int × Value)} {L : List Int} (h : MapIs es L) {n : Nat} (hL : ∀ x ∈ L, 0 ≤ x ∧ x < n) : es.length ≤ n := by
  have hs : (es.map fun p => p.1.toNat).Nodup := by
    have : (es.map fun p => p.1.toNat) = (es.map Prod.fst).map Int.toNat := by rw [List.map_map]; rfl
    rw [this]
    unfold List.Nodup
    rw [List.pairwise_map]
    have hn := h.nodup
    unfold List.Nodup at hn
    refine hn.imp_of_mem fun {a b} ha hb hab he => hab ?_
    obtain ⟨x, hx, rfl⟩ := List.mem_map.1 ha
    obtain ⟨y, hy, rfl⟩ := List.mem_map.1 hb
    have h1 := hL _ (h.val x.1 x.2 hx).2
    have h2 := hL _ (h.val y.1 y.2 hy).2
    omega
  have := seen_few (n := n) hs (fun i hi => by
    obtain ⟨x, hx, rfl⟩ := List.mem_map.1 hi
    have h1 := hL _ (h.val x.1 x.2 hx).2
    omega)
  rwa [List.length_map] at this
end Go.X

/- The example, and tasks made of digits. No condition. -/
set_option linter.unusedVariables false
namespace Go.X
def jobX : PJob := ⟨1, 1, 1, [⟨100, 3⟩, ⟨200, 1⟩], 0, 5⟩
def taskX : PTask := ⟨[jobX, jobX, jobX], [⟨3, 3, 3, 400, 0⟩], ⟨1, 10⟩⟩
theorem sortL_is {a b : List Int} (p : a.Perm b) (s : b.Pairwise (fun x y => x ≤ y)) : sortL a = b :=
  List.Perm.eq_of_pairwise (fun x y _ _ h1 h2 => Int.le_antisymm h1 h2) (sort_sorted a) s ((sort_perm a).trans p)
theorem job_sums : sumsG [jobX, jobX] = ([⟨200, 9⟩, ⟨300, 6⟩, ⟨400, 1⟩], 16, 0) := by
  rw [sumsG, if_neg (by decide), sumsL, sortL_is (b := [200, 300, 400]) (by decide) (by decide)]; decide
theorem job_chance : chanceG [jobX, jobX] 300 = (⟨1, 16⟩, 0) := by decide
theorem task_ready : readyG taskX = 0 := by decide
set_option maxRecDepth 100000 in
theorem task_best : (bestP taskX).1 = [0, 0, -1] ∧ (bestP taskX).2.1 = 10 := by decide +kernel
set_option maxRecDepth 100000 in
theorem task_verify : verifyP taskX (bestP taskX).1 (bestP taskX).2.1 (bestP taskX).2.2 = 0 := by decide +kernel
def mostsX : List PRat := [⟨0, 1⟩, ⟨1, 10⟩, ⟨1, 4⟩, ⟨1, 2⟩, ⟨1, 1⟩]
theorem mosts_ok : ∀ i, i < 5 → chanceR (mostsX.getD i default) = true := by decide
/-- Draws that Made writes. -/
structure MkD (k : Nat) (p : Int) (ds : List PDraw) : Prop where
  len : ds.length = k
  p1 : 0 ≤ p ∧ p ≤ 14 + 15 * k
  at' : ∀ i, i < k → (0 ≤ (ds.getD i default).power ∧ (ds.getD i default).power < p) ∧ (1 ≤ (ds.getD i default).count ∧ (ds.getD i default).count ≤ 4) ∧ (0 < i → (ds.getD (i - 1) default).power < (ds.getD i default).power)
theorem snoc_getP {α : Type} [Inhabited α] (l : List α) (x : α) (i : Nat) : (l ++ [x]).getD i default = if i < l.length then l.getD i default else if i = l.length then x else default := by
  rw [List.getD_eq_getElem?_getD, List.getElem?_append]
  split
  · rw [List.getD_eq_getElem?_getD]
  · split
    · rename_i h1 h2; subst h2; simp
    · rename_i h1 h2
      rw [List.getElem?_eq_none (by simp; omega)]; rfl
theorem MkD.nil {p : Int} (h : 0 ≤ p ∧ p ≤ 14) : MkD 0 p [] := ⟨rfl, by omega, fun i hi => absurd hi (Nat.not_lt_zero i)⟩
theorem MkD.snoc {k : Nat} {p q c : Int} {ds : List PDraw} (m : MkD k p ds) (hc : 1 ≤ c ∧ c ≤ 4) (hq : p < q ∧ q ≤ p + 15) : MkD (k + 1) q (ds ++ [⟨p, c⟩]) where
  len := by rw [List.length_append, m.len]; rfl
  p1 := by have := m.p1; omega
  at' := fun i hi => by
    have pp := m.p1
    have l := m.len
    rw [snoc_getP, snoc_getP, l]
    by_cases h : i < k
    · have a := m.at' i h
      rw [if_pos h]
      refine ⟨⟨a.1.1, by omega⟩, a.2.1, fun h0 => ?_⟩
      rw [if_pos (by omega)]; exact a.2.2 h0
    · rw [if_neg h, if_pos (by omega)]
      refine ⟨⟨pp.1, hq.1⟩, hc, fun h0 => ?_⟩
      rw [if_pos (by omega)]
      exact (m.at' (i - 1) (by omega)).1.2
structure MkJob (j : PJob) : Prop where
  ok : PJobOk j
  few : j.draws.length ≤ 3
  cnt : ∀ i, i < j.draws.length → (j.draws.getD i default).count ≤ 4
theorem mkJob_of {a b c g w p : Int} {k : Nat} {ds : List PDraw} (m : MkD k p ds) (hk : 1 ≤ k ∧ k ≤ 3) (ha : 0 ≤ a ∧ a ≤ 1000000) (hb : 0 ≤ b ∧ b ≤ 1000000) (hc : 0 ≤ c ∧ c ≤ 1000000) (hg : 0 ≤ g ∧ g ≤ 100) (hw : 0 ≤ w ∧ w ≤ 1000000) : MkJob ⟨a, b, c, ds, g, w⟩ := by
  have l := m.len
  have pp := m.p1
  refine ⟨⟨pin_three.2 ⟨ha, hb, hc⟩, hg, hw, by dsimp only; omega, fun i hi => ?_⟩, by dsimp only; omega, fun i hi => ?_⟩
  · have q := m.at' i (by dsimp only at hi; omega)
    exact ⟨⟨q.1.1, by dsimp only; omega⟩, ⟨q.2.1.1, by dsimp only; omega⟩, q.2.2⟩
  · exact (m.at' i (by dsimp only at hi; omega)).2.1.2
theorem MkJob.total {j : PJob} (h : MkJob j) : 1 ≤ totalJ j ∧ totalJ j ≤ 12 := by
  have a := (total_rng h.ok).1
  have b := sum_le_mul (l := j.draws.map (·.count)) (m := 4) fun x hx => by
    obtain ⟨d, hd, rfl⟩ := List.mem_map.1 hx
    obtain ⟨i, hi, rfl⟩ := List.getElem_of_mem hd
    have := h.cnt i hi
    rwa [List.getD_eq_getElem?_getD, List.getElem?_eq_getElem hi] at this
  rw [List.length_map] at b
  have := h.few
  unfold totalJ at *; omega
theorem mk_prod {l : List PJob} (h : ∀ i, i < l.length → MkJob (l.getD i default)) : ∀ i, i ≤ l.length → 1 ≤ prodJ l i ∧ prodJ l i ≤ 12 ^ i
  | 0, _ => ⟨Int.le_refl _, Int.le_refl _⟩
  | i + 1, hi => by
    have a := mk_prod h i (by omega)
    have b := (h i (by omega)).total
    have c1 : 1 * 1 ≤ prodJ l i * totalJ (l.getD i default) := Int.mul_le_mul a.1 b.1 (by omega) (by omega)
    have c2 : prodJ l i * totalJ (l.getD i default) ≤ 12 ^ i * 12 := Int.mul_le_mul a.2 b.2 (by omega) (by omega)
    rw [prodJ, Int.pow_succ]; omega
theorem mk_list {l : List PJob} (h : ∀ i, i < l.length → MkJob (l.getD i default)) (h7 : l.length ≤ 7) : ListOk l := by
  refine ⟨by omega, fun i hi => (h i hi).ok, fun i hi => ?_⟩
  have a := (mk_prod h i hi).2
  have b : (12 : Nat) ^ i ≤ 12 ^ 7 := Nat.pow_le_pow_right (by decide) (by omega)
  have c : ((12 ^ i : Nat) : Int) = (12 : Int) ^ i := by rw [Int.natCast_pow]; rfl
  have d : (12 : Nat) ^ 7 = 35831808 := by decide
  omega
structure MkTask (t : PTask) : Prop where
  job : ∀ i, i < t.jobs.length → MkJob (t.jobs.getD i default)
  few : t.jobs.length ≤ 7
  rk : 1 ≤ t.racks.length ∧ t.racks.length ≤ 3
  rack : ∀ i, i < t.racks.length → rackR (t.racks.getD i default) = true
  most : chanceR t.most = true
theorem MkTask.ok {t : PTask} (h : MkTask t) : TaskOk t := ⟨by have := h.few; omega, h.rk.1, by have := h.rk; omega, fun i hi => (h.job i hi).ok, h.rack, h.most⟩
theorem MkTask.lok {t : PTask} (h : MkTask t) : ListOk t.jobs := mk_list h.job h.few
theorem MkTask.ready {t : PTask} (h : MkTask t) : readyG t = 0 := by
  rw [readyG, if_neg (by rw [pcheck_iff.2 h.ok]; decide)]; exact listed_ok.2 h.lok
theorem rack_ok {a b c d e : Int} (ha : 0 ≤ a ∧ a ≤ 1000000) (hb : 0 ≤ b ∧ b ≤ 1000000) (hc : 0 ≤ c ∧ c ≤ 1000000) (hd : 0 ≤ d ∧ d ≤ 10000) (he : 0 ≤ e ∧ e ≤ 100) : rackR ⟨a, b, c, d, e⟩ = true := by
  unfold rackR
  rw [Bool.and_eq_true, Bool.and_eq_true]
  exact ⟨⟨pin_three.2 ⟨ha, hb, hc⟩, pin_one.2 hd⟩, pin_one.2 he⟩
theorem each_snoc {α : Type} [Inhabited α] {Q : α → Prop} {l : List α} {x : α} (h : ∀ i, i < l.length → Q (l.getD i default)) (hx : Q x) : ∀ i, i < (l ++ [x]).length → Q ((l ++ [x]).getD i default) := fun i hi => by
  rw [List.length_append] at hi
  rw [snoc_getP]
  by_cases hc : i < l.length
  · rw [if_pos hc]; exact h i hc
  · rw [if_neg hc, if_pos (by simp at hi; omega)]; exact hx
end Go.X

/- Chances grow with the list; what fits still fits with less. No condition. -/
set_option linter.unusedVariables false
namespace Go.X
theorem mul_le_cancel {a b c : Int} (hc : 1 ≤ c) : a * c ≤ b * c ↔ a ≤ b := ⟨fun h => Int.le_of_mul_le_mul_right h (by omega), fun h => Int.mul_le_mul_of_nonneg_right h (by omega)⟩
/-- A part of all is at most a fraction. -/
theorem atMost_iff {n all : Int} {m : PRat} (hn : 0 ≤ n ∧ n ≤ all) (ha : 1 ≤ all) : atMostB (ratG n all) m = true ↔ n * m.d ≤ m.n * all := by
  have x := rat_cross (n := n) ha
  have r := rat_rng hn ha
  unfold atMostB
  rw [decide_eq_true_eq, ← mul_le_cancel (c := all) ha, ← mul_le_cancel (a := n * m.d) (c := (ratG n all).d) r.2.1]
  generalize ratG n all = q at *
  have e1 : q.n * m.d * all = n * m.d * q.d := by rw [Int.mul_right_comm, x, Int.mul_right_comm]
  have e2 : m.n * q.d * all = m.n * all * q.d := Int.mul_right_comm ..
  rw [e1, e2]
theorem count_flat {L : List Int} {f : Int → List Int} {p q : Int → Bool} {c : Nat} (h : ∀ s ∈ L, p s = true → c ≤ (f s).countP q) : L.countP p * c ≤ (L.flatMap f).countP q := by
  induction L with
  | nil => simp
  | cons a L ih =>
    have i := ih fun s hs => h s (List.mem_cons_of_mem _ hs)
    have ha := h a List.mem_cons_self
    rw [List.flatMap_cons, List.countP_append, List.countP_cons]
    by_cases hp : p a = true
    · rw [if_pos hp, Nat.add_mul, Nat.one_mul]
      have := ha hp
      omega
    · rw [if_neg hp, Nat.add_zero]; omega
theorem over_step {j : PJob} (ok : PJobOk j) (L : List Int) (lim : Int) : (overN L lim : Int) * totalJ j ≤ (overN (step1 L j) lim : Nat) := by
  have t := (total_rng ok).1
  have h := count_flat (L := L) (f := fun s => j.draws.flatMap fun d => List.replicate d.count.toNat (s + d.power)) (p := fun s => decide (lim < s)) (q := fun s => decide (lim < s)) (c := (totalJ j).toNat) fun s hs hp => by
    have rl := reps_len ok s
    rw [List.countP_eq_length.2 fun x hx => ?_]
    · omega
    · obtain ⟨d, hd, hx⟩ := List.mem_flatMap.1 hx
      have := (List.mem_replicate.1 hx).2
      have hp := of_decide_eq_true hp
      have := (mem_draws ok hd).1
      exact decide_eq_true (by omega)
  have e : ((L.countP (fun s => decide (lim < s)) * (totalJ j).toNat : Nat) : Int) = (overN L lim : Int) * totalJ j := by
    rw [Int.natCast_mul]; unfold overN; rw [show (((totalJ j).toNat : Nat) : Int) = totalJ j by omega]
  unfold overN at *
  unfold step1
  omega
theorem need_app (l : List PJob) (x : PJob) (k : Nat) : ∀ i, i ≤ l.length → needK (l ++ [x]) k i = needK l k i
  | 0, _ => rfl
  | i + 1, h => by
    rw [needK, needK, need_app l x k i (by omega), List.getD_eq_getElem?_getD, List.getElem?_append_left (by omega), ← List.getD_eq_getElem?_getD]
theorem need_last (l : List PJob) (x : PJob) (k : Nat) : needK (l ++ [x]) k (l ++ [x]).length = needK l k l.length + needOf x k := by
  rw [List.length_append, show ([x] : List PJob).length = 1 from rfl, needK, need_app l x k _ (Nat.le_refl _), List.getD_eq_getElem?_getD, List.getElem?_append_right (Nat.le_refl _), Nat.sub_self]; rfl
theorem lok_app {l : List PJob} {x : PJob} (ok : ListOk (l ++ [x])) : ListOk l ∧ PJobOk x := by
  have hl : (l ++ [x]).length = l.length + 1 := List.length_append
  refine ⟨⟨by have := ok.few; omega, fun i hi => ?_, fun i hi => ?_⟩, ?_⟩
  · have := ok.job i (by omega)
    rwa [List.getD_eq_getElem?_getD, List.getElem?_append_left hi, ← List.getD_eq_getElem?_getD] at this
  · have := ok.prod i (by omega)
    rwa [prodJ_app _ _ _ hi] at this
  have := ok.job l.length (by rw [List.length_append]; simp)
  rwa [List.getD_eq_getElem?_getD, List.getElem?_append_right (Nat.le_refl _), Nat.sub_self] at this
theorem combos_all {l : List PJob} (ok : ListOk l) : ((combos l).length : Int) = prodJ l l.length ∧ 1 ≤ prodJ l l.length := by
  have := combos_len ok _ (Nat.le_refl _)
  rw [List.take_length] at this
  exact ⟨this, prod_pos ok _ (Nat.le_refl _)⟩
theorem over_bound {l : List PJob} (ok : ListOk l) (lim : Int) : (0 ≤ ((overN (combos l) lim : Nat) : Int) ∧ ((overN (combos l) lim : Nat) : Int) ≤ prodJ l l.length) := by
  have a := over_len (combos l) lim
  have b := (combos_all ok).1
  omega
/-- What a list's chance is at most. -/
theorem chance_iff {l : List PJob} (ok : ListOk l) (lim : Int) (m : PRat) : atMostB (overG l lim (prodJ l l.length)) m = true ↔ ((overN (combos l) lim : Nat) : Int) * m.d ≤ m.n * prodJ l l.length := atMost_iff (over_bound ok lim) (combos_all ok).2
/-- A longer list is over the limit at least as often. -/
theorem over_more {l : List PJob} {x : PJob} (ok : ListOk (l ++ [x])) (lim : Int) : ((overN (combos l) lim : Nat) : Int) * prodJ (l ++ [x]) (l ++ [x]).length ≤ ((overN (combos (l ++ [x])) lim : Nat) : Int) * prodJ l l.length := by
  obtain ⟨okl, okx⟩ := lok_app ok
  have s := over_step okx (combos l) lim
  have c := (combos_all okl).2
  rw [combos_snoc, List.length_append, show ([x] : List PJob).length = 1 from rfl, prodJ_last, Int.mul_comm (prodJ l l.length), ← Int.mul_assoc]
  exact Int.mul_le_mul_of_nonneg_right s (by omega)
theorem fits_prefix {l : List PJob} {x : PJob} {r : PRack} {m : PRat} (ok : ListOk (l ++ [x])) (hm : 1 ≤ m.d) (h : fitsG (l ++ [x]) r m = true) : fitsG l r m = true := by
  obtain ⟨okl, okx⟩ := lok_app ok
  have n := pin_three.1 okx.need
  unfold fitsG at h ⊢
  rw [need_last, need_last, need_last, Bool.and_eq_true, Bool.and_eq_true, Bool.and_eq_true, decide_eq_true_eq, decide_eq_true_eq, decide_eq_true_eq, chance_iff ok] at h
  obtain ⟨⟨⟨h0, h1⟩, h2⟩, h3⟩ := h
  change _ + x.n0 ≤ _ at h0
  change _ + x.n1 ≤ _ at h1
  change _ + x.n2 ≤ _ at h2
  rw [Bool.and_eq_true, Bool.and_eq_true, Bool.and_eq_true, decide_eq_true_eq, decide_eq_true_eq, decide_eq_true_eq, chance_iff okl]
  refine ⟨⟨⟨by omega, by omega⟩, by omega⟩, ?_⟩
  have mo := over_more ok r.cap
  have c1 := (combos_all okl).2
  have c2 := (combos_all ok).2
  rw [← mul_le_cancel (c := prodJ (l ++ [x]) (l ++ [x]).length) c2]
  have e1 := Int.mul_le_mul_of_nonneg_right mo (show (0 : Int) ≤ m.d by omega)
  have e2 := Int.mul_le_mul_of_nonneg_right h3 (show (0 : Int) ≤ prodJ l l.length by omega)
  generalize prodJ (l ++ [x]) (l ++ [x]).length = P2 at *
  generalize prodJ l l.length = P1 at *
  generalize ((overN (combos l) r.cap : Nat) : Int) = o1 at *
  generalize ((overN (combos (l ++ [x])) r.cap : Nat) : Int) = o2 at *
  have a1 : o1 * m.d * P2 = o1 * P2 * m.d := Int.mul_right_comm ..
  have a2 : o2 * P1 * m.d = o2 * m.d * P1 := Int.mul_right_comm ..
  have a3 : m.n * P2 * P1 = m.n * P1 * P2 := Int.mul_right_comm ..
  omega
theorem fits_nil {r : PRack} {m : PRat} (hr : rackR r = true) (hm : 0 ≤ m.n) : fitsG [] r m = true := by
  unfold rackR at hr
  rw [Bool.and_eq_true, Bool.and_eq_true] at hr
  have a := pin_three.1 hr.1.1
  have b := pin_one.1 hr.1.2
  have ok : ListOk ([] : List PJob) := ⟨Nat.zero_le _, fun i hi => absurd hi (Nat.not_lt_zero i), fun i hi => by rw [show i = 0 by simpa using hi]; decide⟩
  unfold fitsG
  rw [Bool.and_eq_true, Bool.and_eq_true, Bool.and_eq_true, decide_eq_true_eq, decide_eq_true_eq, decide_eq_true_eq, chance_iff ok]
  refine ⟨⟨⟨a.1.1, a.2.1.1⟩, a.2.2.1⟩, ?_⟩
  have : overN (combos []) r.cap = 0 := by
    unfold overN
    rw [List.countP_eq_zero]
    intro s hs
    rw [combos, List.foldl_nil, List.mem_singleton] at hs
    rw [decide_eq_true_eq]; omega
  rw [this]
  show (0 : Int) * m.d ≤ m.n * 1
  omega
end Go.X

/- The search finds the best; its proof holds; what holds is the best. No condition. -/
set_option linter.unusedVariables false
namespace Go.X
theorem snoc_old {w : List Int} {y : Int} {i : Nat} (h : i < w.length) : (w ++ [y]).getD i default = w.getD i default := by
  rw [List.getD_eq_getElem?_getD, List.getElem?_append_left h, ← List.getD_eq_getElem?_getD]
theorem snoc_new {w : List Int} {y : Int} : (w ++ [y]).getD w.length default = y := by
  rw [List.getD_eq_getElem?_getD, List.getElem?_append_right (Nat.le_refl _), Nat.sub_self]; rfl
theorem inTo_snoc {α : Type} [Inhabited α] {l : List α} {w : List Int} {y r : Int} : ∀ n, n ≤ w.length → inTo l (w ++ [y]) r n = inTo l w r n
  | 0, _ => rfl
  | n + 1, h => by rw [inTo, inTo, inTo_snoc n (by omega), snoc_old (by omega)]
theorem inL_snoc (t : PTask) (w : List Int) (y r : Int) : inL t (w ++ [y]) r = inL t w r ++ (if y = r then [t.jobs.getD w.length default] else []) := by
  unfold inL
  rw [List.length_append, show ([y] : List Int).length = 1 from rfl, inTo, inTo_snoc _ (Nat.le_refl _), snoc_new]
theorem skip_snoc {t : PTask} {w : List Int} {y : Int} {i : Nat} (h : i < w.length) : skipK t (w ++ [y]) i = skipK t w i := by rw [skipK, skipK, snoc_old h]
theorem key_snoc {t : PTask} {w : List Int} {y : Int} {i : Nat} (h : i < w.length) : keyOf t (w ++ [y]) i = keyOf t w i := by rw [keyOf, keyOf, snoc_old h]
theorem keys_snoc {t : PTask} {w : List Int} {y : Int} : ∀ n, n ≤ w.length → keysTo t (w ++ [y]) n = keysTo t w n
  | 0, _ => rfl
  | n + 1, h => by rw [keysTo, keysTo, keys_snoc n (by omega), skip_snoc (by omega), key_snoc (by omega)]
theorem apartTo_snoc {t : PTask} {w : List Int} {y : Int} : ∀ n, n ≤ w.length → apartTo t (w ++ [y]) n = apartTo t w n
  | 0, _ => rfl
  | n + 1, h => by rw [apartTo, apartTo, apartTo_snoc n (by omega), skip_snoc (by omega), key_snoc (by omega), keys_snoc n (by omega)]
theorem apart_prefix {t : PTask} {w : List Int} {y : Int} (h : apartG t (w ++ [y]) = true) : apartG t w = true := by
  unfold apartG at *
  rw [List.length_append, show ([y] : List Int).length = 1 from rfl, apartTo, apartTo_snoc _ (Nat.le_refl _), Bool.and_eq_true] at h
  exact h.1
theorem apart_out {t : PTask} {w : List Int} (h : apartG t w = true) : apartG t (w ++ [-1]) = true := by
  unfold apartG at *
  rw [List.length_append, show ([-1] : List Int).length = 1 from rfl, apartTo, apartTo_snoc _ (Nat.le_refl _), h, skipK, snoc_new]
  rfl
theorem fitTo_iff {t : PTask} {w : List Int} : ∀ {n}, fitTo t w n = true ↔ ∀ r, r < n → fitAt t w r = true
  | 0 => ⟨fun _ r hr => absurd hr (Nat.not_lt_zero r), fun _ => rfl⟩
  | n + 1 => by
    rw [fitTo, Bool.and_eq_true, fitTo_iff]
    exact ⟨fun ⟨a, b⟩ r hr => by
      by_cases he : r = n
      · rw [he]; exact b
      · exact a r (by omega), fun h => ⟨fun r hr => h r (by omega), h n (by omega)⟩⟩
theorem allowed_iff {t : PTask} {w : List Int} : allowedB t w = true ↔ (∀ r, r < t.racks.length → fitAt t w r = true) ∧ apartG t w = true := by
  rw [allowedB, Bool.and_eq_true, fitTo_iff]
theorem fit_same {t : PTask} {w : List Int} {y : Int} {r : Nat} (h : y ≠ (r : Int)) : fitAt t (w ++ [y]) r = fitAt t w r := by
  rw [fitAt, fitAt, inL_snoc, if_neg h, List.append_nil]
theorem inL_ok {t : PTask} (lok : ListOk t.jobs) {w : List Int} (h : w.length ≤ t.jobs.length) (r : Int) : ListOk (inL t w r) := lok.inTo w r h
theorem fit_prefix {t : PTask} (ok : TaskOk t) (lok : ListOk t.jobs) {w : List Int} {y : Int} (hl : w.length < t.jobs.length) {r : Nat} (h : fitAt t (w ++ [y]) r = true) : fitAt t w r = true := by
  by_cases hy : y = (r : Int)
  · have k := inL_ok lok (w := w ++ [y]) (by rw [List.length_append]; simp; omega) (r : Int)
    rw [fitAt, inL_snoc, if_pos hy] at h
    rw [inL_snoc, if_pos hy] at k
    exact fits_prefix k (chanceR_pos ok.most) h
  · rwa [fit_same hy] at h
theorem allowed_prefix {t : PTask} (ok : TaskOk t) (lok : ListOk t.jobs) {w : List Int} {y : Int} (hl : w.length < t.jobs.length) (h : allowedB t (w ++ [y]) = true) : allowedB t w = true := by
  rw [allowed_iff] at *
  exact ⟨fun r hr => fit_prefix ok lok hl (h.1 r hr), apart_prefix h.2⟩
theorem psonsTo_memT {t : PTask} {w x : List Int} : ∀ {n}, x ∈ psonsTo t w n → ∃ r : Nat, r < n ∧ x = w ++ [(r : Int)] ∧ sonOk t w r = true
  | 0, h => by cases h
  | n + 1, h => by
    rw [psonsTo] at h
    rcases List.mem_append.1 h with h | h
    · obtain ⟨r, a, b, c⟩ := psonsTo_memT h
      exact ⟨r, by omega, b, c⟩
    · split at h
      · rw [List.mem_singleton] at h
        exact ⟨n, by omega, h, ‹_›⟩
      · cases h
theorem sons_allowed {t : PTask} {w x : List Int} (h : allowedB t w = true) (hx : x ∈ psons t w) : allowedB t x = true := by
  rw [allowed_iff] at h ⊢
  rw [psons] at hx
  rcases List.mem_append.1 hx with hx | hx
  · obtain ⟨r, hr, rfl, hs⟩ := psonsTo_memT hx
    rw [sonOk, Bool.and_eq_true] at hs
    refine ⟨fun q hq => ?_, hs.2⟩
    by_cases he : (r : Int) = q
    · have : r = q := by omega
      subst this; exact hs.1
    · rw [fit_same he]; exact h.1 q hq
  · rw [List.mem_singleton] at hx
    subst hx
    refine ⟨fun q hq => ?_, apart_out h.2⟩
    rw [fit_same (by omega)]; exact h.1 q hq
theorem son_of {t : PTask} {w : List Int} {y : Int} (h : allowedB t (w ++ [y]) = true) (h1 : -1 ≤ y) (h2 : y < t.racks.length) : ∃ i, i < (psons t w).length ∧ (psons t w).getD i default = w ++ [y] := by
  by_cases hy : y = -1
  · subst hy
    exact ⟨_, by rw [psons_len]; exact Nat.lt_succ_self _, psons_last t w⟩
  · obtain ⟨r, rfl⟩ := Int.eq_ofNat_of_zero_le (show 0 ≤ y by omega)
    rw [allowed_iff] at h
    have := psons_at (t := t) (w := w) (r := r) (by omega) (by rw [sonOk, Bool.and_eq_true]; exact ⟨h.1 r (by omega), h.2⟩)
    exact ⟨_, this.2, this.1⟩
theorem takes_allowed {t : PTask} (ok : TaskOk t) (lok : ListOk t.jobs) {w : List Int} (hw : w.length = t.jobs.length) (h : allowedB t w = true) : ∀ d, d ≤ w.length → allowedB t (w.take (w.length - d)) = true
  | 0, _ => by rw [Nat.sub_zero, List.take_length]; exact h
  | d + 1, hd => by
    have ih := takes_allowed ok lok hw h d (by omega)
    rw [show w.length - d = (w.length - (d + 1)) + 1 by omega, take_snocP (by omega)] at ih
    exact allowed_prefix ok lok (by rw [List.length_take]; omega) ih
/-- What lies below a node bounds every allowed placement that goes on from it. -/
theorem below_reach {t : PTask} (ok : TaskOk t) (lok : ListOk t.jobs) {b : Int} {w : List Int} (wok : WOk t w) (hw : w.length = t.jobs.length) (h : allowedB t w = true) : ∀ f, f ≤ w.length → belowF t b f (w.take (w.length - f)) → worthG t w ≤ b
  | 0, _, k => by rw [Nat.sub_zero, List.take_length] at k; exact k
  | f + 1, hf, k => by
    have ta := takes_allowed ok lok hw h f (by omega)
    rw [show w.length - f = (w.length - (f + 1)) + 1 by omega, take_snocP (by omega)] at ta
    have rg := wok.rng (w.length - (f + 1)) (by omega)
    obtain ⟨i, hi, e⟩ := son_of ta rg.1 rg.2
    refine below_reach ok lok wok hw h f (by omega) ?_
    have := k i hi
    rw [e] at this
    rw [show w.length - f = (w.length - (f + 1)) + 1 by omega, take_snocP (by omega)]
    exact this
theorem below_all {t : PTask} (ok : TaskOk t) (lok : ListOk t.jobs) {b : Int} (k : belowG t b []) {w : List Int} (wok : WOk t w) (hw : w.length = t.jobs.length) (h : allowedB t w = true) : worthG t w ≤ b := by
  refine below_reach ok lok wok hw h w.length (Nat.le_refl _) ?_
  rw [Nat.sub_self, List.take_zero]
  unfold belowG at k
  rw [hw]; exact k
/-- A whole placement that is allowed. -/
structure Whole (t : PTask) (s : List Int × Int) : Prop where
  wok : WOk t s.1
  len : s.1.length = t.jobs.length
  all : allowedB t s.1 = true
  wor : worthG t s.1 = s.2
theorem look_whole {t : PTask} : ∀ m w s, WOk t w → t.jobs.length - w.length ≤ m → allowedB t w = true → lookG t w s = s ∨ Whole t (lookG t w s)
  | m, w, s, wok, hm, ha => by
    rw [lookF_eq wok.len]
    split
    · exact .inl rfl
    · split
      · exact .inr ⟨wok, ‹_›, ha, rfl⟩
      · rename_i h1 h2
        have hl := wok.len
        cases m with
        | zero => omega
        | succ m =>
          have step : ∀ n, n ≤ (psons t w).length → foldTo (fun s son => lookG t son s) (psons t w) s n = s ∨ Whole t (foldTo (fun s son => lookG t son s) (psons t w) s n) := by
            intro n
            induction n with
            | zero => intro _; exact .inl rfl
            | succ n ih =>
              intro hn
              obtain ⟨y, e, y1, y2⟩ := psons_get (t := t) (w := w) (i := n) (by omega)
              have al := sons_allowed ha (getD_mem (xs := psons t w) (i := n) (by omega))
              have q := look_whole m ((psons t w).getD n default) (foldTo (fun s son => lookG t son s) (psons t w) s n) (by rw [e]; exact wok.snoc (by omega) y1 y2) (by rw [e, List.length_append]; simp; omega) al
              rw [foldTo]
              rcases q with q | q
              · rw [q]; exact ih (by omega)
              · exact .inr q
          exact step _ (Nat.le_refl _)
theorem allowed_nil {t : PTask} (ok : TaskOk t) : allowedB t [] = true := by
  rw [allowed_iff]
  exact ⟨fun r hr => fits_nil (ok.rack r hr) (chanceR_rng ok.most).1.1, rfl⟩
theorem outs_whole {t : PTask} (ok : TaskOk t) : ∀ n, n ≤ t.jobs.length → WOk t (List.replicate n (-1)) ∧ allowedB t (List.replicate n (-1)) = true
  | 0, _ => ⟨wok_nil t, allowed_nil ok⟩
  | n + 1, h => by
    obtain ⟨a, b⟩ := outs_whole ok n (by omega)
    rw [List.replicate_succ']
    exact ⟨a.snoc (by rw [List.length_replicate]; omega) (Int.le_refl _) (by have := ok.rk1; omega), sons_allowed b (by rw [psons]; simp)⟩
theorem best_whole {t : PTask} (ok : TaskOk t) (lok : ListOk t.jobs) : Whole t (lookG t [] ([], -1)) ∧ belowG t (lookG t [] ([], -1)).2 [] := by
  have bl := (look_below ok _ [] ([], -1) (Nat.zero_le _) (Nat.le_refl _)).2
  refine ⟨?_, bl⟩
  rcases look_whole _ [] ([], -1) (wok_nil t) (Nat.le_refl _) (allowed_nil ok) with h | h
  · rw [h] at bl
    obtain ⟨a, b⟩ := outs_whole ok _ (Nat.le_refl _)
    have q := below_all ok lok bl a (by rw [List.length_replicate]) b
    have p := (worth_rng ok (w := List.replicate t.jobs.length (-1)) (List.replicate t.jobs.length (-1)).length (by rw [List.length_replicate]; exact Nat.le_refl _)).1
    unfold worthG at q
    omega
  · exact h
theorem formed_of {t : PTask} (ok : TaskOk t) (lok : ListOk t.jobs) {w : List Int} (wok : WOk t w) (hw : w.length = t.jobs.length) : formedG t w = 0 := by
  have ref : ∀ n, refTo t w n = 0 := by
    intro n
    induction n with
    | zero => rfl
    | succ n ih => rw [refTo, if_neg (by rw [ih]; decide)]; exact listed_ok.2 (inL_ok lok (by omega) _)
  unfold formedG
  rw [if_neg (by rw [pcheck_iff.2 ok]; decide), if_neg ?_]
  · exact ref _
  · rintro (h | h)
    · exact h (by omega)
    · rw [any_false_of fun i hi => ?_] at h
      · cases h
      · have := wok.rng i hi
        rw [outW, Bool.or_eq_false_iff, decide_eq_false_iff_not, decide_eq_false_iff_not]; omega
/-! ### the proof holds -/
theorem fold_prefix {t : PTask} {b : Int} {w : List Int} (h : ∀ i, i < (psons t w).length → ∀ p, ∃ q, proveG t b ((psons t w).getD i default) p = p ++ q) (p : List Bool) : ∀ n, n ≤ (psons t w).length → ∃ q, foldTo (fun p son => proveG t b son p) (psons t w) p n = p ++ q
  | 0, _ => ⟨[], by rw [List.append_nil]; rfl⟩
  | n + 1, hn => by
    obtain ⟨q, e⟩ := fold_prefix h p n (by omega)
    obtain ⟨q2, e2⟩ := h n (by omega) (foldTo (fun p son => proveG t b son p) (psons t w) p n)
    exact ⟨q ++ q2, by rw [foldTo, e2, e, List.append_assoc]⟩
theorem prove_prefix {t : PTask} {b : Int} : ∀ m w p, w.length ≤ t.jobs.length → t.jobs.length - w.length ≤ m → belowG t b w → ∃ q, proveG t b w p = p ++ q
  | m, w, p, hw, hm, k => by
    rw [prove_case hw k]
    by_cases h : hopeG t w ≤ b
    · rw [if_pos h]; exact ⟨_, rfl⟩
    · rw [if_neg h]
      have hl : ¬ w.length = t.jobs.length := fun e => h (cut_leaf k e)
      cases m with
      | zero => omega
      | succ m =>
        obtain ⟨q, e⟩ := fold_prefix (t := t) (b := b) (w := w) (fun i hi p => by
          obtain ⟨y, e, _⟩ := psons_get hi
          exact prove_prefix m _ p (by rw [e, List.length_append]; simp; omega) (by rw [e, List.length_append]; simp; omega) (below_son (by omega) k hi)) (p ++ [false]) _ (Nat.le_refl _)
        exact ⟨[false] ++ q, by rw [e, List.append_assoc]⟩
theorem fold_more {t : PTask} {b : Int} {w : List Int} (h : ∀ i, i < (psons t w).length → ∀ p, ∃ q, proveG t b ((psons t w).getD i default) p = p ++ q) (p : List Bool) {n : Nat} : ∀ m, n ≤ m → m ≤ (psons t w).length → ∃ q, foldTo (fun p son => proveG t b son p) (psons t w) p m = foldTo (fun p son => proveG t b son p) (psons t w) p n ++ q
  | 0, hn, _ => ⟨[], by rw [show n = 0 by omega, List.append_nil]⟩
  | m + 1, hn, hm => by
    by_cases he : n = m + 1
    · subst he; exact ⟨[], by rw [List.append_nil]⟩
    · obtain ⟨q, e⟩ := fold_more h p (n := n) m (by omega) (by omega)
      obtain ⟨q2, e2⟩ := h m (by omega) (foldTo (fun p son => proveG t b son p) (psons t w) p m)
      exact ⟨q ++ q2, by rw [foldTo, e2, e, List.append_assoc]⟩
theorem holds_prove {t : PTask} {b : Int} : ∀ m w p z, w.length ≤ t.jobs.length → t.jobs.length - w.length ≤ m → belowG t b w → holdsG t (proveG t b w p ++ z) b w p.length = (true, (proveG t b w p).length)
  | m, w, p, z, hw, hm, k => by
    rw [holds_eq hw, prove_case hw k]
    by_cases h : hopeG t w ≤ b
    · rw [if_pos h, if_neg (by simp only [List.length_append, List.length_cons, List.length_nil]; omega), if_pos (by rw [List.append_assoc, List.getD_eq_getElem?_getD, List.getElem?_append_right (Nat.le_refl _), Nat.sub_self]; rfl), decide_eq_true h, List.length_append]; rfl
    · rw [if_neg h]
      have hl : ¬ w.length = t.jobs.length := fun e => h (cut_leaf k e)
      cases m with
      | zero => omega
      | succ m =>
        have pre : ∀ i, i < (psons t w).length → ∀ p, ∃ q, proveG t b ((psons t w).getD i default) p = p ++ q := fun i hi p => by
          obtain ⟨y, e, _⟩ := psons_get hi
          exact prove_prefix m _ p (by rw [e, List.length_append]; simp; omega) (by rw [e, List.length_append]; simp; omega) (below_son (by omega) k hi)
        obtain ⟨q, eq⟩ := fold_prefix pre (p ++ [false]) _ (Nat.le_refl _)
        have step : ∀ n, n ≤ (psons t w).length → holdsTo t (foldTo (fun p son => proveG t b son p) (psons t w) (p ++ [false]) (psons t w).length ++ z) b w p.length n = (true, (foldTo (fun p son => proveG t b son p) (psons t w) (p ++ [false]) n).length) := by
          intro n
          induction n with
          | zero => intro _; rw [holdsTo, foldTo, foldTo, List.length_append]; rfl
          | succ n ih =>
            intro hn
            have ih := ih (by omega)
            obtain ⟨y, e, _⟩ := psons_get (t := t) (w := w) (i := n) (by omega)
            obtain ⟨q2, e2⟩ := fold_more pre (p ++ [false]) (n := n + 1) _ hn (Nat.le_refl _)
            have hh := holds_prove m ((psons t w).getD n default) (foldTo (fun p son => proveG t b son p) (psons t w) (p ++ [false]) n) (q2 ++ z) (by rw [e, List.length_append]; simp; omega) (by rw [e, List.length_append]; simp; omega) (below_son (by omega) k (by omega))
            unfold holdsTo at ih ⊢
            rw [foldTo, ih, if_pos rfl, e2, List.append_assoc]
            exact hh
        have a := step _ (Nat.le_refl _)
        rw [if_neg, if_neg, if_neg hl, a]
        · rw [eq, List.append_assoc, List.append_assoc, List.getD_eq_getElem?_getD, List.getElem?_append_right (Nat.le_refl _), Nat.sub_self]; simp
        · rw [eq]; simp only [List.length_append, List.length_cons, List.length_nil]; omega
/-- The law of Best. -/
theorem best_law {t : PTask} (rd : readyG t = 0) : (formedG t (bestP t).1 = 0 ∧ allowedB t (bestP t).1 = true ∧ worthG t (bestP t).1 = (bestP t).2.1) ∧ verifyP t (bestP t).1 (bestP t).2.1 (bestP t).2.2 = 0 ∧ ∀ w, formedG t w = 0 → allowedB t w = true → worthG t w ≤ (bestP t).2.1 := by
  obtain ⟨ok, lok⟩ := ready_ok rd
  obtain ⟨wh, bl⟩ := best_whole ok lok
  have fm := formed_of ok lok wh.wok wh.len
  refine ⟨⟨fm, wh.all, wh.wor⟩, ?_, fun w hf ha => ?_⟩
  · have hp := holds_prove (t := t) (b := (lookG t [] ([], -1)).2) _ [] [] [] (Nat.zero_le _) (Nat.le_refl _) bl
    rw [List.append_nil] at hp
    rw [verifyP, if_neg (by rw [rd]; decide), if_neg (by rintro (h | h); exact h fm; exact h wh.all)]
    refine if_neg ?_
    rintro (h | h | h)
    · exact h wh.wor
    · exact h (by show (holdsG t (proveG t (lookG t [] ([], -1)).2 [] []) (lookG t [] ([], -1)).2 [] 0).1 = true; rw [show (0 : Nat) = ([] : List Bool).length from rfl, hp])
    · exact h (by show (holdsG t (proveG t (lookG t [] ([], -1)).2 [] []) (lookG t [] ([], -1)).2 [] 0).2 = _; rw [show (0 : Nat) = ([] : List Bool).length from rfl, hp]; rfl)
  · obtain ⟨_, wok, hw, _⟩ := formed_iff hf
    exact below_all ok lok bl wok hw ha
end Go.X

/- Sums that occur: in order, each as often as it is counted, together all. No condition. -/
set_option linter.unusedVariables false
namespace Go.X
end Go.X

/- What a placement leaves free. No condition. -/
set_option linter.unusedVariables false
namespace Go.X
structure PRow where
  a : Int
  b : Int
  c : Int
  d : Int
deriving DecidableEq, Inhabited
/-- The greatest draw of a job. -/
def topJ (j : PJob) : Int := (j.draws.getD (j.draws.length - 1) default).power
def topK (l : List PJob) : Nat → Int
  | 0 => 0
  | i + 1 => topK l i + topJ (l.getD i default)
theorem topJ_rng {j : PJob} (ok : PJobOk j) : 0 ≤ topJ j ∧ topJ j ≤ 1000 := by
  have f := ok.few
  exact (mem_draws ok (getD_mem (show j.draws.length - 1 < j.draws.length by omega))).1
theorem topK_rng {l : List PJob} (h : ∀ i, i < l.length → PJobOk (l.getD i default)) : ∀ i, i ≤ l.length → 0 ≤ topK l i ∧ topK l i ≤ 1000 * i
  | 0, _ => by simp only [topK]; omega
  | i + 1, hi => by
    have ih := topK_rng h i (by omega)
    have t := topJ_rng (h i (by omega))
    rw [topK]; omega
/-- What is left of a rack when the first n of its jobs are in it. -/
def leftR (r : PRack) (l : List PJob) (n : Nat) : PRow := ⟨r.r0 - needK l 0 n, r.r1 - needK l 1 n, r.r2 - needK l 2 n, r.cap - topK l n⟩
def rowG (t : PTask) (w : List Int) (r : Nat) : PRow := leftR (t.racks.getD r default) (inL t w r) (inL t w r).length
def rowsTo (t : PTask) (w : List Int) : Nat → List PRow
  | 0 => []
  | r + 1 => rowsTo t w r ++ [rowG t w r]
theorem rowsTo_len (t : PTask) (w : List Int) : ∀ n, (rowsTo t w n).length = n
  | 0 => rfl
  | n + 1 => by rw [rowsTo, List.length_append, rowsTo_len t w n]; rfl
theorem rowsTo_at (t : PTask) (w : List Int) : ∀ n r, r < n → (rowsTo t w n).getD r default = rowG t w r
  | 0, r, h => absurd h (Nat.not_lt_zero r)
  | n + 1, r, h => by
    rw [rowsTo, snoc_getP, rowsTo_len]
    by_cases hc : r < n
    · rw [if_pos hc]; exact rowsTo_at t w n r hc
    · rw [if_neg hc, if_pos (by omega), show r = n by omega]
def spareG (t : PTask) (w : List Int) : List PRow × Int := if formedG t w ≠ 0 then ([], formedG t w) else if ¬ allowedB t w = true then ([], 90) else (rowsTo t w t.racks.length, 0)
end Go.X

/- With one job out a placement stays allowed; with one rack more the best is no worse; what is left and what was taken make the rack. No condition. -/
set_option linter.unusedVariables false
namespace Go.X
theorem needK_sum (l : List PJob) (k : Nat) : ∀ i, i ≤ l.length → needK l k i = ((l.take i).map (needOf · k)).sum
  | 0, _ => by rw [List.take_zero]; rfl
  | i + 1, h => by
    rw [needK, needK_sum l k i (by omega), take_snocP (by omega), List.map_append, List.sum_append]
    simp
theorem need_perm {a b : List PJob} (p : a.Perm b) (k : Nat) : needK a k a.length = needK b k b.length := by
  rw [needK_sum a k _ (Nat.le_refl _), needK_sum b k _ (Nat.le_refl _), List.take_length, List.take_length]
  exact sum_permI (p.map _)
theorem flat_swapX {α β γ : Type} (f : α → β → List γ) : ∀ (A : List α) (B : List β), (A.flatMap fun x => B.flatMap fun y => f x y).Perm (B.flatMap fun y => A.flatMap fun x => f x y)
  | [], B => by
    have : ∀ B : List β, (B.flatMap fun _ => ([] : List γ)) = [] := fun B => by induction B with
      | nil => rfl
      | cons b B ih => rw [List.flatMap_cons, ih]; rfl
    simp only [List.flatMap_nil]
    rw [this]
  | a :: A, B => by
    rw [List.flatMap_cons]
    have q := flatMap_perm_append (fun y => f a y) (fun y => A.flatMap fun x => f x y) B
    exact ((List.Perm.refl _).append (flat_swapX f A B)).trans q.symm
theorem flat_leftX {α β : Type} {f g : α → List β} (h : ∀ x, (f x).Perm (g x)) : ∀ L : List α, (L.flatMap f).Perm (L.flatMap g)
  | [] => List.Perm.refl _
  | a :: L => by
    rw [List.flatMap_cons, List.flatMap_cons]
    exact (h a).append (flat_leftX h L)
def powsX (j : PJob) : List Int := j.draws.flatMap fun d => List.replicate d.count.toNat d.power
theorem step1_powsX (L : List Int) (j : PJob) : step1 L j = L.flatMap fun s => (powsX j).flatMap fun p => [s + p] := by
  unfold step1 powsX
  congr 1
  funext s
  rw [List.flatMap_assoc]
  congr 1
  funext d
  induction d.count.toNat with
  | zero => rfl
  | succ n ih => rw [List.replicate_succ, List.replicate_succ, List.flatMap_cons, ← ih]; rfl
theorem step1_commX (L : List Int) (a b : PJob) : (step1 (step1 L a) b).Perm (step1 (step1 L b) a) := by
  have e : ∀ a b : PJob, step1 (step1 L a) b = L.flatMap fun s => (powsX a).flatMap fun p => (powsX b).flatMap fun q => [s + p + q] := fun a b => by
    rw [step1_powsX, step1_powsX, List.flatMap_assoc]
    congr 1
    funext s
    rw [List.flatMap_assoc]
    congr 1
    funext p
    rw [List.flatMap_cons, List.flatMap_nil, List.append_nil]
  rw [e a b, e b a]
  refine flat_leftX (fun s => ?_) L
  have := flat_swapX (fun p q => [s + p + q]) (powsX a) (powsX b)
  refine this.trans (List.Perm.of_eq ?_)
  congr 1
  funext q
  congr 1
  funext p
  rw [Int.add_right_comm]
theorem combos_permX {l1 l2 : List PJob} (p : l1.Perm l2) : (combos l1).Perm (combos l2) := by
  have base : ∀ (l : List PJob) {L1 L2 : List Int}, L1.Perm L2 → (l.foldl step1 L1).Perm (l.foldl step1 L2) := by
    intro l
    induction l with
    | nil => exact fun h => h
    | cons a l ih => exact fun h => ih (step1_perm h a)
  have go : ∀ {L1 L2 : List Int}, L1.Perm L2 → (l1.foldl step1 L1).Perm (l2.foldl step1 L2) := by
    induction p with
    | nil => exact fun h => h
    | cons x _ ih => exact fun h => ih (step1_perm h x)
    | swap x y l =>
      intro L1 L2 h
      exact base l ((step1_commX L1 y x).trans (step1_perm (step1_perm h x) y))
    | trans _ _ i1 i2 => exact fun h => (i1 h).trans (i2 (List.Perm.refl _))
  exact go (List.Perm.refl _)
theorem fits_perm {a b : List PJob} (p : a.Perm b) (oka : ListOk a) (okb : ListOk b) (r : PRack) (m : PRat) : fitsG a r m = fitsG b r m := by
  have c := combos_permX p
  have e1 : overN (combos a) r.cap = overN (combos b) r.cap := by unfold overN; exact c.countP_eq _
  have e2 : prodJ a a.length = prodJ b b.length := by rw [← (combos_all oka).1, ← (combos_all okb).1, c.length_eq]
  unfold fitsG overG
  rw [need_perm p 0, need_perm p 1, need_perm p 2, e1, e2]
/-! ### one job out -/
theorem set_getI (w : List Int) (i j : Nat) (x : Int) : (w.set i x).getD j default = if i = j ∧ i < w.length then x else w.getD j default := getD_setK w x default i j
theorem out_perm {α : Type} [Inhabited α] (l : List α) {w : List Int} {i : Nat} (hi : i < w.length) (r : Nat) : ∀ n, (inTo l w r n).Perm (inTo l (w.set i (-1)) r n ++ if i < n ∧ w.getD i default = (r : Int) then [l.getD i default] else [])
  | 0 => by rw [if_neg (by omega)]; exact List.Perm.refl _
  | n + 1 => by
    have ih := out_perm l hi r n
    rw [inTo, inTo]
    by_cases he : i = n
    · subst he
      have g : (w.set i (-1)).getD i default = -1 := by rw [set_getI, if_pos ⟨rfl, hi⟩]
      rw [g, if_neg (show ¬ (-1 : Int) = (r : Int) by omega), List.append_nil]
      rw [if_neg (by omega), List.append_nil] at ih
      refine ih.append ?_
      by_cases h : w.getD i default = (r : Int)
      · rw [if_pos h, if_pos ⟨by omega, h⟩]
      · rw [if_neg h, if_neg (fun q => h q.2)]
    · have g : (w.set i (-1)).getD n default = w.getD n default := by rw [set_getI, if_neg (fun q => he q.1)]
      rw [g]
      have e : (if i < n + 1 ∧ w.getD i default = (r : Int) then [l.getD i default] else []) = (if i < n ∧ w.getD i default = (r : Int) then [l.getD i default] else []) := by
        by_cases h : i < n ∧ w.getD i default = (r : Int)
        · rw [if_pos h, if_pos ⟨by omega, h.2⟩]
        · rw [if_neg h, if_neg (fun q => h ⟨by omega, q.2⟩)]
      rw [e, List.append_assoc]
      refine (ih.append_right _).trans ?_
      rw [List.append_assoc]
      exact (List.Perm.refl _).append List.perm_append_comm
theorem keys_nodup {t : PTask} {w : List Int} : ∀ n, apartTo t w n = true ↔ (keysTo t w n).Nodup
  | 0 => ⟨fun _ => List.nodup_nil, fun _ => rfl⟩
  | n + 1 => by
    rw [apartTo, keysTo, Bool.and_eq_true, keys_nodup n]
    cases hs : skipK t w n with
    | true => simp
    | false =>
      rw [if_neg (by decide), List.nodup_append]
      simp only [Bool.false_or, Bool.not_eq_true', List.contains_iff_mem, decide_eq_true_eq]
      constructor
      · rintro ⟨a, b⟩
        refine ⟨a, by simp, fun x hx y hy hxy => ?_⟩
        rw [List.mem_singleton] at hy
        subst hy
        have : (keysTo t w n).contains (keyOf t w n) = true := List.contains_iff_mem.2 (hxy ▸ hx)
        rw [this] at b; cases b
      · rintro ⟨a, _, c⟩
        refine ⟨a, ?_⟩
        rw [Bool.eq_false_iff]
        intro h
        exact c _ (List.contains_iff_mem.1 h) _ List.mem_cons_self rfl
theorem keys_out {t : PTask} {w : List Int} {i : Nat} (hi : i < w.length) : ∀ n, (keysTo t (w.set i (-1)) n).Sublist (keysTo t w n)
  | 0 => List.Sublist.refl _
  | n + 1 => by
    have ih := keys_out (t := t) hi n
    rw [keysTo, keysTo]
    by_cases he : i = n
    · have hs : skipK t (w.set i (-1)) n = true := by rw [skipK, set_getI, if_pos ⟨he, hi⟩]; rfl
      rw [hs, if_pos rfl, List.append_nil]
      exact ih.trans (List.sublist_append_left _ _)
    · have e1 : skipK t (w.set i (-1)) n = skipK t w n := by rw [skipK, skipK, set_getI, if_neg (fun q => he q.1)]
      have e2 : keyOf t (w.set i (-1)) n = keyOf t w n := by rw [keyOf, keyOf, set_getI, if_neg (fun q => he q.1)]
      rw [e1, e2]
      exact ih.append (List.Sublist.refl _)
theorem out_allowed {t : PTask} (ok : TaskOk t) (lok : ListOk t.jobs) {w : List Int} (wok : WOk t w) (hw : w.length = t.jobs.length) (h : allowedB t w = true) {i : Nat} (hi : i < w.length) : formedG t (w.set i (-1)) = 0 ∧ allowedB t (w.set i (-1)) = true := by
  have wl : (w.set i (-1)).length = w.length := List.length_set
  have wok2 : WOk t (w.set i (-1)) := ⟨by rw [wl]; exact wok.len, fun j hj => by
    rw [wl] at hj
    rw [set_getI]
    have := wok.rng j hj
    split <;> omega⟩
  refine ⟨formed_of ok lok wok2 (by rw [wl]; exact hw), ?_⟩
  rw [allowed_iff] at h ⊢
  refine ⟨fun r hr => ?_, ?_⟩
  · have p := out_perm t.jobs hi r w.length
    have ka := inL_ok lok (w := w) (by omega) (r : Int)
    have kb := inL_ok lok (w := w.set i (-1)) (by omega) (r : Int)
    have f := h.1 r hr
    unfold fitAt at f ⊢
    unfold inL at f ka kb ⊢
    rw [wl] at kb ⊢
    by_cases hc : i < w.length ∧ w.getD i default = (r : Int)
    · rw [if_pos hc] at p
      have kc : ListOk (inTo t.jobs (w.set i (-1)) r w.length ++ [t.jobs.getD i default]) := by
        refine ⟨by rw [← p.length_eq]; exact ka.few, fun j hj => ?_, fun j hj => ?_⟩
        · have m := p.mem_iff.2 (getD_mem hj)
          obtain ⟨q, hq, e⟩ := List.getElem_of_mem m
          have := ka.job q hq
          rw [List.getD_eq_getElem?_getD, List.getElem?_eq_getElem hq, Option.getD_some, e] at this
          exact this
        · have job : ∀ j, j < (inTo t.jobs (w.set i (-1)) r w.length ++ [t.jobs.getD i default]).length → PJobOk ((inTo t.jobs (w.set i (-1)) r w.length ++ [t.jobs.getD i default]).getD j default) := fun j hj => by
            have m := p.mem_iff.2 (getD_mem hj)
            obtain ⟨q, hq, e⟩ := List.getElem_of_mem m
            have := ka.job q hq
            rw [List.getD_eq_getElem?_getD, List.getElem?_eq_getElem hq, Option.getD_some, e] at this
            exact this
          have a := prodJ_mono job hj (Nat.le_refl _) (prodJ_one job j hj)
          have b : prodJ (inTo t.jobs (w.set i (-1)) r w.length ++ [t.jobs.getD i default]) (inTo t.jobs (w.set i (-1)) r w.length ++ [t.jobs.getD i default]).length = prodJ (inTo t.jobs w r w.length) (inTo t.jobs w r w.length).length := by
            have tm : ∀ l : List PJob, prodJ l l.length = (l.map totalJ).foldr (· * ·) 1 := by
              intro l
              have : ∀ n, n ≤ l.length → prodJ l n = ((l.take n).map totalJ).foldr (· * ·) 1 := by
                intro n
                induction n with
                | zero => intro _; rw [List.take_zero]; rfl
                | succ n ih =>
                  intro hn
                  have fr : ∀ (A : List Int) (x : Int), (A ++ [x]).foldr (· * ·) 1 = A.foldr (· * ·) 1 * x := by
                    intro A x
                    induction A with
                    | nil => simp
                    | cons a A ih => rw [List.cons_append, List.foldr_cons, List.foldr_cons, ih, Int.mul_assoc]
                  rw [prodJ, ih (by omega), take_snocP (by omega), List.map_append, List.map_cons, List.map_nil, fr]
              have := this _ (Nat.le_refl _)
              rwa [List.take_length] at this
            rw [tm, tm]
            exact ((p.map totalJ).symm).foldr_eq' (fun x _ y _ z => by rw [← Int.mul_assoc, ← Int.mul_assoc, Int.mul_comm x y]) 1
          have c := ka.prod _ (Nat.le_refl _)
          omega
      rw [fits_perm p ka kc] at f
      exact fits_prefix kc (chanceR_pos ok.most) f
    · rw [if_neg hc, List.append_nil] at p
      rw [fits_perm p ka kb] at f
      exact f
  · unfold apartG at h ⊢
    rw [wl]
    exact (keys_nodup _).2 (((keys_nodup _).1 h.2).sublist (keys_out hi _))
/-! ### one rack more -/
theorem more_getD {rs : List PRack} {q : PRack} {r : Nat} (h : r < rs.length) : (rs ++ [q]).getD r default = rs.getD r default := by rw [snoc_getP, if_pos h]
theorem more_law {jobs : List PJob} {rs : List PRack} {m : PRat} {q : PRack} (rd : readyG ⟨jobs, rs, m⟩ = 0) (hq : rackR q = true) (h4 : rs.length ≤ 4) : readyG ⟨jobs, rs ++ [q], m⟩ = 0 ∧ (bestP ⟨jobs, rs, m⟩).2.1 ≤ (bestP ⟨jobs, rs ++ [q], m⟩).2.1 := by
  obtain ⟨ok, lok⟩ := ready_ok rd
  have ok2 : TaskOk ⟨jobs, rs ++ [q], m⟩ := ⟨ok.few, by dsimp only; rw [List.length_append]; simp, by dsimp only; rw [List.length_append]; simp; omega, ok.job, each_snoc (Q := fun r => rackR r = true) ok.rack hq, ok.most⟩
  have rd2 : readyG ⟨jobs, rs ++ [q], m⟩ = 0 := by rw [readyG, if_neg (by rw [pcheck_iff.2 ok2]; decide)]; exact listed_ok.2 lok
  refine ⟨rd2, ?_⟩
  obtain ⟨⟨b1, b2, b3⟩, _, _⟩ := best_law rd
  obtain ⟨_, _, b4⟩ := best_law rd2
  obtain ⟨_, wok, wl, _⟩ := formed_iff b1
  generalize (bestP ⟨jobs, rs, m⟩).1 = w at b1 b2 b3 wok wl
  rw [← b3]
  have wok2 : WOk ⟨jobs, rs ++ [q], m⟩ w := ⟨wok.len, fun i hi => by
    have := wok.rng i hi
    dsimp only at this ⊢
    rw [List.length_append, show ([q] : List PRack).length = 1 from rfl]; omega⟩
  have ew : worthG ⟨jobs, rs, m⟩ w = worthG ⟨jobs, rs ++ [q], m⟩ w := by
    unfold worthG
    have : ∀ n, worthTo ⟨jobs, rs, m⟩ w n = worthTo ⟨jobs, rs ++ [q], m⟩ w n := by
      intro n
      induction n with
      | zero => rfl
      | succ n ih => rw [worthTo, worthTo, ih]
    exact this _
  rw [ew]
  have hf := formed_of ok2 lok wok2 wl
  refine b4 w hf ?_
  rw [allowed_iff] at b2 ⊢
  refine ⟨fun r hr => ?_, ?_⟩
  · dsimp only at hr
    rw [List.length_append] at hr
    by_cases hc : r < rs.length
    · have := b2.1 r hc
      unfold fitAt at this ⊢
      dsimp only at this ⊢
      rw [more_getD hc]; exact this
    · have hre : r = rs.length := by simp at hr; omega
      have e : inL ⟨jobs, rs ++ [q], m⟩ w r = [] := by
        unfold inL
        have : ∀ n, n ≤ w.length → inTo jobs w (r : Int) n = [] := by
          intro n
          induction n with
          | zero => intro _; rfl
          | succ n ih =>
            intro hn
            have := wok.rng n (by omega)
            dsimp only at this
            rw [inTo, ih (by omega), if_neg (by omega)]; rfl
        exact this _ (Nat.le_refl _)
      unfold fitAt
      rw [e]
      dsimp only
      rw [hre, snoc_getP, if_neg (by omega), if_pos rfl]
      exact fits_nil hq (chanceR_rng ok.most).1.1
  · have ek : ∀ n, n ≤ w.length → keysTo ⟨jobs, rs ++ [q], m⟩ w n = keysTo ⟨jobs, rs, m⟩ w n := by
      intro n
      induction n with
      | zero => intro _; rfl
      | succ n ih =>
        intro hn
        rw [keysTo, keysTo, ih (by omega)]
        congr 1
        have e1 : skipK ⟨jobs, rs ++ [q], m⟩ w n = skipK ⟨jobs, rs, m⟩ w n := rfl
        rw [e1]
        cases hs : skipK ⟨jobs, rs, m⟩ w n with
        | true => rfl
        | false =>
          rw [if_neg (by decide), if_neg (by decide)]
          have := wok.rng n (by omega)
          dsimp only at this
          unfold skipK at hs
          rw [Bool.or_eq_false_iff, decide_eq_false_iff_not] at hs
          unfold keyOf
          dsimp only
          rw [more_getD (by omega)]
    unfold apartG at b2 ⊢
    rw [keys_nodup, ek _ (Nat.le_refl _), ← keys_nodup]
    exact b2.2
/-! ### what is left and what was taken -/
def addR (t : PTask) (w : List Int) (r n : Nat) : PRow := ⟨(rowG t w r).a + needK (inTo t.jobs w r n) 0 (inTo t.jobs w r n).length, (rowG t w r).b + needK (inTo t.jobs w r n) 1 (inTo t.jobs w r n).length, (rowG t w r).c + needK (inTo t.jobs w r n) 2 (inTo t.jobs w r n).length, (rowG t w r).d + topK (inTo t.jobs w r n) (inTo t.jobs w r n).length⟩
theorem addR_zero (t : PTask) (w : List Int) (r : Nat) : addR t w r 0 = rowG t w r := by
  unfold addR inTo
  simp only [List.length_nil, needK, topK, Int.add_zero]
theorem topK_last (l : List PJob) (x : PJob) : topK (l ++ [x]) (l ++ [x]).length = topK l l.length + topJ x := by
  have app : ∀ i, i ≤ l.length → topK (l ++ [x]) i = topK l i := by
    intro i
    induction i with
    | zero => intro _; rfl
    | succ i ih => intro h; rw [topK, topK, ih (by omega), List.getD_eq_getElem?_getD, List.getElem?_append_left (by omega), ← List.getD_eq_getElem?_getD]
  rw [List.length_append, show ([x] : List PJob).length = 1 from rfl, topK, app _ (Nat.le_refl _), List.getD_eq_getElem?_getD, List.getElem?_append_right (Nat.le_refl _), Nat.sub_self]; rfl
theorem addR_in {t : PTask} {w : List Int} {r n : Nat} (h : w.getD n default = (r : Int)) : addR t w r (n + 1) = ⟨(addR t w r n).a + (t.jobs.getD n default).n0, (addR t w r n).b + (t.jobs.getD n default).n1, (addR t w r n).c + (t.jobs.getD n default).n2, (addR t w r n).d + topJ (t.jobs.getD n default)⟩ := by
  unfold addR
  rw [inTo, if_pos h, need_last, need_last, need_last, topK_last]
  dsimp only [needOf]
  simp only [Int.add_assoc]
theorem addR_out {t : PTask} {w : List Int} {r n : Nat} (h : ¬ w.getD n default = (r : Int)) : addR t w r (n + 1) = addR t w r n := by
  unfold addR
  rw [inTo, if_neg h, List.append_nil]
theorem addR_all {t : PTask} {w : List Int} {r : Nat} : addR t w r w.length = ⟨(t.racks.getD r default).r0, (t.racks.getD r default).r1, (t.racks.getD r default).r2, (t.racks.getD r default).cap⟩ := by
  unfold addR rowG leftR inL
  dsimp only
  congr 1 <;> omega
theorem addR_rng {t : PTask} (ok : TaskOk t) (lok : ListOk t.jobs) {w : List Int} (hw : w.length ≤ t.jobs.length) {r n : Nat} (hr : r < t.racks.length) (hn : n ≤ w.length) : (-8000000 ≤ (addR t w r n).a ∧ (addR t w r n).a ≤ 9000000) ∧ (-8000000 ≤ (addR t w r n).b ∧ (addR t w r n).b ≤ 9000000) ∧ (-8000000 ≤ (addR t w r n).c ∧ (addR t w r n).c ≤ 9000000) ∧ (-8000000 ≤ (addR t w r n).d ∧ (addR t w r n).d ≤ 9000000) := by
  have rr := ok.rack r hr
  unfold rackR at rr
  rw [Bool.and_eq_true, Bool.and_eq_true] at rr
  have q3 := pin_three.1 rr.1.1
  have q1 := pin_one.1 rr.1.2
  have k1 := inL_ok lok hw (r : Int)
  have k2 := lok.inTo w (r : Int) (n := n) (by omega)
  have n1 := need_rng k1 _ (Nat.le_refl _)
  have n2 := need_rng k2 _ (Nat.le_refl _)
  have t1 := topK_rng k1.job _ (Nat.le_refl _)
  have t2 := topK_rng k2.job _ (Nat.le_refl _)
  have f1 := k1.few
  have f2 := k2.few
  unfold addR rowG leftR
  dsimp only
  omega
theorem set_row {L : List PRow} {i : Nat} {x : PRow} (hi : i < L.length) : ∃ L', L' = L.set i x ∧ L'.length = L.length ∧ L'.getD i default = x ∧ ∀ r, i < r → L'.getD r default = L.getD r default := by
  refine ⟨_, rfl, List.length_set, ?_, fun r hr => ?_⟩
  · rw [getD_setK, if_pos ⟨rfl, hi⟩]
  · rw [getD_setK, if_neg (by omega)]
end Go.X

/- Arguments that are slices of bools, opened. No condition. -/
set_option linter.unusedVariables false
namespace Go.X
open Go.ChangeShapes Go.WideShapes Go.Deep
end Go.X

/- append of a make onto nothing; an owned slice cut at its end; capacity. No condition. -/
set_option linter.unusedVariables false
namespace Go.X
section
variable {P : Program} {ops : Array Oper} {e : Env} {o r : List PHeap} {d : Option Tmp} {ty : TypeId} {pos : String} {aft : Array Edge}
variable {α : Type} {enc : α → List Value} {sz : Nat} {h : PHeap} {xs : List α} {v : Value}
end
section
variable {c : Cx} {ops : Array Oper} {rest : List Oper} {k : List Item} {e : Env} {o r : List PHeap} {d : Nat} {ty : TypeId} {pos : String} {aft : Array Edge} {α : Type} {sz : Nat}
end
end Go.X

/- The place of an entry of an array that is an element. No condition. -/
set_option linter.unusedVariables false
namespace Go.X
variable {P : Program} {ops : Array Oper} {e : Env} {o r : List PHeap} {d : Option Tmp} {ty : TypeId} {pos : String} {aft : Array Edge}
variable {α : Type} {enc : α → List Value} {sz : Nat} {h : PHeap} {xs : List α} {v : Value}
theorem Q.ixE {t el len s2 : TypeId} [u : Und P t (.array len el)] [z : TySize P el s2] {x y : Operand} {k : IntKind} {n : Int} {i j kk : Nat} (hx : ev e x = some (pat v sz i kk)) [s : Arr v enc sz h xs] (hi : i < xs.length) (hy : ev e y = some (.int k n))
    [ix : Idx n j] (h0 : 0 ≤ n) (h1 : n < len) : Quiet P ops ⟨d, .indexAddr t x y, ty, pos, aft, none⟩ e o r (pat v sz i (kk + j * s2)) := .mk fun a w he _ => by
  have hn := ix.pf h0
  subst hn
  obtain ⟨b, k0, cs, T, fr, c, hv, _, hp, _⟩ := s.at' hi
  have hx' := ev_rel he hx
  rw [hp] at hx'
  rw [hp]
  simp only [execOp, hx', ev_rel he hy]
  refine run_val ?_
  unfold Instr.indexAt
  rw [bind_ok (a := (k, (j : Int))) (w1 := w) rfl]
  simp only
  rw [bind_ok (u.pf w)]
  simp only
  rw [bind_ok (a := (⟨b, k0 + (i * sz + kk), none⟩ : Addr)) (w1 := w) rfl]
  rw [bind_ok (a := (some (⟨b, k0 + (i * sz + kk), none⟩ : Addr), len, el)) (w1 := w) rfl]
  rw [bind_ok (u.pf w)]
  simp only
  rw [if_pos ⟨h0, h1⟩]
  rw [bind_ok (z.pf w)]
  simp [add_none, pure, Sem.run, Nat.add_assoc]
theorem for4 {f : Nat → Option Bool × PUnit → Sem (ForInStep (Option Bool × PUnit))} {b0 b1 b2 b3 b4 : Option Bool × PUnit} {w : World} (h0 : (f 0 b0).run P w = .ok (.yield b1) w) (h1 : (f 1 b1).run P w = .ok (.yield b2) w) (h2 : (f 2 b2).run P w = .ok (.yield b3) w) (h3 : (f 3 b3).run P w = .ok (.yield b4) w) :
    (forIn (m := Sem) [0, 1, 2, 3] b0 f).run P w = .ok b4 w := by
  rw [List.forIn_cons, bind_ok h0]
  show (forIn (m := Sem) [1, 2, 3] b1 f).run P w = _
  rw [List.forIn_cons, bind_ok h1]
  show (forIn (m := Sem) [2, 3] b2 f).run P w = _
  rw [List.forIn_cons, bind_ok h2]
  show (forIn (m := Sem) [3] b3 f).run P w = _
  rw [List.forIn_cons, bind_ok h3]
  rfl
theorem run_eqQuad {t el : TypeId} {ki : IntKind} (u : Und P t (.array 4 el)) (ht : IsAgg P el false) (s : TySize P el 1) (ui : Und P el (.int ki)) (a b c f : Int) (d : Nat) (w : World) :
    (Op.equalIn (d + 2) t (.agg #[.int .i64 a, .int .i64 b, .int .i64 c, .int .i64 f]) (.agg #[.int .i64 a, .int .i64 b, .int .i64 c, .int .i64 f])).run P w = .ok true w := by
  unfold Op.equalIn
  rw [bind_ok (u.pf w)]
  simp only
  rw [bind_ok (s.pf w)]
  simp only [Std.Legacy.Range.forIn_eq_forIn_range', Std.Legacy.Range.size, Nat.sub_zero, Nat.add_one_sub_one, Nat.div_one]
  show ((forIn (m := Sem) [0, 1, 2, 3] _ _) >>= _).run P w = _
  have p0 : (part el #[Value.int .i64 a, .int .i64 b, .int .i64 c, .int .i64 f] (0 * 1)).run P w = .ok (.int .i64 a) w := run_part (ht := ht) rfl w
  have p1 : (part el #[Value.int .i64 a, .int .i64 b, .int .i64 c, .int .i64 f] (1 * 1)).run P w = .ok (.int .i64 b) w := run_part (ht := ht) rfl w
  have p2 : (part el #[Value.int .i64 a, .int .i64 b, .int .i64 c, .int .i64 f] (2 * 1)).run P w = .ok (.int .i64 c) w := run_part (ht := ht) rfl w
  have p3 : (part el #[Value.int .i64 a, .int .i64 b, .int .i64 c, .int .i64 f] (3 * 1)).run P w = .ok (.int .i64 f) w := run_part (ht := ht) rfl w
  rw [bind_ok (a := (none, ())) (w1 := w) (for4 (b1 := (none, ())) (b2 := (none, ())) (b3 := (none, ())) ?_ ?_ ?_ ?_)]
  · rfl
  · rw [bind_ok p0, bind_ok p0, bind_ok (run_eqInt (u := ui) w)]
    simp only [beq_self_eq_true, Bool.not_true, Bool.false_eq_true, if_false]; rfl
  · rw [bind_ok p1, bind_ok p1, bind_ok (run_eqInt (u := ui) w)]
    simp only [beq_self_eq_true, Bool.not_true, Bool.false_eq_true, if_false]; rfl
  · rw [bind_ok p2, bind_ok p2, bind_ok (run_eqInt (u := ui) w)]
    simp only [beq_self_eq_true, Bool.not_true, Bool.false_eq_true, if_false]; rfl
  · rw [bind_ok p3, bind_ok p3, bind_ok (run_eqInt (u := ui) w)]
    simp only [beq_self_eq_true, Bool.not_true, Bool.false_eq_true, if_false]; rfl
/-- Four numbers compared with themselves. -/
theorem Q.neqQ {t t2 el : TypeId} {ki : IntKind} {x y : Operand} {a b c f a' b' c' f' : Int} (hx : ev e x = some (.agg #[.int .i64 a, .int .i64 b, .int .i64 c, .int .i64 f])) (hy : ev e y = some (.agg #[.int .i64 a', .int .i64 b', .int .i64 c', .int .i64 f'])) (ha : a' = a) (hb : b' = b) (hc : c' = c) (hf : f' = f) (u : Und P t (.array 4 el)) (ht : IsAgg P el false) (s : TySize P el 1) (ui : Und P el (.int ki)) (hg : P.eqGuardType P.depth t = false) :
    Quiet P ops ⟨d, .binOp .neq t x y t2, ty, pos, aft, none⟩ e o r (.bool false) := .mk fun s' w he _ => by
  subst ha hb hc hf
  simp only [execOp, ev_rel he hx, ev_rel he hy]
  refine run_val ?_
  rw [bind_ok (run_guardAgg hg (.inr rfl) w)]
  unfold binOp
  simp only
  have h1 : (Op.equal t (.agg #[.int .i64 a', .int .i64 b', .int .i64 c', .int .i64 f']) (.agg #[.int .i64 a', .int .i64 b', .int .i64 c', .int .i64 f'])).run P w = .ok true w := run_eqQuad (d := 9998) u ht s ui a' b' c' f' w
  rw [bind_ok h1]
  rfl
end Go.X

/- The type table of this seat as instances; written by program. No condition. -/
namespace Go.X
open Go.Proofs
set_option maxRecDepth 10000
instance : Und Try.prog 0 (Go.TypeDesc.tuple #[]) := ⟨Try.runUnderlying0⟩
instance : IsAgg Try.prog 0 false := ⟨Try.isAgg0⟩
instance : TySize Try.prog 0 1 := ⟨Try.sizeOf0⟩
instance : TyBytes Try.prog 0 0 := ⟨_, Try.typeInfo0, rfl⟩
instance : Zero Try.prog 0 [(Go.Value.tuple #[])] := ⟨_, Try.zeroValue0, rfl⟩
instance : Und Try.prog 1 (Go.TypeDesc.func #[] #[] Bool.false) := ⟨Try.runUnderlying1⟩
instance : IsAgg Try.prog 1 false := ⟨Try.isAgg1⟩
instance : TySize Try.prog 1 1 := ⟨Try.sizeOf1⟩
instance : TyBytes Try.prog 1 8 := ⟨_, Try.typeInfo1, rfl⟩
instance : Zero Try.prog 1 [Go.Value.nilFunc] := ⟨_, Try.zeroValue1, rfl⟩
instance : Und Try.prog 2 (Go.TypeDesc.int Go.IntKind.i64) := ⟨Try.runUnderlying2⟩
instance : IsAgg Try.prog 2 false := ⟨Try.isAgg2⟩
instance : TySize Try.prog 2 1 := ⟨Try.sizeOf2⟩
instance : TyBytes Try.prog 2 8 := ⟨_, Try.typeInfo2, rfl⟩
instance : Zero Try.prog 2 [(Go.Value.int Go.IntKind.i64 0)] := ⟨_, Try.zeroValue2, rfl⟩
instance : Und Try.prog 3 (Go.TypeDesc.int Go.IntKind.i64) := ⟨Try.runUnderlying3⟩
instance : IsAgg Try.prog 3 false := ⟨Try.isAgg3⟩
instance : TySize Try.prog 3 1 := ⟨Try.sizeOf3⟩
instance : TyBytes Try.prog 3 8 := ⟨_, Try.typeInfo3, rfl⟩
instance : Zero Try.prog 3 [(Go.Value.int Go.IntKind.i64 0)] := ⟨_, Try.zeroValue3, rfl⟩
instance : Und Try.prog 4 Go.TypeDesc.bool := ⟨Try.runUnderlying4⟩
instance : IsAgg Try.prog 4 false := ⟨Try.isAgg4⟩
instance : TySize Try.prog 4 1 := ⟨Try.sizeOf4⟩
instance : TyBytes Try.prog 4 1 := ⟨_, Try.typeInfo4, rfl⟩
instance : Zero Try.prog 4 [(Go.Value.bool Bool.false)] := ⟨_, Try.zeroValue4, rfl⟩
instance : Und Try.prog 5 (Go.TypeDesc.int Go.IntKind.u8) := ⟨Try.runUnderlying5⟩
instance : IsAgg Try.prog 5 false := ⟨Try.isAgg5⟩
instance : TySize Try.prog 5 1 := ⟨Try.sizeOf5⟩
instance : TyBytes Try.prog 5 1 := ⟨_, Try.typeInfo5, rfl⟩
instance : Zero Try.prog 5 [(Go.Value.int Go.IntKind.u8 0)] := ⟨_, Try.zeroValue5, rfl⟩
instance : Und Try.prog 9 Go.TypeDesc.string := ⟨Try.runUnderlying9⟩
instance : IsAgg Try.prog 9 false := ⟨Try.isAgg9⟩
instance : TySize Try.prog 9 1 := ⟨Try.sizeOf9⟩
instance : TyBytes Try.prog 9 16 := ⟨_, Try.typeInfo9, rfl⟩
instance : Zero Try.prog 9 [(Go.Value.string (ByteArray.mk #[]))] := ⟨_, Try.zeroValue9, rfl⟩
instance : Und Try.prog 22 (Go.TypeDesc.slice 5) := ⟨Try.runUnderlying22⟩
instance : IsAgg Try.prog 22 false := ⟨Try.isAgg22⟩
instance : TySize Try.prog 22 1 := ⟨Try.sizeOf22⟩
instance : TyBytes Try.prog 22 24 := ⟨_, Try.typeInfo22, rfl⟩
instance : Zero Try.prog 22 [(Go.Value.slice none 0 0)] := ⟨_, Try.zeroValue22, rfl⟩
instance : Und Try.prog 23 (Go.TypeDesc.slice 39) := ⟨Try.runUnderlying23⟩
instance : IsAgg Try.prog 23 false := ⟨Try.isAgg23⟩
instance : TySize Try.prog 23 1 := ⟨Try.sizeOf23⟩
instance : TyBytes Try.prog 23 24 := ⟨_, Try.typeInfo23, rfl⟩
instance : Zero Try.prog 23 [(Go.Value.slice none 0 0)] := ⟨_, Try.zeroValue23, rfl⟩
instance : Und Try.prog 24 (Go.TypeDesc.slice 62) := ⟨Try.runUnderlying24⟩
instance : IsAgg Try.prog 24 false := ⟨Try.isAgg24⟩
instance : TySize Try.prog 24 1 := ⟨Try.sizeOf24⟩
instance : TyBytes Try.prog 24 24 := ⟨_, Try.typeInfo24, rfl⟩
instance : Zero Try.prog 24 [(Go.Value.slice none 0 0)] := ⟨_, Try.zeroValue24, rfl⟩
instance : Und Try.prog 26 (Go.TypeDesc.struct #[(Go.Field.mk "N" 3 0 Bool.false "" "" 0), (Go.Field.mk "D" 3 1 Bool.false "" "" 8)]) := ⟨Try.runUnderlying26⟩
instance : IsAgg Try.prog 26 true := ⟨Try.isAgg26⟩
instance : TySize Try.prog 26 2 := ⟨Try.sizeOf26⟩
instance : TyBytes Try.prog 26 16 := ⟨_, Try.typeInfo26, rfl⟩
instance : Zero Try.prog 26 [(Go.Value.int Go.IntKind.i64 0), (Go.Value.int Go.IntKind.i64 0)] := ⟨_, Try.zeroValue26, rfl⟩
instance : Fld Try.prog 26 0 0 := Fld.of (n := 1) ⟨Try.runUnderlying26⟩ rfl ⟨Try.sizeOf3⟩ (by decide) rfl
instance : Fld Try.prog 26 1 1 := Fld.of (n := 1) ⟨Try.runUnderlying26⟩ rfl ⟨Try.sizeOf3⟩ (by decide) rfl
instance : Places Try.prog 26 (fun i => ([(0, 1), (1, 1)] : List (Nat × Nat))[i]?) := Places.struct ⟨Try.runUnderlying26⟩ (.c Try.sizeOf3 (.c Try.sizeOf3 .n))
instance : Und Try.prog 28 (Go.TypeDesc.struct #[(Go.Field.mk "Jobs" 23 0 Bool.false "" "" 0), (Go.Field.mk "Racks" 24 1 Bool.false "" "" 24), (Go.Field.mk "Most" 26 2 Bool.false "" "" 48)]) := ⟨Try.runUnderlying28⟩
instance : IsAgg Try.prog 28 true := ⟨Try.isAgg28⟩
instance : TySize Try.prog 28 4 := ⟨Try.sizeOf28⟩
instance : TyBytes Try.prog 28 64 := ⟨_, Try.typeInfo28, rfl⟩
instance : Zero Try.prog 28 [(Go.Value.slice none 0 0), (Go.Value.slice none 0 0), (Go.Value.int Go.IntKind.i64 0), (Go.Value.int Go.IntKind.i64 0)] := ⟨_, Try.zeroValue28, rfl⟩
instance : Fld Try.prog 28 0 0 := Fld.of (n := 1) ⟨Try.runUnderlying28⟩ rfl ⟨Try.sizeOf23⟩ (by decide) rfl
instance : Fld Try.prog 28 1 1 := Fld.of (n := 1) ⟨Try.runUnderlying28⟩ rfl ⟨Try.sizeOf24⟩ (by decide) rfl
instance : Fld Try.prog 28 2 2 := Fld.of (n := 2) ⟨Try.runUnderlying28⟩ rfl ⟨Try.sizeOf26⟩ (by decide) rfl
instance : Places Try.prog 28 (fun i => ([(0, 1), (1, 1), (2, 2)] : List (Nat × Nat))[i]?) := Places.struct ⟨Try.runUnderlying28⟩ (.c Try.sizeOf23 (.c Try.sizeOf24 (.c Try.sizeOf26 .n)))
instance : Und Try.prog 30 (Go.TypeDesc.slice 41) := ⟨Try.runUnderlying30⟩
instance : IsAgg Try.prog 30 false := ⟨Try.isAgg30⟩
instance : TySize Try.prog 30 1 := ⟨Try.sizeOf30⟩
instance : TyBytes Try.prog 30 24 := ⟨_, Try.typeInfo30, rfl⟩
instance : Zero Try.prog 30 [(Go.Value.slice none 0 0)] := ⟨_, Try.zeroValue30, rfl⟩
instance : Und Try.prog 31 (Go.TypeDesc.int Go.IntKind.i64) := ⟨Try.runUnderlying31⟩
instance : IsAgg Try.prog 31 false := ⟨Try.isAgg31⟩
instance : TySize Try.prog 31 1 := ⟨Try.sizeOf31⟩
instance : TyBytes Try.prog 31 8 := ⟨_, Try.typeInfo31, rfl⟩
instance : Zero Try.prog 31 [(Go.Value.int Go.IntKind.i64 0)] := ⟨_, Try.zeroValue31, rfl⟩
instance : Und Try.prog 36 (Go.TypeDesc.slice 3) := ⟨Try.runUnderlying36⟩
instance : IsAgg Try.prog 36 false := ⟨Try.isAgg36⟩
instance : TySize Try.prog 36 1 := ⟨Try.sizeOf36⟩
instance : TyBytes Try.prog 36 24 := ⟨_, Try.typeInfo36, rfl⟩
instance : Zero Try.prog 36 [(Go.Value.slice none 0 0)] := ⟨_, Try.zeroValue36, rfl⟩
instance : Und Try.prog 37 (Go.TypeDesc.array 3 3) := ⟨Try.runUnderlying37⟩
instance : IsAgg Try.prog 37 true := ⟨Try.isAgg37⟩
instance : TySize Try.prog 37 3 := ⟨Try.sizeOf37⟩
instance : TyBytes Try.prog 37 24 := ⟨_, Try.typeInfo37, rfl⟩
instance : Zero Try.prog 37 [(Go.Value.int Go.IntKind.i64 0), (Go.Value.int Go.IntKind.i64 0), (Go.Value.int Go.IntKind.i64 0)] := ⟨_, Try.zeroValue37, rfl⟩
instance : Places Try.prog 37 (fun i => some (i * 1, 1)) := Places.array ⟨Try.runUnderlying37⟩ ⟨Try.sizeOf3⟩
instance : Und Try.prog 39 (Go.TypeDesc.struct #[(Go.Field.mk "Need" 37 0 Bool.false "" "" 0), (Go.Field.mk "Draws" 30 3 Bool.false "" "" 24), (Go.Field.mk "Group" 3 4 Bool.false "" "" 48), (Go.Field.mk "Worth" 3 5 Bool.false "" "" 56)]) := ⟨Try.runUnderlying39⟩
instance : IsAgg Try.prog 39 true := ⟨Try.isAgg39⟩
instance : TySize Try.prog 39 6 := ⟨Try.sizeOf39⟩
instance : TyBytes Try.prog 39 64 := ⟨_, Try.typeInfo39, rfl⟩
instance : Zero Try.prog 39 [(Go.Value.int Go.IntKind.i64 0), (Go.Value.int Go.IntKind.i64 0), (Go.Value.int Go.IntKind.i64 0), (Go.Value.slice none 0 0), (Go.Value.int Go.IntKind.i64 0), (Go.Value.int Go.IntKind.i64 0)] := ⟨_, Try.zeroValue39, rfl⟩
instance : Fld Try.prog 39 0 0 := Fld.of (n := 3) ⟨Try.runUnderlying39⟩ rfl ⟨Try.sizeOf37⟩ (by decide) rfl
instance : Fld Try.prog 39 1 3 := Fld.of (n := 1) ⟨Try.runUnderlying39⟩ rfl ⟨Try.sizeOf30⟩ (by decide) rfl
instance : Fld Try.prog 39 2 4 := Fld.of (n := 1) ⟨Try.runUnderlying39⟩ rfl ⟨Try.sizeOf3⟩ (by decide) rfl
instance : Fld Try.prog 39 3 5 := Fld.of (n := 1) ⟨Try.runUnderlying39⟩ rfl ⟨Try.sizeOf3⟩ (by decide) rfl
instance : Places Try.prog 39 (fun i => ([(0, 3), (3, 1), (4, 1), (5, 1)] : List (Nat × Nat))[i]?) := Places.struct ⟨Try.runUnderlying39⟩ (.c Try.sizeOf37 (.c Try.sizeOf30 (.c Try.sizeOf3 (.c Try.sizeOf3 .n))))
instance : Und Try.prog 41 (Go.TypeDesc.struct #[(Go.Field.mk "Power" 3 0 Bool.false "" "" 0), (Go.Field.mk "Count" 3 1 Bool.false "" "" 8)]) := ⟨Try.runUnderlying41⟩
instance : IsAgg Try.prog 41 true := ⟨Try.isAgg41⟩
instance : TySize Try.prog 41 2 := ⟨Try.sizeOf41⟩
instance : TyBytes Try.prog 41 16 := ⟨_, Try.typeInfo41, rfl⟩
instance : Zero Try.prog 41 [(Go.Value.int Go.IntKind.i64 0), (Go.Value.int Go.IntKind.i64 0)] := ⟨_, Try.zeroValue41, rfl⟩
instance : Fld Try.prog 41 0 0 := Fld.of (n := 1) ⟨Try.runUnderlying41⟩ rfl ⟨Try.sizeOf3⟩ (by decide) rfl
instance : Fld Try.prog 41 1 1 := Fld.of (n := 1) ⟨Try.runUnderlying41⟩ rfl ⟨Try.sizeOf3⟩ (by decide) rfl
instance : Places Try.prog 41 (fun i => ([(0, 1), (1, 1)] : List (Nat × Nat))[i]?) := Places.struct ⟨Try.runUnderlying41⟩ (.c Try.sizeOf3 (.c Try.sizeOf3 .n))
instance : Und Try.prog 44 (Go.TypeDesc.slice 4) := ⟨Try.runUnderlying44⟩
instance : IsAgg Try.prog 44 false := ⟨Try.isAgg44⟩
instance : TySize Try.prog 44 1 := ⟨Try.sizeOf44⟩
instance : TyBytes Try.prog 44 24 := ⟨_, Try.typeInfo44, rfl⟩
instance : Zero Try.prog 44 [(Go.Value.slice none 0 0)] := ⟨_, Try.zeroValue44, rfl⟩
instance : Und Try.prog 46 (Go.TypeDesc.struct #[(Go.Field.mk "Where" 36 0 Bool.false "" "" 0), (Go.Field.mk "Worth" 3 1 Bool.false "" "" 24), (Go.Field.mk "Proof" 44 2 Bool.false "" "" 32)]) := ⟨Try.runUnderlying46⟩
instance : IsAgg Try.prog 46 true := ⟨Try.isAgg46⟩
instance : TySize Try.prog 46 3 := ⟨Try.sizeOf46⟩
instance : TyBytes Try.prog 46 56 := ⟨_, Try.typeInfo46, rfl⟩
instance : Zero Try.prog 46 [(Go.Value.slice none 0 0), (Go.Value.int Go.IntKind.i64 0), (Go.Value.slice none 0 0)] := ⟨_, Try.zeroValue46, rfl⟩
instance : Fld Try.prog 46 0 0 := Fld.of (n := 1) ⟨Try.runUnderlying46⟩ rfl ⟨Try.sizeOf36⟩ (by decide) rfl
instance : Fld Try.prog 46 1 1 := Fld.of (n := 1) ⟨Try.runUnderlying46⟩ rfl ⟨Try.sizeOf3⟩ (by decide) rfl
instance : Fld Try.prog 46 2 2 := Fld.of (n := 1) ⟨Try.runUnderlying46⟩ rfl ⟨Try.sizeOf44⟩ (by decide) rfl
instance : Places Try.prog 46 (fun i => ([(0, 1), (1, 1), (2, 1)] : List (Nat × Nat))[i]?) := Places.struct ⟨Try.runUnderlying46⟩ (.c Try.sizeOf36 (.c Try.sizeOf3 (.c Try.sizeOf44 .n)))
instance : Und Try.prog 52 (Go.TypeDesc.struct #[(Go.Field.mk "l" 22 0 Bool.false "" "switchgear/switchgearlaw09" 0), (Go.Field.mk "i" 3 1 Bool.false "" "switchgear/switchgearlaw09" 24)]) := ⟨Try.runUnderlying52⟩
instance : IsAgg Try.prog 52 true := ⟨Try.isAgg52⟩
instance : TySize Try.prog 52 2 := ⟨Try.sizeOf52⟩
instance : TyBytes Try.prog 52 32 := ⟨_, Try.typeInfo52, rfl⟩
instance : Zero Try.prog 52 [(Go.Value.slice none 0 0), (Go.Value.int Go.IntKind.i64 0)] := ⟨_, Try.zeroValue52, rfl⟩
instance : Fld Try.prog 52 0 0 := Fld.of (n := 1) ⟨Try.runUnderlying52⟩ rfl ⟨Try.sizeOf22⟩ (by decide) rfl
instance : Fld Try.prog 52 1 1 := Fld.of (n := 1) ⟨Try.runUnderlying52⟩ rfl ⟨Try.sizeOf3⟩ (by decide) rfl
instance : Places Try.prog 52 (fun i => ([(0, 1), (1, 1)] : List (Nat × Nat))[i]?) := Places.struct ⟨Try.runUnderlying52⟩ (.c Try.sizeOf22 (.c Try.sizeOf3 .n))
instance : Und Try.prog 56 (Go.TypeDesc.slice 44) := ⟨Try.runUnderlying56⟩
instance : IsAgg Try.prog 56 false := ⟨Try.isAgg56⟩
instance : TySize Try.prog 56 1 := ⟨Try.sizeOf56⟩
instance : TyBytes Try.prog 56 24 := ⟨_, Try.typeInfo56, rfl⟩
instance : Zero Try.prog 56 [(Go.Value.slice none 0 0)] := ⟨_, Try.zeroValue56, rfl⟩
instance : Und Try.prog 58 (Go.TypeDesc.slice 63) := ⟨Try.runUnderlying58⟩
instance : IsAgg Try.prog 58 false := ⟨Try.isAgg58⟩
instance : TySize Try.prog 58 1 := ⟨Try.sizeOf58⟩
instance : TyBytes Try.prog 58 24 := ⟨_, Try.typeInfo58, rfl⟩
instance : Zero Try.prog 58 [(Go.Value.slice none 0 0)] := ⟨_, Try.zeroValue58, rfl⟩
instance : Und Try.prog 62 (Go.TypeDesc.struct #[(Go.Field.mk "Room" 37 0 Bool.false "" "" 0), (Go.Field.mk "Cap" 3 3 Bool.false "" "" 24), (Go.Field.mk "Domain" 3 4 Bool.false "" "" 32)]) := ⟨Try.runUnderlying62⟩
instance : IsAgg Try.prog 62 true := ⟨Try.isAgg62⟩
instance : TySize Try.prog 62 5 := ⟨Try.sizeOf62⟩
instance : TyBytes Try.prog 62 40 := ⟨_, Try.typeInfo62, rfl⟩
instance : Zero Try.prog 62 [(Go.Value.int Go.IntKind.i64 0), (Go.Value.int Go.IntKind.i64 0), (Go.Value.int Go.IntKind.i64 0), (Go.Value.int Go.IntKind.i64 0), (Go.Value.int Go.IntKind.i64 0)] := ⟨_, Try.zeroValue62, rfl⟩
instance : Fld Try.prog 62 0 0 := Fld.of (n := 3) ⟨Try.runUnderlying62⟩ rfl ⟨Try.sizeOf37⟩ (by decide) rfl
instance : Fld Try.prog 62 1 3 := Fld.of (n := 1) ⟨Try.runUnderlying62⟩ rfl ⟨Try.sizeOf3⟩ (by decide) rfl
instance : Fld Try.prog 62 2 4 := Fld.of (n := 1) ⟨Try.runUnderlying62⟩ rfl ⟨Try.sizeOf3⟩ (by decide) rfl
instance : Places Try.prog 62 (fun i => ([(0, 3), (3, 1), (4, 1)] : List (Nat × Nat))[i]?) := Places.struct ⟨Try.runUnderlying62⟩ (.c Try.sizeOf37 (.c Try.sizeOf3 (.c Try.sizeOf3 .n)))
instance : Und Try.prog 63 (Go.TypeDesc.array 4 3) := ⟨Try.runUnderlying63⟩
instance : IsAgg Try.prog 63 true := ⟨Try.isAgg63⟩
instance : TySize Try.prog 63 4 := ⟨Try.sizeOf63⟩
instance : TyBytes Try.prog 63 32 := ⟨_, Try.typeInfo63, rfl⟩
instance : Zero Try.prog 63 [(Go.Value.int Go.IntKind.i64 0), (Go.Value.int Go.IntKind.i64 0), (Go.Value.int Go.IntKind.i64 0), (Go.Value.int Go.IntKind.i64 0)] := ⟨_, Try.zeroValue63, rfl⟩
instance : Places Try.prog 63 (fun i => some (i * 1, 1)) := Places.array ⟨Try.runUnderlying63⟩ ⟨Try.sizeOf3⟩
instance : Und Try.prog 74 (Go.TypeDesc.slice 26) := ⟨Try.runUnderlying74⟩
instance : IsAgg Try.prog 74 false := ⟨Try.isAgg74⟩
instance : TySize Try.prog 74 1 := ⟨Try.sizeOf74⟩
instance : TyBytes Try.prog 74 24 := ⟨_, Try.typeInfo74, rfl⟩
instance : Zero Try.prog 74 [(Go.Value.slice none 0 0)] := ⟨_, Try.zeroValue74, rfl⟩
instance : Und Try.prog 76 (Go.TypeDesc.map 3 3) := ⟨Try.runUnderlying76⟩
instance : IsAgg Try.prog 76 false := ⟨Try.isAgg76⟩
instance : TySize Try.prog 76 1 := ⟨Try.sizeOf76⟩
instance : TyBytes Try.prog 76 8 := ⟨_, Try.typeInfo76, rfl⟩
instance : Zero Try.prog 76 [(Go.Value.map none)] := ⟨_, Try.zeroValue76, rfl⟩
instance : Und Try.prog 87 (Go.TypeDesc.pointer 90) := ⟨Try.runUnderlying87⟩
instance : IsAgg Try.prog 87 false := ⟨Try.isAgg87⟩
instance : TySize Try.prog 87 1 := ⟨Try.sizeOf87⟩
instance : TyBytes Try.prog 87 8 := ⟨_, Try.typeInfo87, rfl⟩
instance : Zero Try.prog 87 [(Go.Value.pointer none)] := ⟨_, Try.zeroValue87, rfl⟩
instance : Und Try.prog 88 (Go.TypeDesc.map 122 4) := ⟨Try.runUnderlying88⟩
instance : IsAgg Try.prog 88 false := ⟨Try.isAgg88⟩
instance : TySize Try.prog 88 1 := ⟨Try.sizeOf88⟩
instance : TyBytes Try.prog 88 8 := ⟨_, Try.typeInfo88, rfl⟩
instance : Zero Try.prog 88 [(Go.Value.map none)] := ⟨_, Try.zeroValue88, rfl⟩
instance : Und Try.prog 90 (Go.TypeDesc.struct #[(Go.Field.mk "Task" 28 0 Bool.true "" "" 0), (Go.Field.mk "known" 88 4 Bool.false "" "switchgear/place" 64)]) := ⟨Try.runUnderlying90⟩
instance : IsAgg Try.prog 90 true := ⟨Try.isAgg90⟩
instance : TySize Try.prog 90 5 := ⟨Try.sizeOf90⟩
instance : TyBytes Try.prog 90 72 := ⟨_, Try.typeInfo90, rfl⟩
instance : Zero Try.prog 90 [(Go.Value.slice none 0 0), (Go.Value.slice none 0 0), (Go.Value.int Go.IntKind.i64 0), (Go.Value.int Go.IntKind.i64 0), (Go.Value.map none)] := ⟨_, Try.zeroValue90, rfl⟩
instance : Fld Try.prog 90 0 0 := Fld.of (n := 4) ⟨Try.runUnderlying90⟩ rfl ⟨Try.sizeOf28⟩ (by decide) rfl
instance : Fld Try.prog 90 1 4 := Fld.of (n := 1) ⟨Try.runUnderlying90⟩ rfl ⟨Try.sizeOf88⟩ (by decide) rfl
instance : Places Try.prog 90 (fun i => ([(0, 4), (4, 1)] : List (Nat × Nat))[i]?) := Places.struct ⟨Try.runUnderlying90⟩ (.c Try.sizeOf28 (.c Try.sizeOf88 .n))
instance : Und Try.prog 91 (Go.TypeDesc.func #[36] #[] Bool.false) := ⟨Try.runUnderlying91⟩
instance : IsAgg Try.prog 91 false := ⟨Try.isAgg91⟩
instance : TySize Try.prog 91 1 := ⟨Try.sizeOf91⟩
instance : TyBytes Try.prog 91 8 := ⟨_, Try.typeInfo91, rfl⟩
instance : Zero Try.prog 91 [Go.Value.nilFunc] := ⟨_, Try.zeroValue91, rfl⟩
instance : Und Try.prog 97 (Go.TypeDesc.func #[36] #[4] Bool.false) := ⟨Try.runUnderlying97⟩
instance : IsAgg Try.prog 97 false := ⟨Try.isAgg97⟩
instance : TySize Try.prog 97 1 := ⟨Try.sizeOf97⟩
instance : TyBytes Try.prog 97 8 := ⟨_, Try.typeInfo97, rfl⟩
instance : Zero Try.prog 97 [Go.Value.nilFunc] := ⟨_, Try.zeroValue97, rfl⟩
instance : Und Try.prog 101 (Go.TypeDesc.slice 127) := ⟨Try.runUnderlying101⟩
instance : IsAgg Try.prog 101 false := ⟨Try.isAgg101⟩
instance : TySize Try.prog 101 1 := ⟨Try.sizeOf101⟩
instance : TyBytes Try.prog 101 24 := ⟨_, Try.typeInfo101, rfl⟩
instance : Zero Try.prog 101 [(Go.Value.slice none 0 0)] := ⟨_, Try.zeroValue101, rfl⟩
instance : Und Try.prog 104 (Go.TypeDesc.slice 108) := ⟨Try.runUnderlying104⟩
instance : IsAgg Try.prog 104 false := ⟨Try.isAgg104⟩
instance : TySize Try.prog 104 1 := ⟨Try.sizeOf104⟩
instance : TyBytes Try.prog 104 24 := ⟨_, Try.typeInfo104, rfl⟩
instance : Zero Try.prog 104 [(Go.Value.slice none 0 0)] := ⟨_, Try.zeroValue104, rfl⟩
instance : Und Try.prog 108 (Go.TypeDesc.struct #[(Go.Field.mk "Power" 3 0 Bool.false "" "" 0), (Go.Field.mk "Count" 3 1 Bool.false "" "" 8)]) := ⟨Try.runUnderlying108⟩
instance : IsAgg Try.prog 108 true := ⟨Try.isAgg108⟩
instance : TySize Try.prog 108 2 := ⟨Try.sizeOf108⟩
instance : TyBytes Try.prog 108 16 := ⟨_, Try.typeInfo108, rfl⟩
instance : Zero Try.prog 108 [(Go.Value.int Go.IntKind.i64 0), (Go.Value.int Go.IntKind.i64 0)] := ⟨_, Try.zeroValue108, rfl⟩
instance : Fld Try.prog 108 0 0 := Fld.of (n := 1) ⟨Try.runUnderlying108⟩ rfl ⟨Try.sizeOf3⟩ (by decide) rfl
instance : Fld Try.prog 108 1 1 := Fld.of (n := 1) ⟨Try.runUnderlying108⟩ rfl ⟨Try.sizeOf3⟩ (by decide) rfl
instance : Places Try.prog 108 (fun i => ([(0, 1), (1, 1)] : List (Nat × Nat))[i]?) := Places.struct ⟨Try.runUnderlying108⟩ (.c Try.sizeOf3 (.c Try.sizeOf3 .n))
instance : Und Try.prog 113 (Go.TypeDesc.struct #[(Go.Field.mk "Room" 37 0 Bool.false "" "" 0), (Go.Field.mk "Cap" 3 3 Bool.false "" "" 24), (Go.Field.mk "Domain" 3 4 Bool.false "" "" 32)]) := ⟨Try.runUnderlying113⟩
instance : IsAgg Try.prog 113 true := ⟨Try.isAgg113⟩
instance : TySize Try.prog 113 5 := ⟨Try.sizeOf113⟩
instance : TyBytes Try.prog 113 40 := ⟨_, Try.typeInfo113, rfl⟩
instance : Zero Try.prog 113 [(Go.Value.int Go.IntKind.i64 0), (Go.Value.int Go.IntKind.i64 0), (Go.Value.int Go.IntKind.i64 0), (Go.Value.int Go.IntKind.i64 0), (Go.Value.int Go.IntKind.i64 0)] := ⟨_, Try.zeroValue113, rfl⟩
instance : Fld Try.prog 113 0 0 := Fld.of (n := 3) ⟨Try.runUnderlying113⟩ rfl ⟨Try.sizeOf37⟩ (by decide) rfl
instance : Fld Try.prog 113 1 3 := Fld.of (n := 1) ⟨Try.runUnderlying113⟩ rfl ⟨Try.sizeOf3⟩ (by decide) rfl
instance : Fld Try.prog 113 2 4 := Fld.of (n := 1) ⟨Try.runUnderlying113⟩ rfl ⟨Try.sizeOf3⟩ (by decide) rfl
instance : Places Try.prog 113 (fun i => ([(0, 3), (3, 1), (4, 1)] : List (Nat × Nat))[i]?) := Places.struct ⟨Try.runUnderlying113⟩ (.c Try.sizeOf37 (.c Try.sizeOf3 (.c Try.sizeOf3 .n)))
instance : Und Try.prog 117 (Go.TypeDesc.slice 23) := ⟨Try.runUnderlying117⟩
instance : IsAgg Try.prog 117 false := ⟨Try.isAgg117⟩
instance : TySize Try.prog 117 1 := ⟨Try.sizeOf117⟩
instance : TyBytes Try.prog 117 24 := ⟨_, Try.typeInfo117, rfl⟩
instance : Zero Try.prog 117 [(Go.Value.slice none 0 0)] := ⟨_, Try.zeroValue117, rfl⟩
instance : Und Try.prog 122 (Go.TypeDesc.array 2 3) := ⟨Try.runUnderlying122⟩
instance : IsAgg Try.prog 122 true := ⟨Try.isAgg122⟩
instance : TySize Try.prog 122 2 := ⟨Try.sizeOf122⟩
instance : TyBytes Try.prog 122 16 := ⟨_, Try.typeInfo122, rfl⟩
instance : Zero Try.prog 122 [(Go.Value.int Go.IntKind.i64 0), (Go.Value.int Go.IntKind.i64 0)] := ⟨_, Try.zeroValue122, rfl⟩
instance : Places Try.prog 122 (fun i => some (i * 1, 1)) := Places.array ⟨Try.runUnderlying122⟩ ⟨Try.sizeOf3⟩
instance : Und Try.prog 127 (Go.TypeDesc.struct #[(Go.Field.mk "Need" 37 0 Bool.false "" "" 0), (Go.Field.mk "Draws" 104 3 Bool.false "" "" 24), (Go.Field.mk "Group" 3 4 Bool.false "" "" 48), (Go.Field.mk "Worth" 3 5 Bool.false "" "" 56)]) := ⟨Try.runUnderlying127⟩
instance : IsAgg Try.prog 127 true := ⟨Try.isAgg127⟩
instance : TySize Try.prog 127 6 := ⟨Try.sizeOf127⟩
instance : TyBytes Try.prog 127 64 := ⟨_, Try.typeInfo127, rfl⟩
instance : Zero Try.prog 127 [(Go.Value.int Go.IntKind.i64 0), (Go.Value.int Go.IntKind.i64 0), (Go.Value.int Go.IntKind.i64 0), (Go.Value.slice none 0 0), (Go.Value.int Go.IntKind.i64 0), (Go.Value.int Go.IntKind.i64 0)] := ⟨_, Try.zeroValue127, rfl⟩
instance : Fld Try.prog 127 0 0 := Fld.of (n := 3) ⟨Try.runUnderlying127⟩ rfl ⟨Try.sizeOf37⟩ (by decide) rfl
instance : Fld Try.prog 127 1 3 := Fld.of (n := 1) ⟨Try.runUnderlying127⟩ rfl ⟨Try.sizeOf104⟩ (by decide) rfl
instance : Fld Try.prog 127 2 4 := Fld.of (n := 1) ⟨Try.runUnderlying127⟩ rfl ⟨Try.sizeOf3⟩ (by decide) rfl
instance : Fld Try.prog 127 3 5 := Fld.of (n := 1) ⟨Try.runUnderlying127⟩ rfl ⟨Try.sizeOf3⟩ (by decide) rfl
instance : Places Try.prog 127 (fun i => ([(0, 3), (3, 1), (4, 1), (5, 1)] : List (Nat × Nat))[i]?) := Places.struct ⟨Try.runUnderlying127⟩ (.c Try.sizeOf37 (.c Try.sizeOf104 (.c Try.sizeOf3 (.c Try.sizeOf3 .n))))
instance : Und Try.prog 140 (Go.TypeDesc.int Go.IntKind.u64) := ⟨Try.runUnderlying140⟩
instance : IsAgg Try.prog 140 false := ⟨Try.isAgg140⟩
instance : TySize Try.prog 140 1 := ⟨Try.sizeOf140⟩
instance : TyBytes Try.prog 140 8 := ⟨_, Try.typeInfo140, rfl⟩
instance : Zero Try.prog 140 [(Go.Value.int Go.IntKind.u64 0)] := ⟨_, Try.zeroValue140, rfl⟩
instance : Und Try.prog 148 (Go.TypeDesc.int Go.IntKind.i64) := ⟨Try.runUnderlying148⟩
instance : IsAgg Try.prog 148 false := ⟨Try.isAgg148⟩
instance : TySize Try.prog 148 1 := ⟨Try.sizeOf148⟩
instance : TyBytes Try.prog 148 8 := ⟨_, Try.typeInfo148, rfl⟩
instance : Zero Try.prog 148 [(Go.Value.int Go.IntKind.i64 0)] := ⟨_, Try.zeroValue148, rfl⟩
instance : Und Try.prog 157 (Go.TypeDesc.int Go.IntKind.u32) := ⟨Try.runUnderlying157⟩
instance : IsAgg Try.prog 157 false := ⟨Try.isAgg157⟩
instance : TySize Try.prog 157 1 := ⟨Try.sizeOf157⟩
instance : TyBytes Try.prog 157 4 := ⟨_, Try.typeInfo157, rfl⟩
instance : Zero Try.prog 157 [(Go.Value.int Go.IntKind.u32 0)] := ⟨_, Try.zeroValue157, rfl⟩
instance : Und Try.prog 159 (Go.TypeDesc.int Go.IntKind.u64) := ⟨Try.runUnderlying159⟩
instance : IsAgg Try.prog 159 false := ⟨Try.isAgg159⟩
instance : TySize Try.prog 159 1 := ⟨Try.sizeOf159⟩
instance : TyBytes Try.prog 159 8 := ⟨_, Try.typeInfo159, rfl⟩
instance : Zero Try.prog 159 [(Go.Value.int Go.IntKind.u64 0)] := ⟨_, Try.zeroValue159, rfl⟩
instance : Und Try.prog 161 (Go.TypeDesc.int Go.IntKind.u64) := ⟨Try.runUnderlying161⟩
instance : IsAgg Try.prog 161 false := ⟨Try.isAgg161⟩
instance : TySize Try.prog 161 1 := ⟨Try.sizeOf161⟩
instance : TyBytes Try.prog 161 8 := ⟨_, Try.typeInfo161, rfl⟩
instance : Zero Try.prog 161 [(Go.Value.int Go.IntKind.u64 0)] := ⟨_, Try.zeroValue161, rfl⟩
theorem _root_.Go.Proofs.Try.mixed : Try.prog.follows .mixedOrders = true := by kernel_rfl
end Go.X

set_option linter.unusedSimpArgs false
set_option linter.unusedVariables false
set_option maxRecDepth 20000
namespace Go.X
open Go.Proofs
def encDraw (x : PDraw) : List Value := [.int .i64 x.power, .int .i64 x.count]
def encPJ (x : Value × PJob) : List Value := [.int .i64 x.2.n0, .int .i64 x.2.n1, .int .i64 x.2.n2, x.1, .int .i64 x.2.group, .int .i64 x.2.worth]
def encRack (x : PRack) : List Value := [.int .i64 x.r0, .int .i64 x.r1, .int .i64 x.r2, .int .i64 x.cap, .int .i64 x.domain]
/-- The draws of jobs lie in one heap. -/
def JobsK (ms : List (Value × PJob)) (K : PHeap) : Prop := ∀ i, i < ms.length → Arr (ms.getD i default).1 encDraw 2 K (ms.getD i default).2.draws
theorem map_snd_atP (l : List (Value × PJob)) (i : Nat) : (l.map Prod.snd).getD i default = (l.getD i default).2 := by
  rw [List.getD_eq_getElem?_getD, List.getD_eq_getElem?_getD, List.getElem?_map]
  cases l[i]? <;> rfl
theorem indexFuncI (v : Value) (h : PHeap) (xs : List Int) [s : Arr v encI 1 h xs] (gid : FuncId) (cap : List Value) (Hr : List PHeap) (p : Int → Bool)
    (hc : ∀ args w, (callFunc gid args).run Try.prog w = .ok (.enter gid args) w) (hS : ∀ x ∈ xs, Spec Try.prog gid (.int .i64 x :: cap).toArray [] Hr (fun v hs => v = .bool (p x) ∧ hs = [])) :
    Spec Try.prog 88 #[v, .func (.func gid) #[] cap.toArray] [] (h :: Hr) (fun v hs => v = .int .i64 (findFirst p xs) ∧ hs = []) := by
  refine Spec.intro (fn := Try.f88) (N := 19) Try.func88 rfl Try.ntmps88 rfl fun B => ?_
  refine XK.seq ?_
  refine XK.region rfl ?_
  refine XO.q (Q.assign rfl) ?_
  refine XO.done ?_
  refine XK.seq ?_
  refine XK.seq ?_
  refine XK.region rfl ?_
  refine XO.q (Q.move rfl) ?_
  refine XO.len rfl fun l7 => ?_
  refine XO.q (Q.move rfl) ?_
  refine XO.done ?_
  refine XK.block ?_
  refine XK.while (X := Nat) [4, 5, 8, 9, 10, 11, 12, 13, 14, 15, 16, 17, 18] (fun i => [(8, some (.int .i64 (i : Nat)))]) (fun i => []) (fun i => i ≤ xs.length ∧ (xs.take i).any p = false) (fun i => xs.length - i) (0) [] rfl ⟨by omega, rfl⟩ (.c rfl (.base 0 rfl rfl)) ?_
  rintro i ⟨hi, ht⟩ ih0
  dsimp only [List.cons_append, List.nil_append] at ih0 ⊢
  refine XK.seq ?_
  refine XK.region rfl ?_
  refine XO.q (Q.lss rfl rfl) ?_
  refine XO.done ?_
  refine XK.seq ?_
  refine XK.if rfl (fun c0 => ?_) (fun c0 => ?_)
  · have _t0 := True.intro
    refine XK.skip ?_
    refine XK.seq ?_
    refine XK.block ?_
    refine XK.seq ?_
    refine XK.region rfl ?_
    refine XO.q (Q.move rfl) ?_
    refine XO.q (Q.assign rfl) ?_
    refine XO.done ?_
    refine XK.seq ?_
    refine XK.region rfl ?_
    refine XO.q (Q.move rfl) ?_
    refine XO.q (Q.move rfl) ?_
    refine XO.q (Q.move rfl) ?_
    refine XO.ix rfl rfl (by omega) (by omega) fun i14 => ?_
    refine XO.q (Q.ldE rfl (by first | assumption | omega) rfl) ?_
    refine XO.call hc rfl rfl rfl (hS _ (getD_mem (by omega))) fun v16 s16 R16 => ?_
    obtain ⟨rfl, rfl⟩ := R16
    dsimp only [List.cons_append, List.nil_append]
    refine XO.done ?_
    refine XK.if rfl (fun c1 => ?_) (fun c1 => ?_)
    · have _t1 := True.intro
      refine XK.seq ?_
      refine XK.region rfl ?_
      refine XO.q (Q.move rfl) ?_
      refine XO.q (Q.assign rfl) ?_
      refine XO.done ?_
      refine XK.rt [] Try.func88 Try.results88 (.t rfl .n) ?_
      exact ⟨by rw [findFirst_here ht (by omega) c1], rfl⟩
    · have _t1 := True.intro
      refine XK.skip ?_
      refine XK.inBlock ?_
      refine XK.region rfl ?_
      refine XO.q (Q.add rfl rfl ⟨by omega, by omega⟩) ?_
      refine XO.q (Q.move rfl) ?_
      refine XO.done ?_
      exact ih0 (i + 1) _ _ ⟨by omega, any_step ht (by omega) (Bool.eq_false_iff.2 c1)⟩ (by first | omega | (dsimp only; omega)) (.c rfl (.base 25 rfl rfl)) inferInstance
  · have _t0 := True.intro
    refine XK.exit rfl ?_
    refine XK.seq ?_
    refine XK.region rfl ?_
    refine XO.q (Q.assign rfl) ?_
    refine XO.done ?_
    refine XK.rt [] Try.func88 Try.results88 (.t rfl .n) ?_
    exact ⟨by rw [findFirst_none ht c0], rfl⟩
theorem containsFuncI (v : Value) (h : PHeap) (xs : List Int) [s : Arr v encI 1 h xs] (gid : FuncId) (cap : List Value) (Hr : List PHeap) (p : Int → Bool)
    (hc : ∀ args w, (callFunc gid args).run Try.prog w = .ok (.enter gid args) w) (hS : ∀ x ∈ xs, Spec Try.prog gid (.int .i64 x :: cap).toArray [] Hr (fun v hs => v = .bool (p x) ∧ hs = [])) :
    Spec Try.prog 67 #[v, .func (.func gid) #[] cap.toArray] [] (h :: Hr) (fun v hs => v = .bool (xs.any p) ∧ hs = []) := by
  refine Spec.intro (fn := Try.f67) (N := 9) Try.func67 rfl Try.ntmps67 rfl fun B => ?_
  refine XK.seq ?_
  refine XK.region rfl ?_
  refine XO.q (Q.assign rfl) ?_
  refine XO.done ?_
  refine XK.seq ?_
  refine XK.region rfl ?_
  refine XO.q (Q.move rfl) ?_
  refine XO.q (Q.move rfl) ?_
  refine XO.call Try.call88 rfl rfl rfl (indexFuncI v h xs gid cap Hr p hc hS) fun v7 s7 R7 => ?_
  obtain ⟨rfl, rfl⟩ := R7
  dsimp only [List.cons_append, List.nil_append]
  refine XO.q (Q.geq rfl rfl) ?_
  refine XO.q (Q.assign rfl) ?_
  refine XO.done ?_
  refine XK.rt [] Try.func67 Try.results67 (.t rfl .n) ?_
  exact ⟨by rw [← findFirst_any], rfl⟩
theorem indexFuncPJ (v : Value) (h : PHeap) (xs : List (Value × PJob)) [s : Arr v encPJ 6 h xs] (gid : FuncId) (cap : List Value) (Hr : List PHeap) (p : (Value × PJob) → Bool)
    (hc : ∀ args w, (callFunc gid args).run Try.prog w = .ok (.enter gid args) w) (hS : ∀ x ∈ xs, Spec Try.prog gid (.agg #[.int .i64 x.2.n0, .int .i64 x.2.n1, .int .i64 x.2.n2, x.1, .int .i64 x.2.group, .int .i64 x.2.worth] :: cap).toArray [] Hr (fun v hs => v = .bool (p x) ∧ hs = [])) :
    Spec Try.prog 69 #[v, .func (.func gid) #[] cap.toArray] [] (h :: Hr) (fun v hs => v = .int .i64 (findFirst p xs) ∧ hs = []) := by
  refine Spec.intro (fn := Try.f69) (N := 19) Try.func69 rfl Try.ntmps69 rfl fun B => ?_
  refine XK.seq ?_
  refine XK.region rfl ?_
  refine XO.q (Q.assign rfl) ?_
  refine XO.done ?_
  refine XK.seq ?_
  refine XK.seq ?_
  refine XK.region rfl ?_
  refine XO.q (Q.move rfl) ?_
  refine XO.len rfl fun l7 => ?_
  refine XO.q (Q.move rfl) ?_
  refine XO.done ?_
  refine XK.block ?_
  refine XK.while (X := Nat) [4, 5, 8, 9, 10, 11, 12, 13, 14, 15, 16, 17, 18] (fun i => [(8, some (.int .i64 (i : Nat)))]) (fun i => []) (fun i => i ≤ xs.length ∧ (xs.take i).any p = false) (fun i => xs.length - i) (0) [] rfl ⟨by omega, rfl⟩ (.c rfl (.base 0 rfl rfl)) ?_
  rintro i ⟨hi, ht⟩ ih0
  dsimp only [List.cons_append, List.nil_append] at ih0 ⊢
  refine XK.seq ?_
  refine XK.region rfl ?_
  refine XO.q (Q.lss rfl rfl) ?_
  refine XO.done ?_
  refine XK.seq ?_
  refine XK.if rfl (fun c0 => ?_) (fun c0 => ?_)
  · have _t0 := True.intro
    refine XK.skip ?_
    refine XK.seq ?_
    refine XK.block ?_
    refine XK.seq ?_
    refine XK.region rfl ?_
    refine XO.q (Q.move rfl) ?_
    refine XO.q (Q.assign rfl) ?_
    refine XO.done ?_
    refine XK.seq ?_
    refine XK.region rfl ?_
    refine XO.q (Q.move rfl) ?_
    refine XO.q (Q.move rfl) ?_
    refine XO.q (Q.move rfl) ?_
    refine XO.ix rfl rfl (by omega) (by omega) fun i14 => ?_
    refine XO.q (Q.ldEA [_, _, _, _, _, _] rfl (by first | assumption | omega) rfl rfl) ?_
    refine XO.call hc rfl rfl rfl (hS _ (getD_mem (by omega))) fun v16 s16 R16 => ?_
    obtain ⟨rfl, rfl⟩ := R16
    dsimp only [List.cons_append, List.nil_append]
    refine XO.done ?_
    refine XK.if rfl (fun c1 => ?_) (fun c1 => ?_)
    · have _t1 := True.intro
      refine XK.seq ?_
      refine XK.region rfl ?_
      refine XO.q (Q.move rfl) ?_
      refine XO.q (Q.assign rfl) ?_
      refine XO.done ?_
      refine XK.rt [] Try.func69 Try.results69 (.t rfl .n) ?_
      exact ⟨by rw [findFirst_here ht (by omega) c1], rfl⟩
    · have _t1 := True.intro
      refine XK.skip ?_
      refine XK.inBlock ?_
      refine XK.region rfl ?_
      refine XO.q (Q.add rfl rfl ⟨by omega, by omega⟩) ?_
      refine XO.q (Q.move rfl) ?_
      refine XO.done ?_
      exact ih0 (i + 1) _ _ ⟨by omega, any_step ht (by omega) (Bool.eq_false_iff.2 c1)⟩ (by first | omega | (dsimp only; omega)) (.c rfl (.base 25 rfl rfl)) inferInstance
  · have _t0 := True.intro
    refine XK.exit rfl ?_
    refine XK.seq ?_
    refine XK.region rfl ?_
    refine XO.q (Q.assign rfl) ?_
    refine XO.done ?_
    refine XK.rt [] Try.func69 Try.results69 (.t rfl .n) ?_
    exact ⟨by rw [findFirst_none ht c0], rfl⟩
theorem containsFuncPJ (v : Value) (h : PHeap) (xs : List (Value × PJob)) [s : Arr v encPJ 6 h xs] (gid : FuncId) (cap : List Value) (Hr : List PHeap) (p : (Value × PJob) → Bool)
    (hc : ∀ args w, (callFunc gid args).run Try.prog w = .ok (.enter gid args) w) (hS : ∀ x ∈ xs, Spec Try.prog gid (.agg #[.int .i64 x.2.n0, .int .i64 x.2.n1, .int .i64 x.2.n2, x.1, .int .i64 x.2.group, .int .i64 x.2.worth] :: cap).toArray [] Hr (fun v hs => v = .bool (p x) ∧ hs = [])) :
    Spec Try.prog 43 #[v, .func (.func gid) #[] cap.toArray] [] (h :: Hr) (fun v hs => v = .bool (xs.any p) ∧ hs = []) := by
  refine Spec.intro (fn := Try.f43) (N := 9) Try.func43 rfl Try.ntmps43 rfl fun B => ?_
  refine XK.seq ?_
  refine XK.region rfl ?_
  refine XO.q (Q.assign rfl) ?_
  refine XO.done ?_
  refine XK.seq ?_
  refine XK.region rfl ?_
  refine XO.q (Q.move rfl) ?_
  refine XO.q (Q.move rfl) ?_
  refine XO.call Try.call69 rfl rfl rfl (indexFuncPJ v h xs gid cap Hr p hc hS) fun v7 s7 R7 => ?_
  obtain ⟨rfl, rfl⟩ := R7
  dsimp only [List.cons_append, List.nil_append]
  refine XO.q (Q.geq rfl rfl) ?_
  refine XO.q (Q.assign rfl) ?_
  refine XO.done ?_
  refine XK.rt [] Try.func43 Try.results43 (.t rfl .n) ?_
  exact ⟨by rw [← findFirst_any], rfl⟩
theorem indexFuncPR (v : Value) (h : PHeap) (xs : List PRack) [s : Arr v encRack 5 h xs] (gid : FuncId) (cap : List Value) (Hr : List PHeap) (p : PRack → Bool)
    (hc : ∀ args w, (callFunc gid args).run Try.prog w = .ok (.enter gid args) w) (hS : ∀ x ∈ xs, Spec Try.prog gid (.agg #[.int .i64 x.r0, .int .i64 x.r1, .int .i64 x.r2, .int .i64 x.cap, .int .i64 x.domain] :: cap).toArray [] Hr (fun v hs => v = .bool (p x) ∧ hs = [])) :
    Spec Try.prog 104 #[v, .func (.func gid) #[] cap.toArray] [] (h :: Hr) (fun v hs => v = .int .i64 (findFirst p xs) ∧ hs = []) := by
  refine Spec.intro (fn := Try.f104) (N := 19) Try.func104 rfl Try.ntmps104 rfl fun B => ?_
  refine XK.seq ?_
  refine XK.region rfl ?_
  refine XO.q (Q.assign rfl) ?_
  refine XO.done ?_
  refine XK.seq ?_
  refine XK.seq ?_
  refine XK.region rfl ?_
  refine XO.q (Q.move rfl) ?_
  refine XO.len rfl fun l7 => ?_
  refine XO.q (Q.move rfl) ?_
  refine XO.done ?_
  refine XK.block ?_
  refine XK.while (X := Nat) [4, 5, 8, 9, 10, 11, 12, 13, 14, 15, 16, 17, 18] (fun i => [(8, some (.int .i64 (i : Nat)))]) (fun i => []) (fun i => i ≤ xs.length ∧ (xs.take i).any p = false) (fun i => xs.length - i) (0) [] rfl ⟨by omega, rfl⟩ (.c rfl (.base 0 rfl rfl)) ?_
  rintro i ⟨hi, ht⟩ ih0
  dsimp only [List.cons_append, List.nil_append] at ih0 ⊢
  refine XK.seq ?_
  refine XK.region rfl ?_
  refine XO.q (Q.lss rfl rfl) ?_
  refine XO.done ?_
  refine XK.seq ?_
  refine XK.if rfl (fun c0 => ?_) (fun c0 => ?_)
  · have _t0 := True.intro
    refine XK.skip ?_
    refine XK.seq ?_
    refine XK.block ?_
    refine XK.seq ?_
    refine XK.region rfl ?_
    refine XO.q (Q.move rfl) ?_
    refine XO.q (Q.assign rfl) ?_
    refine XO.done ?_
    refine XK.seq ?_
    refine XK.region rfl ?_
    refine XO.q (Q.move rfl) ?_
    refine XO.q (Q.move rfl) ?_
    refine XO.q (Q.move rfl) ?_
    refine XO.ix rfl rfl (by omega) (by omega) fun i14 => ?_
    refine XO.q (Q.ldEA [_, _, _, _, _] rfl (by first | assumption | omega) rfl rfl) ?_
    refine XO.call hc rfl rfl rfl (hS _ (getD_mem (by omega))) fun v16 s16 R16 => ?_
    obtain ⟨rfl, rfl⟩ := R16
    dsimp only [List.cons_append, List.nil_append]
    refine XO.done ?_
    refine XK.if rfl (fun c1 => ?_) (fun c1 => ?_)
    · have _t1 := True.intro
      refine XK.seq ?_
      refine XK.region rfl ?_
      refine XO.q (Q.move rfl) ?_
      refine XO.q (Q.assign rfl) ?_
      refine XO.done ?_
      refine XK.rt [] Try.func104 Try.results104 (.t rfl .n) ?_
      exact ⟨by rw [findFirst_here ht (by omega) c1], rfl⟩
    · have _t1 := True.intro
      refine XK.skip ?_
      refine XK.inBlock ?_
      refine XK.region rfl ?_
      refine XO.q (Q.add rfl rfl ⟨by omega, by omega⟩) ?_
      refine XO.q (Q.move rfl) ?_
      refine XO.done ?_
      exact ih0 (i + 1) _ _ ⟨by omega, any_step ht (by omega) (Bool.eq_false_iff.2 c1)⟩ (by first | omega | (dsimp only; omega)) (.c rfl (.base 25 rfl rfl)) inferInstance
  · have _t0 := True.intro
    refine XK.exit rfl ?_
    refine XK.seq ?_
    refine XK.region rfl ?_
    refine XO.q (Q.assign rfl) ?_
    refine XO.done ?_
    refine XK.rt [] Try.func104 Try.results104 (.t rfl .n) ?_
    exact ⟨by rw [findFirst_none ht c0], rfl⟩
theorem containsFuncPR (v : Value) (h : PHeap) (xs : List PRack) [s : Arr v encRack 5 h xs] (gid : FuncId) (cap : List Value) (Hr : List PHeap) (p : PRack → Bool)
    (hc : ∀ args w, (callFunc gid args).run Try.prog w = .ok (.enter gid args) w) (hS : ∀ x ∈ xs, Spec Try.prog gid (.agg #[.int .i64 x.r0, .int .i64 x.r1, .int .i64 x.r2, .int .i64 x.cap, .int .i64 x.domain] :: cap).toArray [] Hr (fun v hs => v = .bool (p x) ∧ hs = [])) :
    Spec Try.prog 86 #[v, .func (.func gid) #[] cap.toArray] [] (h :: Hr) (fun v hs => v = .bool (xs.any p) ∧ hs = []) := by
  refine Spec.intro (fn := Try.f86) (N := 9) Try.func86 rfl Try.ntmps86 rfl fun B => ?_
  refine XK.seq ?_
  refine XK.region rfl ?_
  refine XO.q (Q.assign rfl) ?_
  refine XO.done ?_
  refine XK.seq ?_
  refine XK.region rfl ?_
  refine XO.q (Q.move rfl) ?_
  refine XO.q (Q.move rfl) ?_
  refine XO.call Try.call104 rfl rfl rfl (indexFuncPR v h xs gid cap Hr p hc hS) fun v7 s7 R7 => ?_
  obtain ⟨rfl, rfl⟩ := R7
  dsimp only [List.cons_append, List.nil_append]
  refine XO.q (Q.geq rfl rfl) ?_
  refine XO.q (Q.assign rfl) ?_
  refine XO.done ?_
  refine XK.rt [] Try.func86 Try.results86 (.t rfl .n) ?_
  exact ⟨by rw [← findFirst_any], rfl⟩
theorem pin1 (b : Nat) (m x : Int) : Spec Try.prog 92 #[.int .i64 x, ptr b 0] [] [blk b [.int .i64 m] 3] (fun v hs => v = .bool (pout m x) ∧ hs = []) := by
  refine Spec.intro (fn := Try.f92) (N := 11) Try.func92 rfl Try.ntmps92 rfl fun B => ?_
  refine XK.seq ?_
  refine XK.region rfl ?_
  refine XO.q (Q.assign rfl) ?_
  refine XO.done ?_
  refine XK.seq ?_
  refine XK.region rfl ?_
  refine XO.q (Q.move rfl) ?_
  refine XO.q (Q.lss rfl rfl) ?_
  refine XO.q (Q.move rfl) ?_
  refine XO.q (Quiet.guardF rfl rfl fun g7 p7 => Q.move rfl) ?_
  refine XO.q (Quiet.guardF rfl rfl fun g8 p8 => Q.ld rfl rfl) ?_
  refine XO.q (Quiet.guardF rfl rfl fun g9 p9 => Q.gtr (lzv g9 rfl) (lzv g9 rfl)) ?_
  refine XO.q (Q.or rfl (fun hp => lzv hp rfl)) ?_
  refine XO.q (Q.assign rfl) ?_
  refine XO.done ?_
  refine XK.rt [] Try.func92 Try.results92 (.t rfl .n) ?_
  exact ⟨rfl, rfl⟩
theorem pin_spec (m : Int) (v : Value) (h : PHeap) (xs : List Int) [s : Arr v encI 1 h xs] : Spec Try.prog 81 #[.int .i64 m, v] [] [h] (fun v hs => v = .bool (pin m xs) ∧ hs = []) := by
  refine Spec.intro (fn := Try.f81) (N := 9) Try.func81 rfl Try.ntmps81 rfl fun B => ?_
  refine XK.seq ?_
  refine XK.region rfl ?_
  refine XO.box rfl fun b2 => ?_
  refine XO.q (Q.assign rfl) ?_
  refine XO.done ?_
  refine XK.seq ?_
  refine XK.region rfl ?_
  refine XO.q (Q.move rfl) ?_
  refine XO.q (Q.func (fun _ he => rfl) (fun _ he => evs_rel he rfl)) ?_
  refine XO.call Try.call67 rfl rfl rfl (containsFuncI v h xs 92 [ptr b2 0] [blk b2 [.int .i64 m] 3] (pout m) Try.call92 (fun x hx => pin1 b2 m x)) fun v7 s7 R7 => ?_
  obtain ⟨rfl, rfl⟩ := R7
  dsimp only [List.cons_append, List.nil_append]
  refine XO.q (Q.not rfl) ?_
  refine XO.q (Q.assign rfl) ?_
  refine XO.done ?_
  refine XK.rt [] Try.func81 Try.results81 (.t rfl .n) ?_
  exact ⟨rfl, rfl⟩
theorem divisor_spec (a b : Nat) (ha : (a : Int) ≤ 9223372036854775807) (hb : (b : Int) ≤ 9223372036854775807) : Spec Try.prog 62 #[.int .i64 (a : Nat), .int .i64 (b : Nat)] [] [] (fun v hs => v = .int .i64 (Nat.gcd a b : Nat) ∧ hs = []) := by
  refine Spec.intro (fn := Try.f62) (N := 12) Try.func62 rfl Try.ntmps62 rfl fun B => ?_
  refine XK.seq ?_
  refine XK.region rfl ?_
  refine XO.q (Q.assign rfl) ?_
  refine XO.done ?_
  refine XK.seq ?_
  refine XK.block ?_
  refine XK.while (X := Nat × Nat) [0, 1, 5, 6, 7, 8, 9, 10] (fun ⟨x, y⟩ => [(0, some (.int .i64 (x : Nat))), (1, some (.int .i64 (y : Nat)))]) (fun ⟨x, y⟩ => []) (fun ⟨x, y⟩ => ((x : Int) ≤ 9223372036854775807 ∧ (y : Int) ≤ 9223372036854775807) ∧ Nat.gcd x y = Nat.gcd a b) (fun ⟨x, y⟩ => y) (a, b) [] rfl ⟨⟨ha, hb⟩, rfl⟩ (.c rfl (.c rfl (.base 0 rfl rfl))) ?_
  rintro ⟨x, y⟩ ⟨⟨hx, hyb⟩, hg⟩ ih0
  dsimp only [List.cons_append, List.nil_append] at ih0 ⊢
  refine XK.seq ?_
  refine XK.seq ?_
  refine XK.region rfl ?_
  refine XO.q (Q.move rfl) ?_
  refine XO.q (Q.neq rfl rfl) ?_
  refine XO.done ?_
  refine XK.if rfl (fun c0 => ?_) (fun c0 => ?_)
  · have _t0 := True.intro
    have hy : 0 < y := by omega
    have hm := Nat.mod_lt x hy
    refine XK.skip ?_
    refine XK.block ?_
    refine XK.drawn [0, 1, 2, 3, 4, 5] [] [] (.q 0 (.q 1 (.q 2 (.q 3 (.q 4 (.q 5 .done)))))) Try.mixed rfl (by kernel_rfl) ?_
    refine XT.q rfl rfl (Q.move rfl) ?_
    refine XT.q rfl rfl (Q.move rfl) ?_
    refine XT.q rfl rfl (Q.move rfl) ?_
    refine XT.q rfl rfl (Q.rem rfl rfl (by omega) (by omega)) ?_
    rw [show (x : Int) % (y : Int) = ((x % y : Nat) : Int) from rfl]
    refine XT.q rfl rfl (Q.assign rfl) ?_
    refine XT.q rfl rfl (Q.assign rfl) ?_
    refine XT.done ?_
    refine XK.inBlock ?_
    exact ih0 (y, x % y) _ _ ⟨⟨by dsimp only; omega, by dsimp only; omega⟩, by dsimp only; rw [← hg, Nat.gcd_comm y, ← Nat.gcd_rec, Nat.gcd_comm]⟩ (by first | omega | (dsimp only; omega)) (.c rfl (.c rfl (.base 18 rfl rfl))) inferInstance
  · have _t0 := True.intro
    have hy : y = 0 := by omega
    subst hy
    refine XK.exit rfl ?_
    refine XK.seq ?_
    refine XK.region rfl ?_
    refine XO.q (Q.move rfl) ?_
    refine XO.q (Q.assign rfl) ?_
    refine XO.done ?_
    refine XK.rt [] Try.func62 Try.results62 (.t rfl .n) ?_
    exact ⟨by rw [← hg, Nat.gcd_zero_right], rfl⟩
theorem chance_spec (r : PRat) : Spec Try.prog 54 #[.agg #[.int .i64 r.n, .int .i64 r.d]] [] [] (fun v hs => v = .bool (chanceR r) ∧ hs = []) := by
  refine Spec.intro (fn := Try.f54) (N := 27) Try.func54 rfl Try.ntmps54 rfl fun B => ?_
  refine XK.seq ?_
  refine XK.region rfl ?_
  refine XO.box rfl fun b1 => ?_
  refine XO.q (Q.assign rfl) ?_
  refine XO.done ?_
  refine XK.seq ?_
  refine XK.region rfl ?_
  refine XO.q (Q.fieldAddr rfl) ?_
  refine XO.q (Q.ld rfl rfl) ?_
  refine XO.q (Q.geq rfl rfl) ?_
  refine XO.q (Q.move rfl) ?_
  refine XO.q (Quiet.guardT rfl rfl fun g7 p7 => Q.fieldAddr rfl) ?_
  refine XO.q (Quiet.guardT rfl rfl fun g8 p8 => Q.ld (lzv g8 rfl) rfl) ?_
  refine XO.q (Quiet.guardT rfl rfl fun g9 p9 => Q.leq (lzv g9 rfl) rfl) ?_
  refine XO.q (Q.and rfl (fun hp => lzv hp rfl)) ?_
  refine XO.q (Q.move rfl) ?_
  refine XO.q (Quiet.guardT rfl rfl fun g12 p12 => Q.fieldAddr rfl) ?_
  refine XO.q (Quiet.guardT rfl rfl fun g13 p13 => Q.ld (lzv g13 rfl) rfl) ?_
  refine XO.q (Quiet.guardT rfl rfl fun g14 p14 => Q.fieldAddr rfl) ?_
  refine XO.q (Quiet.guardT rfl rfl fun g15 p15 => Q.ld (lzv g15 rfl) rfl) ?_
  refine XO.lit1 [_] [_] [r.n] encI rfl rfl (by rfl) (by rfl) rfl (by rfl) (fun g16 => by exact .c 0 1 (lzv g16 rfl) rfl rfl (.n _)) (fun _ => rfl) (by rfl) rfl (fun _ => by infer_instance) rfl (fun v16 h16 O16 => ?_)
  refine XO.gcallT rfl rfl Try.call81 rfl (fun g17 => .c (lzv g17 rfl) (.c (lzv g17 rfl) .n)) rfl (fun g17 p17 => by haveI := O16 g17; exact pin_spec r.d v16 h16 [r.n]) ?_
  refine XO.q (Q.and rfl (fun hp => lzv hp rfl)) ?_
  refine XO.q (Q.move rfl) ?_
  refine XO.q (Quiet.guardT rfl rfl fun g20 p20 => Q.fieldAddr rfl) ?_
  refine XO.q (Quiet.guardT rfl rfl fun g21 p21 => Q.ld (lzv g21 rfl) rfl) ?_
  refine XO.q (Quiet.guardT rfl rfl fun g22 p22 => Q.fieldAddr rfl) ?_
  refine XO.q (Quiet.guardT rfl rfl fun g23 p23 => Q.ld (lzv g23 rfl) rfl) ?_
  refine XO.gcallT rfl rfl Try.call62 rfl (fun g24 => .c (lzv g24 rfl) (.c (lzv g24 rfl) .n)) rfl (fun g24 p24 => (by
    have q := pin_one.1 p24.2
    have e1 : r.n = (r.n.toNat : Int) := by omega
    have e2 : r.d = (r.d.toNat : Int) := by omega
    have s := divisor_spec r.n.toNat r.d.toNat (by omega) (by omega)
    rw [← e1, ← e2] at s
    exact s)) ?_
  refine XO.q (Quiet.guardT rfl rfl fun g25 p25 => Q.eql (lzv g25 rfl) rfl) ?_
  refine XO.q (Q.and rfl (fun hp => lzv hp rfl)) ?_
  refine XO.q (Q.assign rfl) ?_
  refine XO.done ?_
  refine XK.rt [] Try.func54 Try.results54 (.t rfl .n) ?_
  refine ⟨?_, rfl⟩
  unfold chanceR
  by_cases h : pin r.d [r.n] = true
  · have q := pin_one.1 h
    have e : Int.gcd r.n r.d = r.n.toNat.gcd r.d.toNat := by
      unfold Int.gcd
      rw [show r.n.natAbs = r.n.toNat by omega, show r.d.natAbs = r.d.toNat by omega]
    have e3 : (((r.n.toNat.gcd r.d.toNat : Nat) : Int) = 1) ↔ (r.n.toNat.gcd r.d.toNat = 1) := by omega
    rw [e]
    simp only [e3]
  · rw [Bool.eq_false_iff.2 h]; simp
end Go.X

set_option linter.unusedSimpArgs false
set_option linter.unusedVariables false
set_option maxRecDepth 20000
namespace Go.X
open Go.Proofs
theorem rackR_spec (r : PRack) : Spec Try.prog 74 #[.agg #[.int .i64 r.r0, .int .i64 r.r1, .int .i64 r.r2, .int .i64 r.cap, .int .i64 r.domain]] [] [] (fun v hs => v = .bool (rackR r) ∧ hs = []) := by
  refine Spec.intro (fn := Try.f74) (N := 18) Try.func74 rfl Try.ntmps74 rfl fun B => ?_
  refine XK.seq ?_
  refine XK.region rfl ?_
  refine XO.box rfl fun b1 => ?_
  refine XO.q (Q.assign rfl) ?_
  refine XO.done ?_
  refine XK.seq ?_
  refine XK.region rfl ?_
  refine XO.q (Q.fieldAddr rfl) ?_
  refine XO.q (Q.sliceA rfl) ?_
  refine XO.call Try.call81 rfl rfl rfl (by haveI := arr3 (b := b1) (a0 := r.r0) (a1 := r.r1) (a2 := r.r2) (rest := [.int .i64 r.cap, .int .i64 r.domain]) (T := 62); exact pin_spec 1000000 (.slice (some ⟨b1, 0, none⟩) 3 3) (blk b1 (.int .i64 r.r0 :: .int .i64 r.r1 :: .int .i64 r.r2 :: [.int .i64 r.cap, .int .i64 r.domain]) 62) [r.r0, r.r1, r.r2]) fun v5 s5 R5 => ?_
  obtain ⟨rfl, rfl⟩ := R5
  dsimp only [List.cons_append, List.nil_append]
  refine XO.q (Q.move rfl) ?_
  refine XO.q (Quiet.guardT rfl rfl fun g7 p7 => Q.fieldAddr rfl) ?_
  refine XO.q (Quiet.guardT rfl rfl fun g8 p8 => Q.ld (lzv g8 rfl) rfl) ?_
  refine XO.lit1 [_] [_] [r.cap] encI rfl rfl (by rfl) (by rfl) rfl (by rfl) (fun g9 => by exact .c 0 1 (lzv g9 rfl) rfl rfl (.n _)) (fun _ => rfl) (by rfl) rfl (fun _ => by infer_instance) rfl (fun v9 h9 O9 => ?_)
  refine XO.gcallT rfl rfl Try.call81 rfl (fun g10 => .c rfl (.c (lzv g10 rfl) .n)) rfl (fun g10 p10 => by haveI := O9 g10; exact pin_spec 10000 v9 h9 [r.cap]) ?_
  refine XO.q (Q.and rfl (fun hp => lzv hp rfl)) ?_
  refine XO.q (Q.move rfl) ?_
  refine XO.q (Quiet.guardT rfl rfl fun g13 p13 => Q.fieldAddr rfl) ?_
  refine XO.q (Quiet.guardT rfl rfl fun g14 p14 => Q.ld (lzv g14 rfl) rfl) ?_
  refine XO.lit1 [_] [_] [r.domain] encI rfl rfl (by rfl) (by rfl) rfl (by rfl) (fun g15 => by exact .c 0 1 (lzv g15 rfl) rfl rfl (.n _)) (fun _ => rfl) (by rfl) rfl (fun _ => by infer_instance) rfl (fun v15 h15 O15 => ?_)
  refine XO.gcallT rfl rfl Try.call81 rfl (fun g16 => .c rfl (.c (lzv g16 rfl) .n)) rfl (fun g16 p16 => by haveI := O15 g16; exact pin_spec 100 v15 h15 [r.domain]) ?_
  refine XO.q (Q.and rfl (fun hp => lzv hp rfl)) ?_
  refine XO.q (Q.assign rfl) ?_
  refine XO.done ?_
  refine XK.rt [] Try.func74 Try.results74 (.t rfl .n) ?_
  exact ⟨rfl, rfl⟩
theorem draws_next {j : PJob} {i : Nat} (h : ∀ k, k < i → DrawOk j.draws k) (hi : DrawOk j.draws i) : ∀ k, k < i + 1 → DrawOk j.draws k := fun k hk => by
  by_cases e : k = i
  · subst e; exact hi
  · exact h k (by omega)
theorem jobR_no {j : PJob} (h : (((¬pin 1000000 [j.n0, j.n1, j.n2] = true ∨ ¬pin 100 [j.group] = true) ∨ ¬pin 1000000 [j.worth] = true) ∨ (j.draws.length : Int) < 1) ∨ 8 < (j.draws.length : Int)) : jobR j = false := by
  refine Bool.eq_false_iff.2 fun hc => ?_
  have k := jobR_iff.1 hc
  have := k.few
  rcases h with (((h | h) | h) | h) | h
  · exact h k.need
  · exact h (pin_one.2 k.grp)
  · exact h (pin_one.2 k.wor)
  · omega
  · omega
theorem jobR_yes {j : PJob} (h : ¬ ((((¬pin 1000000 [j.n0, j.n1, j.n2] = true ∨ ¬pin 100 [j.group] = true) ∨ ¬pin 1000000 [j.worth] = true) ∨ (j.draws.length : Int) < 1) ∨ 8 < (j.draws.length : Int))) (hg : ∀ k, k < j.draws.length → DrawOk j.draws k) : jobR j = true := by
  simp only [not_or, Decidable.not_not, pin_one] at h
  obtain ⟨⟨⟨⟨a, b⟩, c⟩, d⟩, e⟩ := h
  exact jobR_iff.2 ⟨a, b, c, ⟨by omega, by omega⟩, hg⟩
theorem drawOk_no {l : List PDraw} {i : Nat} (h : ((¬pin 1000 [(l.getD i default).power] = true ∨ (l.getD i default).count < 1) ∨ 64 < (l.getD i default).count) ∨ 0 < (i : Int) ∧ (l.getD i default).power ≤ (l.getD ((i : Int) - 1).toNat default).power) : ¬ DrawOk l i := fun hd => by
  unfold DrawOk at hd
  rw [pin_one] at h
  rw [show ((i : Int) - 1).toNat = i - 1 by omega] at h
  omega
theorem drawOk_yes {l : List PDraw} {i : Nat} (h : ¬ (((¬pin 1000 [(l.getD i default).power] = true ∨ (l.getD i default).count < 1) ∨ 64 < (l.getD i default).count) ∨ 0 < (i : Int) ∧ (l.getD i default).power ≤ (l.getD ((i : Int) - 1).toNat default).power)) : DrawOk l i := by
  unfold DrawOk
  rw [pin_one] at h
  rw [show ((i : Int) - 1).toNat = i - 1 by omega] at h
  omega
set_option maxHeartbeats 2000000 in
theorem jobR_spec (j : PJob) (vd : Value) (hd : PHeap) [id_ : Arr vd encDraw 2 hd j.draws] : Spec Try.prog 58 #[.agg #[.int .i64 j.n0, .int .i64 j.n1, .int .i64 j.n2, vd, .int .i64 j.group, .int .i64 j.worth]] [] [hd] (fun v hs => v = .bool (jobR j) ∧ hs = []) := by
  have ld := id_.le
  refine Spec.intro (fn := Try.f58) (N := 75) Try.func58 rfl Try.ntmps58 rfl fun B => ?_
  refine XK.seq ?_
  refine XK.region rfl ?_
  refine XO.box rfl fun b1 => ?_
  refine XO.q (Q.assign rfl) ?_
  refine XO.done ?_
  refine XK.seq ?_
  refine XK.seq ?_
  refine XK.region rfl ?_
  refine XO.q (Q.fieldAddr rfl) ?_
  refine XO.q (Q.sliceA rfl) ?_
  refine XO.call Try.call81 rfl rfl rfl (by haveI := arr3 (b := b1) (a0 := j.n0) (a1 := j.n1) (a2 := j.n2) (rest := [vd, .int .i64 j.group, .int .i64 j.worth]) (T := 39); exact pin_spec 1000000 (.slice (some ⟨b1, 0, none⟩) 3 3) (blk b1 (.int .i64 j.n0 :: .int .i64 j.n1 :: .int .i64 j.n2 :: [vd, .int .i64 j.group, .int .i64 j.worth]) 39) [j.n0, j.n1, j.n2]) fun v7 s7 R7 => ?_
  obtain ⟨rfl, rfl⟩ := R7
  dsimp only [List.cons_append, List.nil_append]
  refine XO.q (Q.not rfl) ?_
  refine XO.q (Q.move rfl) ?_
  refine XO.q (Quiet.guardF rfl rfl fun g10 p10 => Q.fieldAddr rfl) ?_
  refine XO.q (Quiet.guardF rfl rfl fun g11 p11 => Q.ld (lzv g11 rfl) rfl) ?_
  refine XO.lit1 [_] [_] [j.group] encI rfl rfl (by rfl) (by rfl) rfl (by rfl) (fun g12 => by exact .c 0 1 (lzv g12 rfl) rfl rfl (.n _)) (fun _ => rfl) (by rfl) rfl (fun _ => by infer_instance) rfl (fun v12 h12 O12 => ?_)
  refine XO.gcallF rfl rfl Try.call81 rfl (fun g13 => .c rfl (.c (lzv g13 rfl) .n)) rfl (fun g13 p13 => by haveI := O12 g13; exact pin_spec 100 v12 h12 [j.group]) ?_
  refine XO.q (Quiet.guardF rfl rfl fun g14 p14 => Q.not (lzv g14 rfl)) ?_
  refine XO.q (Q.or rfl (fun hp => lzv hp rfl)) ?_
  refine XO.q (Q.move rfl) ?_
  refine XO.q (Quiet.guardF rfl rfl fun g17 p17 => Q.fieldAddr rfl) ?_
  refine XO.q (Quiet.guardF rfl rfl fun g18 p18 => Q.ld (lzv g18 rfl) rfl) ?_
  refine XO.lit1 [_] [_] [j.worth] encI rfl rfl (by rfl) (by rfl) rfl (by rfl) (fun g19 => by exact .c 0 1 (lzv g19 rfl) rfl rfl (.n _)) (fun _ => rfl) (by rfl) rfl (fun _ => by infer_instance) rfl (fun v19 h19 O19 => ?_)
  refine XO.gcallF rfl rfl Try.call81 rfl (fun g20 => .c rfl (.c (lzv g20 rfl) .n)) rfl (fun g20 p20 => by haveI := O19 g20; exact pin_spec 1000000 v19 h19 [j.worth]) ?_
  refine XO.q (Quiet.guardF rfl rfl fun g21 p21 => Q.not (lzv g21 rfl)) ?_
  refine XO.q (Q.or rfl (fun hp => lzv hp rfl)) ?_
  refine XO.q (Q.move rfl) ?_
  refine XO.q (Quiet.guardF rfl rfl fun g24 p24 => Q.fieldAddr rfl) ?_
  refine XO.q (Quiet.guardF rfl rfl fun g25 p25 => Q.ld (lzv g25 rfl) rfl) ?_
  refine XO.q (Quiet.guardF rfl rfl fun g26 p26 => Q.len (lzv g26 rfl)) ?_
  refine XO.q (Quiet.guardF rfl rfl fun g27 p27 => Q.lss (lzv g27 rfl) rfl) ?_
  refine XO.q (Q.or rfl (fun hp => lzv hp rfl)) ?_
  refine XO.q (Q.move rfl) ?_
  refine XO.q (Quiet.guardF rfl rfl fun g30 p30 => Q.fieldAddr rfl) ?_
  refine XO.q (Quiet.guardF rfl rfl fun g31 p31 => Q.ld (lzv g31 rfl) rfl) ?_
  refine XO.q (Quiet.guardF rfl rfl fun g32 p32 => Q.len (lzv g32 rfl)) ?_
  refine XO.q (Quiet.guardF rfl rfl fun g33 p33 => Q.gtr (lzv g33 rfl) rfl) ?_
  refine XO.q (Q.or rfl (fun hp => lzv hp rfl)) ?_
  refine XO.done ?_
  refine XK.if rfl (fun c0 => ?_) (fun c0 => ?_)
  · have _t0 := True.intro
    refine XK.seq ?_
    refine XK.region rfl ?_
    refine XO.q (Q.assign rfl) ?_
    refine XO.done ?_
    refine XK.rt [] Try.func58 Try.results58 (.t rfl .n) ?_
    exact ⟨by rw [jobR_no c0], rfl⟩
  · have _t0 := True.intro
    refine XK.skip ?_
    refine XK.seq ?_
    refine XK.seq ?_
    refine XK.region rfl ?_
    refine XO.q (Q.fieldAddr rfl) ?_
    refine XO.q (Q.ld rfl rfl) ?_
    refine XO.len rfl fun l37 => ?_
    refine XO.q (Q.move rfl) ?_
    refine XO.done ?_
    refine XK.block ?_
    refine XK.while (X := Nat) [2, 3, 4, 38, 39, 40, 41, 42, 43, 44, 45, 46, 47, 48, 49, 50, 51, 52, 53, 54, 55, 56, 57, 58, 59, 60, 61, 62, 63, 64, 65, 66, 67, 68, 69, 70, 71, 72, 73, 74] (fun i => [(38, some (.int .i64 (i : Nat)))]) (fun i => []) (fun i => i ≤ j.draws.length ∧ ∀ k, k < i → DrawOk j.draws k) (fun i => j.draws.length - i) (0) [] rfl ⟨by omega, fun k hk => by omega⟩ (.c rfl (.base 0 rfl rfl)) ?_
    rintro i ⟨hi, hg⟩ ih0
    dsimp only [List.cons_append, List.nil_append] at ih0 ⊢
    refine XK.seq ?_
    refine XK.region rfl ?_
    refine XO.q (Q.lss rfl rfl) ?_
    refine XO.done ?_
    refine XK.seq ?_
    refine XK.if rfl (fun c1 => ?_) (fun c1 => ?_)
    · have _t1 := True.intro
      refine XK.skip ?_
      refine XK.seq ?_
      refine XK.block ?_
      refine XK.seq ?_
      refine XK.region rfl ?_
      refine XO.q (Q.move rfl) ?_
      refine XO.ix rfl rfl (by omega) (by omega) fun i41 => ?_
      refine XO.q (Q.ldEA [_, _] rfl (by first | assumption | omega) rfl rfl) ?_
      refine XO.alloc fun b4 => ?_
      refine XO.q (Q.assign rfl) ?_
      refine XO.st rfl rfl rfl ?_
      refine XO.done ?_
      refine XK.seq ?_
      refine XK.drawn [0, 1, 4, 5, 6, 7, 8, 9, 10, 11, 12, 13, 14, 15, 16, 17, 18, 19, 20, 21, 22, 23, 24, 25, 26, 27, 28, 29, 30] [b4, b1] [] (.q 0 (.q 1 (.br 2 true (.br 3 true (.q 4 (.q 5 (.q 6 (.q 7 (.q 8 (.q 9 (.q 10 (.q 11 (.q 12 (.q 13 (.q 14 (.q 15 (.q 16 (.q 17 (.q 18 (.q 19 (.q 20 (.q 21 (.q 22 (.q 23 (.q 24 (.q 25 (.q 26 (.q 27 (.q 28 (.q 29 (.q 30 .done))))))))))))))))))))))))))) .stop) .stop))) Try.mixed rfl (by kernel_rfl) ?_
      refine XT.q rfl rfl (Q.fieldAddr rfl) ?_
      refine XT.q rfl rfl (Q.ld rfl rfl) ?_
      refine XT.lit [_] [_] [(j.draws.getD i default).power] encI rfl rfl (by rfl) (by rfl) rfl (by rfl) (by exact .c 0 1 rfl rfl rfl (.n _)) (fun _ => rfl) (by rfl) rfl (by infer_instance) rfl (fun v45 h45 O45 => ⟨inferInstance, ?_⟩) XT.stop
      refine XT.call rfl rfl Try.call81 rfl rfl rfl (pin_spec 1000 v45 h45 [(j.draws.getD i default).power]) (fun v46 s46 R46 => ?_) XT.stop
      obtain ⟨rfl, rfl⟩ := R46
      dsimp only [List.cons_append, List.nil_append]
      refine ⟨inferInstance, ?_⟩
      refine XT.q rfl rfl (Q.not rfl) ?_
      refine XT.q rfl rfl (Q.move rfl) ?_
      refine XT.q rfl rfl (Quiet.guardF rfl rfl fun g49 p49 => Q.fieldAddr rfl) ?_
      refine XT.q rfl rfl (Quiet.guardF rfl rfl fun g50 p50 => Q.ld (lzv g50 rfl) rfl) ?_
      refine XT.q rfl rfl (Quiet.guardF rfl rfl fun g51 p51 => Q.lss (lzv g51 rfl) rfl) ?_
      refine XT.q rfl rfl (Q.or rfl (fun hp => lzv hp rfl)) ?_
      refine XT.q rfl rfl (Q.move rfl) ?_
      refine XT.q rfl rfl (Quiet.guardF rfl rfl fun g54 p54 => Q.fieldAddr rfl) ?_
      refine XT.q rfl rfl (Quiet.guardF rfl rfl fun g55 p55 => Q.ld (lzv g55 rfl) rfl) ?_
      refine XT.q rfl rfl (Quiet.guardF rfl rfl fun g56 p56 => Q.gtr (lzv g56 rfl) rfl) ?_
      refine XT.q rfl rfl (Q.or rfl (fun hp => lzv hp rfl)) ?_
      refine XT.q rfl rfl (Q.move rfl) ?_
      refine XT.q rfl rfl (Quiet.guardF rfl rfl fun g59 p59 => Q.move rfl) ?_
      refine XT.q rfl rfl (Quiet.guardF rfl rfl fun g60 p60 => Q.gtr (lzv g60 rfl) rfl) ?_
      refine XT.q rfl rfl (Quiet.guardF rfl rfl fun g61 p61 => Q.move (lzv g61 rfl)) ?_
      refine XT.q rfl rfl (Quiet.guard2 rfl rfl fun g62a g62b => have p62a := bpF g62a; have p62b := bpT g62b; Q.fieldAddr rfl) ?_
      refine XT.q rfl rfl (Quiet.guard2 rfl rfl fun g63a g63b => have p63a := bpF g63a; have p63b := bpT g63b; Q.ld (lzv g63b (lzv g63a rfl)) rfl) ?_
      refine XT.q rfl rfl (Quiet.guard2 rfl rfl fun g64a g64b => have p64a := bpF g64a; have p64b := bpT g64b; Q.fieldAddr rfl) ?_
      refine XT.q rfl rfl (Quiet.guard2 rfl rfl fun g65a g65b => have p65a := bpF g65a; have p65b := bpT g65b; Q.ld (lzv g65b (lzv g65a rfl)) rfl) ?_
      refine XT.q rfl rfl (Quiet.guard2 rfl rfl fun g66a g66b => have p66a := bpF g66a; have p66b := bpT g66b; Q.move rfl) ?_
      refine XT.q rfl rfl (Quiet.guard2 rfl rfl fun g67a g67b => have p67a := bpF g67a; have p67b := bpT g67b; Q.sub (lzv g67b (lzv g67a rfl)) rfl ⟨by omega, by omega⟩) ?_
      refine XT.q rfl rfl (Quiet.guard2 rfl rfl fun g68a g68b => have p68a := bpF g68a; have p68b := bpT g68b; Q.ix (lzv g68b (lzv g68a rfl)) (lzv g68b (lzv g68a rfl)) (by omega) (by omega)) ?_
      refine XT.q rfl rfl (Quiet.guard2 rfl rfl fun g69a g69b => have p69a := bpF g69a; have p69b := bpT g69b; Q.fieldQ (lzv g69b (lzv g69a rfl)) (by first | assumption | omega)) ?_
      refine XT.q rfl rfl (Quiet.guard2 rfl rfl fun g70a g70b => have p70a := bpF g70a; have p70b := bpT g70b; Q.ldE (lzv g70b (lzv g70a rfl)) (by first | assumption | omega) rfl) ?_
      refine XT.q rfl rfl (Quiet.guard2 rfl rfl fun g71a g71b => have p71a := bpF g71a; have p71b := bpT g71b; Q.leq (lzv g71b (lzv g71a rfl)) (lzv g71b (lzv g71a rfl))) ?_
      refine XT.q rfl rfl (Quiet.guardF rfl rfl fun g72 p72 => Q.and (lzv g72 rfl) (fun hp => (lzv hp (lzv g72 rfl)))) ?_
      refine XT.q rfl rfl (Q.or rfl (fun hp => lzv hp rfl)) ?_
      refine XT.done ?_
      refine XK.if rfl (fun c2 => ?_) (fun c2 => ?_)
      · have _t2 := True.intro
        refine XK.seq ?_
        refine XK.region rfl ?_
        refine XO.q (Q.assign rfl) ?_
        refine XO.done ?_
        refine XK.rt [] Try.func58 Try.results58 (.t rfl .n) ?_
        exact ⟨by rw [Bool.eq_false_iff.2 (fun h => drawOk_no c2 ((jobR_iff.1 h).draw i (by omega)))], rfl⟩
      · have _t2 := True.intro
        refine XK.skip ?_
        refine XK.inBlock ?_
        refine XK.region rfl ?_
        refine XO.q (Q.add rfl rfl ⟨by omega, by omega⟩) ?_
        refine XO.q (Q.move rfl) ?_
        refine XO.done ?_
        exact ih0 (i + 1) _ _ ⟨by omega, draws_next hg (drawOk_yes c2)⟩ (by first | omega | (dsimp only; omega)) (.c rfl (.base 80 rfl rfl)) inferInstance
    · have _t1 := True.intro
      refine XK.exit rfl ?_
      refine XK.seq ?_
      refine XK.region rfl ?_
      refine XO.q (Q.assign rfl) ?_
      refine XO.done ?_
      refine XK.rt [] Try.func58 Try.results58 (.t rfl .n) ?_
      exact ⟨by rw [jobR_yes c0 (fun k hk => hg k (by omega))], rfl⟩
theorem JobsK.mem {l : List (Value × PJob)} {K : PHeap} (h : JobsK l K) {x : Value × PJob} (hx : x ∈ l) : Arr x.1 encDraw 2 K x.2.draws := by
  obtain ⟨i, hi, rfl⟩ := List.getElem_of_mem hx
  have := h i hi
  rwa [List.getD_eq_getElem?_getD, List.getElem?_eq_getElem hi] at this
theorem check1 (j : PJob) (vd : Value) (hd : PHeap) [id_ : Arr vd encDraw 2 hd j.draws] : Spec Try.prog 85 #[.agg #[.int .i64 j.n0, .int .i64 j.n1, .int .i64 j.n2, vd, .int .i64 j.group, .int .i64 j.worth]] [] [hd] (fun v hs => v = .bool (!jobR j) ∧ hs = []) := by
  refine Spec.intro (fn := Try.f85) (N := 6) Try.func85 rfl Try.ntmps85 rfl fun B => ?_
  refine XK.seq ?_
  refine XK.region rfl ?_
  refine XO.box rfl fun b1 => ?_
  refine XO.q (Q.assign rfl) ?_
  refine XO.done ?_
  refine XK.seq ?_
  refine XK.region rfl ?_
  refine XO.q (Q.ldA [_, _, _, _, _, _] rfl rfl rfl) ?_
  refine XO.call Try.call58 rfl rfl rfl (jobR_spec j vd hd) fun v4 s4 R4 => ?_
  obtain ⟨rfl, rfl⟩ := R4
  dsimp only [List.cons_append, List.nil_append]
  refine XO.q (Q.not rfl) ?_
  refine XO.q (Q.assign rfl) ?_
  refine XO.done ?_
  refine XK.rt [] Try.func85 Try.results85 (.t rfl .n) ?_
  exact ⟨rfl, rfl⟩
theorem listed1 (j : PJob) (vd : Value) (hd : PHeap) [id_ : Arr vd encDraw 2 hd j.draws] : Spec Try.prog 57 #[.agg #[.int .i64 j.n0, .int .i64 j.n1, .int .i64 j.n2, vd, .int .i64 j.group, .int .i64 j.worth]] [] [hd] (fun v hs => v = .bool (!jobR j) ∧ hs = []) := by
  refine Spec.intro (fn := Try.f57) (N := 6) Try.func57 rfl Try.ntmps57 rfl fun B => ?_
  refine XK.seq ?_
  refine XK.region rfl ?_
  refine XO.box rfl fun b1 => ?_
  refine XO.q (Q.assign rfl) ?_
  refine XO.done ?_
  refine XK.seq ?_
  refine XK.region rfl ?_
  refine XO.q (Q.ldA [_, _, _, _, _, _] rfl rfl rfl) ?_
  refine XO.call Try.call58 rfl rfl rfl (jobR_spec j vd hd) fun v4 s4 R4 => ?_
  obtain ⟨rfl, rfl⟩ := R4
  dsimp only [List.cons_append, List.nil_append]
  refine XO.q (Q.not rfl) ?_
  refine XO.q (Q.assign rfl) ?_
  refine XO.done ?_
  refine XK.rt [] Try.func57 Try.results57 (.t rfl .n) ?_
  exact ⟨rfl, rfl⟩
theorem check2 (r : PRack) : Spec Try.prog 87 #[.agg #[.int .i64 r.r0, .int .i64 r.r1, .int .i64 r.r2, .int .i64 r.cap, .int .i64 r.domain]] [] [] (fun v hs => v = .bool (!rackR r) ∧ hs = []) := by
  refine Spec.intro (fn := Try.f87) (N := 6) Try.func87 rfl Try.ntmps87 rfl fun B => ?_
  refine XK.seq ?_
  refine XK.region rfl ?_
  refine XO.box rfl fun b1 => ?_
  refine XO.q (Q.assign rfl) ?_
  refine XO.done ?_
  refine XK.seq ?_
  refine XK.region rfl ?_
  refine XO.q (Q.ldA [_, _, _, _, _] rfl rfl rfl) ?_
  refine XO.call Try.call74 rfl rfl rfl (rackR_spec r) fun v4 s4 R4 => ?_
  obtain ⟨rfl, rfl⟩ := R4
  dsimp only [List.cons_append, List.nil_append]
  refine XO.q (Q.not rfl) ?_
  refine XO.q (Q.assign rfl) ?_
  refine XO.done ?_
  refine XK.rt [] Try.func87 Try.results87 (.t rfl .n) ?_
  exact ⟨rfl, rfl⟩
theorem any_jobs {l : List (Value × PJob)} : (l.any fun x => !jobR x.2) = ((l.map Prod.snd).any fun j => !jobR j) := by rw [List.any_map]; rfl
theorem Check_spec (l : List (Value × PJob)) (vl : Value) (hl K : PHeap) [jl : Arr vl encPJ 6 hl l] (aL : JobsK l K) (rs : List PRack) (vr : Value) (hr : PHeap) [jr : Arr vr encRack 5 hr rs] (m : PRat) : Spec Try.prog 63 #[.agg #[vl, vr, .int .i64 m.n, .int .i64 m.d]] [] [hl, K, hr] (fun v hs => v = .int .i64 (pcheck ⟨(l.map Prod.snd), rs, m⟩) ∧ hs = []) := by
  refine Spec.intro (fn := Try.f63) (N := 34) Try.func63 rfl Try.ntmps63 rfl fun B => ?_
  refine XK.seq ?_
  refine XK.region rfl ?_
  refine XO.box rfl fun b1 => ?_
  refine XO.q (Q.assign rfl) ?_
  refine XO.done ?_
  refine XK.seq ?_
  refine XK.block ?_
  refine XK.seq ?_
  refine XK.region rfl ?_
  refine XO.q (Q.fieldAddr rfl) ?_
  refine XO.q (Q.ld rfl rfl) ?_
  refine XO.len rfl fun l6 => ?_
  refine XO.q (Q.gtr rfl rfl) ?_
  refine XO.q (Q.move rfl) ?_
  refine XO.q (Quiet.guardF rfl rfl fun g9 p9 => Q.fieldAddr rfl) ?_
  refine XO.q (Quiet.guardF rfl rfl fun g10 p10 => Q.ld (lzv g10 rfl) rfl) ?_
  refine XO.q (Quiet.guardF rfl rfl fun g11 p11 => Q.len (lzv g11 rfl)) ?_
  refine XO.q (Quiet.guardF rfl rfl fun g12 p12 => Q.lss (lzv g12 rfl) rfl) ?_
  refine XO.q (Q.or rfl (fun hp => lzv hp rfl)) ?_
  refine XO.q (Q.move rfl) ?_
  refine XO.q (Quiet.guardF rfl rfl fun g15 p15 => Q.fieldAddr rfl) ?_
  refine XO.q (Quiet.guardF rfl rfl fun g16 p16 => Q.ld (lzv g16 rfl) rfl) ?_
  refine XO.q (Quiet.guardF rfl rfl fun g17 p17 => Q.len (lzv g17 rfl)) ?_
  refine XO.q (Quiet.guardF rfl rfl fun g18 p18 => Q.gtr (lzv g18 rfl) rfl) ?_
  refine XO.q (Q.or rfl (fun hp => lzv hp rfl)) ?_
  refine XO.q (Q.assign rfl) ?_
  refine XO.done ?_
  refine XK.if rfl (fun c0 => ?_) (fun c0 => ?_)
  · have _t0 := True.intro
    refine XK.seq ?_
    refine XK.region rfl ?_
    refine XO.q (Q.assign rfl) ?_
    refine XO.done ?_
    refine XK.rt [] Try.func63 Try.results63 (.t rfl .n) ?_
    exact ⟨by rw [pcheck, if_pos (by dsimp only; rw [List.length_map]; omega)], rfl⟩
  · have _t0 := True.intro
    refine XK.seq ?_
    refine XK.region rfl ?_
    refine XO.q (Q.fieldAddr rfl) ?_
    refine XO.q (Q.ld rfl rfl) ?_
    refine XO.call Try.call43 rfl rfl rfl (containsFuncPJ vl hl l 85 [] [K] (fun x => !jobR x.2) Try.call85 (fun x hx => by haveI := aL.mem hx; exact check1 x.2 x.1 K)) fun v23 s23 R23 => ?_
    obtain ⟨rfl, rfl⟩ := R23
    dsimp only [List.cons_append, List.nil_append]
    rw [any_jobs]
    refine XO.q (Q.move rfl) ?_
    refine XO.q (Quiet.guardF rfl rfl fun g25 p25 => Q.fieldAddr rfl) ?_
    refine XO.q (Quiet.guardF rfl rfl fun g26 p26 => Q.ld (lzv g26 rfl) rfl) ?_
    refine XO.gcallF rfl rfl Try.call86 rfl (fun g27 => .c (lzv g27 rfl) (.c rfl .n)) rfl (fun g27 p27 => containsFuncPR vr hr rs 87 [] [] (fun x => !rackR x) Try.call87 (fun x hx => check2 x)) ?_
    refine XO.q (Q.or rfl (fun hp => lzv hp rfl)) ?_
    refine XO.q (Q.assign rfl) ?_
    refine XO.done ?_
    refine XK.if rfl (fun c1 => ?_) (fun c1 => ?_)
    · have _t1 := True.intro
      refine XK.seq ?_
      refine XK.region rfl ?_
      refine XO.q (Q.assign rfl) ?_
      refine XO.done ?_
      refine XK.rt [] Try.func63 Try.results63 (.t rfl .n) ?_
      exact ⟨by rw [pcheck, if_neg (by dsimp only; rw [List.length_map]; omega), if_pos (by dsimp only; rw [Bool.or_eq_true]; exact c1)], rfl⟩
    · have _t1 := True.intro
      refine XK.seq ?_
      refine XK.region rfl ?_
      refine XO.q (Q.fieldAddr rfl) ?_
      refine XO.q (Q.ldA [_, _] rfl rfl rfl) ?_
      refine XO.call Try.call54 rfl rfl rfl (chance_spec m) fun v32 s32 R32 => ?_
      obtain ⟨rfl, rfl⟩ := R32
      dsimp only [List.cons_append, List.nil_append]
      refine XO.q (Q.not rfl) ?_
      refine XO.q (Q.assign rfl) ?_
      refine XO.done ?_
      refine XK.if rfl (fun c2 => ?_) (fun c2 => ?_)
      · have _t2 := True.intro
        refine XK.seq ?_
        refine XK.region rfl ?_
        refine XO.q (Q.assign rfl) ?_
        refine XO.done ?_
        refine XK.rt [] Try.func63 Try.results63 (.t rfl .n) ?_
        exact ⟨by rw [pcheck, if_neg (by dsimp only; rw [List.length_map]; omega), if_neg (by dsimp only; rw [Bool.or_eq_true]; exact c1), if_pos c2], rfl⟩
      · have _t2 := True.intro
        refine XK.skip ?_
        refine XK.inBlock ?_
        refine XK.seq ?_
        refine XK.region rfl ?_
        refine XO.q (Q.assign rfl) ?_
        refine XO.done ?_
        refine XK.rt [] Try.func63 Try.results63 (.t rfl .n) ?_
        exact ⟨by rw [pcheck, if_neg (by dsimp only; rw [List.length_map]; omega), if_neg (by dsimp only; rw [Bool.or_eq_true]; exact c1), if_neg c2], rfl⟩
end Go.X

set_option linter.unusedSimpArgs false
set_option linter.unusedVariables false
set_option maxRecDepth 20000
namespace Go.X
open Go.Proofs
theorem listed_spec (l : List (Value × PJob)) (vl : Value) (hl K : PHeap) [jl : Arr vl encPJ 6 hl l] (aL : JobsK l K) : Spec Try.prog 25 #[vl] [] [hl, K] (fun v hs => v = .tuple #[.int .i64 (listedG (l.map Prod.snd)).1, .int .i64 (listedG (l.map Prod.snd)).2] ∧ hs = []) := by
  have ll := jl.le
  have lm : (l.map Prod.snd).length = l.length := List.length_map ..
  refine Spec.intro (fn := Try.f25) (N := 40) Try.func25 rfl Try.ntmps25 rfl fun B => ?_
  refine XK.seq ?_
  refine XK.region rfl ?_
  refine XO.q (Q.assign rfl) ?_
  refine XO.q (Q.assign rfl) ?_
  refine XO.done ?_
  refine XK.seq ?_
  refine XK.seq ?_
  refine XK.region rfl ?_
  refine XO.q (Q.move rfl) ?_
  refine XO.len rfl fun l11 => ?_
  refine XO.q (Q.gtr rfl rfl) ?_
  refine XO.done ?_
  refine XK.if rfl (fun c0 => ?_) (fun c0 => ?_)
  · have _t0 := True.intro
    refine XK.seq ?_
    refine XK.region rfl ?_
    refine XO.q (Q.assign rfl) ?_
    refine XO.q (Q.assign rfl) ?_
    refine XO.done ?_
    refine XK.rt [] Try.func25 Try.results25 (.t rfl (.t rfl .n)) ?_
    exact ⟨by rw [listedG, if_pos (by omega)], rfl⟩
  · have _t0 := True.intro
    refine XK.skip ?_
    refine XK.seq ?_
    refine XK.seq ?_
    refine XK.region rfl ?_
    refine XO.q (Q.move rfl) ?_
    refine XO.call Try.call43 rfl rfl rfl (containsFuncPJ vl hl l 57 [] [K] (fun x => !jobR x.2) Try.call57 (fun x hx => by haveI := aL.mem hx; exact listed1 x.2 x.1 K)) fun v14 s14 R14 => ?_
    obtain ⟨rfl, rfl⟩ := R14
    dsimp only [List.cons_append, List.nil_append]
    rw [any_jobs]
    refine XO.done ?_
    refine XK.if rfl (fun c1 => ?_) (fun c1 => ?_)
    · have _t1 := True.intro
      refine XK.seq ?_
      refine XK.region rfl ?_
      refine XO.q (Q.assign rfl) ?_
      refine XO.q (Q.assign rfl) ?_
      refine XO.done ?_
      refine XK.rt [] Try.func25 Try.results25 (.t rfl (.t rfl .n)) ?_
      exact ⟨by rw [listedG, if_neg (by omega), if_pos c1], rfl⟩
    · have _t1 := True.intro
      have hJ : ∀ k, k < l.length → PJobOk (l.getD k default).2 := fun k hk => jobR_iff.1 (by
        have := any_false_at (Bool.eq_false_iff.2 c1) (i := k) (by rw [lm]; exact hk)
        rw [map_snd_atP] at this
        simpa using this)
      refine XK.skip ?_
      refine XK.seq ?_
      refine XK.region rfl ?_
      refine XO.q (Q.assign rfl) ?_
      refine XO.done ?_
      refine XK.seq ?_
      refine XK.seq ?_
      refine XK.region rfl ?_
      refine XO.q (Q.move rfl) ?_
      refine XO.len rfl fun l16 => ?_
      refine XO.q (Q.move rfl) ?_
      refine XO.done ?_
      refine XK.block ?_
      refine XK.while (X := Nat) [2, 3, 4, 6, 7, 9, 17, 18, 19, 20, 21, 22, 23, 24, 25, 26, 27, 28, 29, 30, 31, 32, 33, 34, 35, 36, 37, 38] (fun i => [(17, some (.int .i64 (i : Nat))), (4, some (.int .i64 (prodJ (l.map Prod.snd) i)))]) (fun i => []) (fun i => (i ≤ l.length ∧ (1 ≤ prodJ (l.map Prod.snd) i ∧ prodJ (l.map Prod.snd) i ≤ 1099511627776)) ∧ ∀ k, k < i → prodJ (l.map Prod.snd) (k + 1) ≤ 1099511627776) (fun i => l.length - i) (0) [] rfl ⟨⟨by omega, by (try unfold prodJ); omega⟩, fun k hk => by omega⟩ (.c rfl (.c rfl (.base 0 rfl rfl))) ?_
      rintro i ⟨⟨hi, pp⟩, hp⟩ ih0
      dsimp only [List.cons_append, List.nil_append] at ih0 ⊢
      refine XK.seq ?_
      refine XK.region rfl ?_
      refine XO.q (Q.lss rfl rfl) ?_
      refine XO.done ?_
      refine XK.seq ?_
      refine XK.if rfl (fun c2 => ?_) (fun c2 => ?_)
      · have _t2 := True.intro
        have ji := map_snd_atP l i
        have ai := aL i (by omega)
        have jok := hJ i (by omega)
        have pn := prod_next (l := l.map Prod.snd) (i := i) (by omega) (by rw [ji]; exact jok) pp
        rw [ji] at pn
        have jf := jok.few
        refine XK.skip ?_
        refine XK.seq ?_
        refine XK.block ?_
        refine XK.seq ?_
        refine XK.region rfl ?_
        refine XO.ix rfl rfl (by omega) (by omega) fun i19 => ?_
        refine XO.q (Q.ldEA [_, _, _, _, _, _] rfl (by first | assumption | omega) rfl rfl) ?_
        refine XO.alloc fun b6 => ?_
        refine XO.st rfl rfl rfl ?_
        refine XO.done ?_
        refine XK.seq ?_
        refine XK.region rfl ?_
        refine XO.q (Q.assign rfl) ?_
        refine XO.done ?_
        refine XK.seq ?_
        refine XK.seq ?_
        refine XK.region rfl ?_
        refine XO.q (Q.fieldAddr rfl) ?_
        refine XO.q (Q.ld rfl rfl) ?_
        refine XO.len rfl fun l23 => ?_
        refine XO.q (Q.move rfl) ?_
        refine XO.done ?_
        refine XK.block ?_
        refine XK.while (X := Nat) [7, 9, 24, 25, 26, 27, 28, 29, 30, 31, 32] (fun k => [(24, some (.int .i64 (k : Nat))), (7, some (.int .i64 (cntTo (l.getD i default).2 k)))]) (fun k => []) (fun k => k ≤ (l.getD i default).2.draws.length) (fun k => (l.getD i default).2.draws.length - k) (0) [] rfl (by omega) (.c rfl (.c rfl (.base 0 rfl rfl))) ?_
        rintro k hk ih1
        dsimp only [List.cons_append, List.nil_append] at ih1 ⊢
        refine XK.seq ?_
        refine XK.region rfl ?_
        refine XO.q (Q.lss rfl rfl) ?_
        refine XO.done ?_
        refine XK.seq ?_
        refine XK.if rfl (fun c3 => ?_) (fun c3 => ?_)
        · have _t3 := True.intro
          have ct := cntTo_rng jok k (by omega)
          have dk := jok.draw k (by omega)
          unfold DrawOk at dk
          refine XK.skip ?_
          refine XK.seq ?_
          refine XK.block ?_
          refine XK.seq ?_
          refine XK.region rfl ?_
          refine XO.ix rfl rfl (by omega) (by omega) fun i26 => ?_
          refine XO.q (Q.ldEA [_, _] rfl (by first | assumption | omega) rfl rfl) ?_
          refine XO.alloc fun b9 => ?_
          refine XO.st rfl rfl rfl ?_
          refine XO.done ?_
          refine XK.region rfl ?_
          refine XO.q (Q.move rfl) ?_
          refine XO.q (Q.fieldAddr rfl) ?_
          refine XO.q (Q.ld rfl rfl) ?_
          refine XO.q (Q.add rfl rfl ⟨by omega, by omega⟩) ?_
          refine XO.q (Q.assign rfl) ?_
          refine XO.done ?_
          refine XK.inBlock ?_
          refine XK.region rfl ?_
          refine XO.q (Q.add rfl rfl ⟨by omega, by omega⟩) ?_
          refine XO.q (Q.move rfl) ?_
          refine XO.done ?_
          rw [← cntTo_succ (by omega)]
          exact ih1 (k + 1) _ _ (by omega) (by first | omega | (dsimp only; omega)) (.c rfl (.c rfl (.base 24 rfl rfl))) inferInstance
        · have _t3 := True.intro
          have hkl : k = (l.getD i default).2.draws.length := by omega
          subst hkl
          rw [cntTo_all]
          have tr := total_rng jok
          refine XK.exit rfl ?_
          refine XK.seq ?_
          refine XK.region rfl ?_
          refine XO.q (Q.move rfl) ?_
          refine XO.q (Q.move rfl) ?_
          refine XO.q (Q.mul rfl rfl ⟨by omega, by omega⟩) ?_
          refine XO.q (Q.assign rfl) ?_
          refine XO.done ?_
          refine XK.seq ?_
          refine XK.region rfl ?_
          refine XO.q (Q.move rfl) ?_
          refine XO.q (Q.gtr rfl rfl) ?_
          refine XO.done ?_
          refine XK.if rfl (fun c4 => ?_) (fun c4 => ?_)
          · have _t4 := True.intro
            have mt := manyTo_true (l := l.map Prod.snd) (n := (l.map Prod.snd).length) (i := i) (by omega) (by rw [pn.1]; omega)
            refine XK.seq ?_
            refine XK.region rfl ?_
            refine XO.q (Q.assign rfl) ?_
            refine XO.q (Q.assign rfl) ?_
            refine XO.done ?_
            refine XK.rt [] Try.func25 Try.results25 (.t rfl (.t rfl .n)) ?_
            exact ⟨by rw [listedG, if_neg (by omega), if_neg c1, if_pos mt], rfl⟩
          · have _t4 := True.intro
            refine XK.skip ?_
            refine XK.inBlock ?_
            refine XK.region rfl ?_
            refine XO.q (Q.add rfl rfl ⟨by omega, by omega⟩) ?_
            refine XO.q (Q.move rfl) ?_
            refine XO.done ?_
            rw [← pn.1]
            exact ih0 (i + 1) _ _ ⟨⟨by omega, by rw [pn.1]; omega⟩, fun k hk => by
              by_cases h : k = i
              · subst h; rw [pn.1]; omega
              · exact hp k (by omega)⟩ (by first | omega | (dsimp only; omega)) (.c rfl (.c rfl (.base 61 rfl rfl))) inferInstance
      · have _t2 := True.intro
        refine XK.exit rfl ?_
        refine XK.seq ?_
        refine XK.region rfl ?_
        refine XO.q (Q.move rfl) ?_
        refine XO.q (Q.assign rfl) ?_
        refine XO.q (Q.assign rfl) ?_
        refine XO.done ?_
        refine XK.rt [] Try.func25 Try.results25 (.t rfl (.t rfl .n)) ?_
        have hil : i = (l.map Prod.snd).length := by omega
        exact ⟨by rw [listedG, if_neg (by omega), if_neg c1, if_neg (by rw [manyTo_false.2 fun k hk => hp k (by omega)]; decide), ← hil], rfl⟩
theorem keyI : KeyT Try.prog 3 encK1 := KeyT.int (by kernel_rfl)
set_option maxHeartbeats 2000000 in
theorem sums_spec (l : List (Value × PJob)) (vl : Value) (hl K : PHeap) [jl : Arr vl encPJ 6 hl l] (aL : JobsK l K) (ok : ListOk (l.map Prod.snd)) : Spec Try.prog 26 #[vl] [] [hl, K] (fun v hs => ∃ b es, v = .map (some b) ∧ hs = [mapH b encK1 es] ∧ MapIs es (combos (l.map Prod.snd))) := by
  haveI := keyI
  have ll := jl.le
  have lm : (l.map Prod.snd).length = l.length := List.length_map ..
  have few := ok.few
  refine Spec.intro (fn := Try.f26) (N := 49) Try.func26 rfl Try.ntmps26 rfl fun B => ?_
  refine XK.seq ?_
  refine XK.region rfl ?_
  refine XO.q (Q.assign rfl) ?_
  refine XO.done ?_
  refine XK.seq ?_
  refine XK.region rfl ?_
  refine XO.map encK1 fun b11 => ?_
  refine XO.insert (enc := encK1) (0) rfl rfl rfl ?_
  refine XO.q (Q.move rfl) ?_
  refine XO.q (Q.assign rfl) ?_
  refine XO.done ?_
  refine XK.seq ?_
  refine XK.seq ?_
  refine XK.region rfl ?_
  refine XO.q (Q.move rfl) ?_
  refine XO.len rfl fun l14 => ?_
  refine XO.q (Q.move rfl) ?_
  refine XO.done ?_
  refine XK.block ?_
  refine XK.while (X := Nat × Nat × List (Int × Value)) [3, 5, 6, 7, 8, 10, 15, 16, 17, 18, 19, 20, 21, 22, 23, 24, 25, 26, 27, 28, 29, 30, 31, 32, 33, 34, 35, 36, 37, 38, 39, 40, 41, 42, 43, 44, 45, 46, 47] (fun ⟨i, b, es⟩ => [(15, some (.int .i64 (i : Nat))), (3, some (.map (some b)))]) (fun ⟨i, b, es⟩ => [mapH b encK1 es]) (fun ⟨i, b, es⟩ => i ≤ l.length ∧ MapIs es (combos ((l.map Prod.snd).take i))) (fun ⟨i, b, es⟩ => l.length - i) (0, b11, putM 0 (.int .i64 1) []) [mapH b11 encK1 (putM 0 (.int .i64 1) [])] rfl ⟨by omega, MapIs.one⟩ (.c rfl (.c rfl (.base 0 rfl rfl))) ?_
  rintro ⟨i, b, es⟩ ⟨hi, mi⟩ ih0
  dsimp only [List.cons_append, List.nil_append] at ih0 ⊢
  refine XK.seq ?_
  refine XK.region rfl ?_
  refine XO.q (Q.lss rfl rfl) ?_
  refine XO.done ?_
  refine XK.seq ?_
  refine XK.if rfl (fun c0 => ?_) (fun c0 => ?_)
  · have _t0 := True.intro
    have ji := map_snd_atP l i
    have ai := aL i (by omega)
    have sb := step_bound ok (i := i) (by omega)
    rw [ji] at sb
    have jok := ok.job i (by omega)
    rw [ji] at jok
    have jf := jok.few
    refine XK.skip ?_
    refine XK.seq ?_
    refine XK.block ?_
    refine XK.seq ?_
    refine XK.region rfl ?_
    refine XO.ix rfl rfl (by omega) (by omega) fun i17 => ?_
    refine XO.q (Q.ldEA [_, _, _, _, _, _] rfl (by first | assumption | omega) rfl rfl) ?_
    refine XO.alloc fun b5 => ?_
    refine XO.st rfl rfl rfl ?_
    refine XO.done ?_
    refine XK.seq ?_
    refine XK.region rfl ?_
    refine XO.map encK1 fun b19 => ?_
    refine XO.q (Q.assign rfl) ?_
    refine XO.done ?_
    refine XK.seq ?_
    refine XK.seq ?_
    refine XK.region rfl ?_
    refine XO.q (Q.move rfl) ?_
    refine XO.range rfl fun q21 => ?_
    refine XO.done ?_
    refine XK.block ?_
    refine XK.while (X := List Nat × List (Int × Value)) [7, 8, 10, 22, 23, 24, 25, 26, 27, 28, 29, 30, 31, 32, 33, 34, 35, 36, 37, 38, 39, 40, 41, 42, 43, 44, 45] (fun ⟨seen, es2⟩ => []) (fun ⟨seen, es2⟩ => [itH q21 b es.length seen, mapH b19 encK1 es2]) (fun ⟨seen, es2⟩ => seen.Nodup ∧ (∀ i ∈ seen, i < es.length) ∧ MapIs es2 (given es (l.getD i default).2 seen)) (fun ⟨seen, es2⟩ => es.length - seen.length) ([], []) [itH q21 b es.length [], mapH b19 encK1 []] rfl ⟨List.nodup_nil, fun i h => (by cases h), MapIs.nil⟩ (.base 0 rfl rfl) ?_
    rintro ⟨seen, es2⟩ ⟨hnd, hlt, h2⟩ ih1
    dsimp only [List.cons_append, List.nil_append] at ih1 ⊢
    refine XK.seq ?_
    refine XK.region rfl ?_
    refine XO.next rfl rfl fun more22 nl22 seen22 out22 => ?_
    refine XO.q (Q.extract0 rfl) ?_
    refine XO.done ?_
    refine XK.seq ?_
    refine XK.if rfl (fun c1 => ?_) (fun c1 => ?_)
    · have _t1 := True.intro
      obtain ⟨q, hq, hqs, rfl⟩ := out22.next c1
      have kr := combos_rng ok i (by omega) _ (mi.at hq).2.2
      refine XK.skip ?_
      refine XK.block ?_
      refine XK.seq ?_
      refine XK.region rfl ?_
      refine XO.q (Q.entry (i := q) rfl rfl hq) ?_
      refine XO.q (Q.extract rfl rfl) ?_
      refine XO.q (Q.extract rfl rfl) ?_
      rw [(mi.at hq).1]
      refine XO.q (Q.assign rfl) ?_
      refine XO.q (Q.assign rfl) ?_
      refine XO.done ?_
      refine XK.seq ?_
      refine XK.region rfl ?_
      refine XO.q (Q.fieldAddr rfl) ?_
      refine XO.q (Q.ld rfl rfl) ?_
      refine XO.len rfl fun l29 => ?_
      refine XO.q (Q.move rfl) ?_
      refine XO.done ?_
      refine XK.block ?_
      refine XK.while (X := Nat × List (Int × Value)) [10, 30, 31, 32, 33, 34, 35, 36, 37, 38, 39, 40, 41, 42, 43, 44, 45] (fun ⟨k, es3⟩ => [(30, some (.int .i64 (k : Nat)))]) (fun ⟨k, es3⟩ => [mapH b19 encK1 es3]) (fun ⟨k, es3⟩ => k ≤ (l.getD i default).2.draws.length ∧ MapIs es3 (given es (l.getD i default).2 seen ++ give (l.getD i default).2 k (es.getD q default))) (fun ⟨k, es3⟩ => (l.getD i default).2.draws.length - k) (0, es2) [mapH b19 encK1 es2] rfl ⟨by omega, by (try dsimp only); rw [count_nil_give]; exact h2⟩ (.c rfl (.base 0 rfl rfl)) ?_
      rintro ⟨k, es3⟩ ⟨hk, h4⟩ ih2
      dsimp only [List.cons_append, List.nil_append] at ih2 ⊢
      refine XK.seq ?_
      refine XK.region rfl ?_
      refine XO.q (Q.lss rfl rfl) ?_
      refine XO.done ?_
      refine XK.seq ?_
      refine XK.if rfl (fun c2 => ?_) (fun c2 => ?_)
      · have _t2 := True.intro
        have dk := jok.draw k (by omega)
        unfold DrawOk at dk
        refine XK.skip ?_
        refine XK.seq ?_
        refine XK.block ?_
        refine XK.seq ?_
        refine XK.region rfl ?_
        refine XO.ix rfl rfl (by omega) (by omega) fun i32 => ?_
        refine XO.q (Q.ldEA [_, _] rfl (by first | assumption | omega) rfl rfl) ?_
        refine XO.alloc fun b10 => ?_
        refine XO.st rfl rfl rfl ?_
        refine XO.done ?_
        refine XK.region rfl ?_
        refine XO.q (Q.move rfl) ?_
        refine XO.q (Q.move rfl) ?_
        refine XO.q (Q.fieldAddr rfl) ?_
        refine XO.q (Q.ld rfl rfl) ?_
        refine XO.q (Q.add rfl rfl ⟨by omega, by omega⟩) ?_
        refine XO.q (Q.lookup (enc := encK1) _ Try.zeroValue3 ((es.getD q default).1 + ((l.getD i default).2.draws.getD k default).power) rfl rfl) ?_
        rw [h4.get]
        refine XO.q (Q.move rfl) ?_
        refine XO.q (Q.fieldAddr rfl) ?_
        refine XO.q (Q.ld rfl rfl) ?_
        obtain ⟨gv1, gv2, gv3⟩ := mi.give jok h4 hq (by omega) hnd hlt hqs sb.1 sb.2 rfl rfl rfl
        refine XO.q (Q.mul rfl rfl ⟨by omega, by omega⟩) ?_
        refine XO.q (Q.add rfl rfl ⟨by omega, by omega⟩) ?_
        refine XO.mapUpdate (enc := encK1) ((es.getD q default).1 + ((l.getD i default).2.draws.getD k default).power) rfl rfl rfl ?_
        refine XO.done ?_
        refine XK.inBlock ?_
        refine XK.region rfl ?_
        refine XO.q (Q.add rfl rfl ⟨by omega, by omega⟩) ?_
        refine XO.q (Q.move rfl) ?_
        refine XO.done ?_
        exact ih2 (k + 1, _) _ _ ⟨by dsimp only; omega, gv3⟩ (by first | omega | (dsimp only; omega)) (.c rfl (.base 35 rfl rfl)) inferInstance
      · have _t2 := True.intro
        have hkl : k = (l.getD i default).2.draws.length := by omega
        subst hkl
        refine XK.exit rfl ?_
        refine XK.inBlock ?_
        exact ih1 (seen ++ [q], es3) _ _ ⟨nodup_snoc hnd hqs, mem_snoc hlt hq, by dsimp only; rw [given_snoc]; exact h4⟩ (by have := seen_few (nodup_snoc hnd hqs) (mem_snoc hlt hq); rw [List.length_append, List.length_singleton] at this; dsimp only; rw [List.length_append, List.length_singleton]; omega) (.base 57 rfl rfl) inferInstance
    · have _t1 := True.intro
      obtain ⟨rfl, hall⟩ := out22.done (by simpa using c1)
      have h3 := h2.perm (given_all mi hnd hlt hall)
      refine XK.exit rfl ?_
      refine XK.region rfl ?_
      refine XO.q (Q.move rfl) ?_
      refine XO.q (Q.assign rfl) ?_
      refine XO.done ?_
      refine XK.inBlock ?_
      refine XK.region rfl ?_
      refine XO.q (Q.add rfl rfl ⟨by omega, by omega⟩) ?_
      refine XO.q (Q.move rfl) ?_
      refine XO.done ?_
      exact ih0 (i + 1, b19, es2) _ _ ⟨by dsimp only; omega, by dsimp only; rw [combos_succ (by omega), ji]; exact h3⟩ (by first | omega | (dsimp only; omega)) (.c rfl (.c rfl (.base 82 rfl rfl))) inferInstance
  · have _t0 := True.intro
    refine XK.exit rfl ?_
    refine XK.seq ?_
    refine XK.region rfl ?_
    refine XO.q (Q.move rfl) ?_
    refine XO.q (Q.assign rfl) ?_
    refine XO.done ?_
    refine XK.rt [mapH b encK1 es] Try.func26 Try.results26 (.t rfl .n) ?_
    have hil : i = l.length := by omega
    rw [← lm] at hil
    rw [hil, List.take_length] at mi
    exact ⟨b, es, rfl, rfl, mi⟩
end Go.X

set_option linter.unusedSimpArgs false
set_option linter.unusedVariables false
set_option maxRecDepth 20000
namespace Go.X
open Go.Proofs
set_option maxHeartbeats 2000000 in
theorem over_spec (l : List (Value × PJob)) (vl : Value) (hl K : PHeap) [jl : Arr vl encPJ 6 hl l] (aL : JobsK l K) (ok : ListOk (l.map Prod.snd)) (limit all : Int) (ha : 1 ≤ all ∧ all ≤ 1099511627776) : Spec Try.prog 29 #[vl, .int .i64 limit, .int .i64 all] [] [hl, K] (fun v hs => v = .agg #[.int .i64 (overG (l.map Prod.snd) limit all).n, .int .i64 (overG (l.map Prod.snd) limit all).d] ∧ hs = []) := by
  have cl := combos_len ok (l.map Prod.snd).length (Nat.le_refl _)
  rw [List.take_length] at cl
  have pr := ok.prod (l.map Prod.snd).length (Nat.le_refl _)
  have ol := over_len (combos (l.map Prod.snd)) limit
  have gp := gcd_pos (n := ((overN (combos (l.map Prod.snd)) limit : Nat) : Int)) ha.1
  refine Spec.intro (fn := Try.f29) (N := 35) Try.func29 rfl Try.ntmps29 rfl fun B => ?_
  refine XK.seq ?_
  refine XK.region rfl ?_
  refine XO.alloc fun b6 => ?_
  refine XO.done ?_
  refine XK.seq ?_
  refine XK.region rfl ?_
  refine XO.q (Q.assign rfl) ?_
  refine XO.done ?_
  refine XK.seq ?_
  refine XK.seq ?_
  refine XK.region rfl ?_
  refine XO.q (Q.move rfl) ?_
  refine XO.call Try.call26 rfl rfl rfl (sums_spec l vl hl K aL ok) fun v12 s12 R12 => ?_
  obtain ⟨b, es, rfl, rfl, mi⟩ := R12
  dsimp only [List.cons_append, List.nil_append]
  refine XO.range rfl fun q13 => ?_
  refine XO.done ?_
  refine XK.block ?_
  refine XK.while (X := List Nat) [7, 8, 9, 14, 15, 16, 17, 18, 19, 20, 21, 22, 23, 24] (fun seen => [(7, some (.int .i64 (overS es limit seen)))]) (fun seen => [itH q13 b es.length seen]) (fun seen => seen.Nodup ∧ (∀ i ∈ seen, i < es.length)) (fun seen => es.length - seen.length) ([]) [itH q13 b es.length []] rfl ⟨List.nodup_nil, fun i h => (by cases h)⟩ (.c rfl (.base 0 rfl rfl)) ?_
  rintro seen ⟨hnd, hlt⟩ ih0
  dsimp only [List.cons_append, List.nil_append] at ih0 ⊢
  refine XK.seq ?_
  refine XK.region rfl ?_
  refine XO.next rfl rfl fun more14 nl14 seen14 out14 => ?_
  refine XO.q (Q.extract0 rfl) ?_
  refine XO.done ?_
  refine XK.seq ?_
  refine XK.if rfl (fun c0 => ?_) (fun c0 => ?_)
  · have _t0 := True.intro
    obtain ⟨q, hq, hqs, rfl⟩ := out14.next c0
    refine XK.skip ?_
    refine XK.block ?_
    refine XK.seq ?_
    refine XK.region rfl ?_
    refine XO.q (Q.entry (i := q) rfl rfl hq) ?_
    refine XO.q (Q.extract rfl rfl) ?_
    refine XO.q (Q.extract rfl rfl) ?_
    rw [(mi.at hq).1]
    have os := overS_snoc es limit seen q
    rw [(mi.at hq).2.1] at os
    have orr := overS_rng (limit := limit) mi hnd hlt
    have cle : List.count (es.getD q default).1 (combos (l.map Prod.snd)) ≤ (combos (l.map Prod.snd)).length := List.count_le_length
    refine XO.q (Q.assign rfl) ?_
    refine XO.q (Q.assign rfl) ?_
    refine XO.done ?_
    refine XK.seq ?_
    refine XK.region rfl ?_
    refine XO.q (Q.move rfl) ?_
    refine XO.q (Q.move rfl) ?_
    refine XO.q (Q.gtr rfl rfl) ?_
    refine XO.done ?_
    refine XK.if rfl (fun c1 => ?_) (fun c1 => ?_)
    · have _t1 := True.intro
      rw [if_pos c1] at os
      refine XK.region rfl ?_
      refine XO.q (Q.move rfl) ?_
      refine XO.q (Q.move rfl) ?_
      refine XO.q (Q.add rfl rfl ⟨by omega, by omega⟩) ?_
      refine XO.q (Q.assign rfl) ?_
      refine XO.done ?_
      refine XK.inBlock ?_
      rw [← os]
      exact ih0 (seen ++ [q]) _ _ ⟨nodup_snoc hnd hqs, mem_snoc hlt hq⟩ (by have := seen_few (nodup_snoc hnd hqs) (mem_snoc hlt hq); rw [List.length_append, List.length_singleton] at this; (try dsimp only); rw [List.length_append, List.length_singleton]; omega) (.c rfl (.base 29 rfl rfl)) inferInstance
    · have _t1 := True.intro
      rw [if_neg c1, Int.add_zero] at os
      refine XK.skip ?_
      refine XK.inBlock ?_
      rw [← os]
      exact ih0 (seen ++ [q]) _ _ ⟨nodup_snoc hnd hqs, mem_snoc hlt hq⟩ (by have := seen_few (nodup_snoc hnd hqs) (mem_snoc hlt hq); rw [List.length_append, List.length_singleton] at this; (try dsimp only); rw [List.length_append, List.length_singleton]; omega) (.c rfl (.base 25 rfl rfl)) inferInstance
  · have _t0 := True.intro
    obtain ⟨rfl, hall⟩ := out14.done (by simpa using c0)
    rw [overS_all mi hnd hlt hall]
    refine XK.exit rfl ?_
    refine XK.seq ?_
    refine XK.region rfl ?_
    refine XO.q (Q.move rfl) ?_
    refine XO.q (Q.move rfl) ?_
    refine XO.call Try.call62 rfl rfl rfl ((by
      have q := divisor_spec (overN (combos (l.map Prod.snd)) limit) all.toNat (by omega) (by omega)
      rw [show ((all.toNat : Nat) : Int) = all by omega] at q
      exact q)) fun v27 s27 R27 => ?_
    obtain ⟨rfl, rfl⟩ := R27
    dsimp only [List.cons_append, List.nil_append]
    rw [show (Nat.gcd (overN (combos (l.map Prod.snd)) limit) all.toNat : Nat) = Int.gcd ((overN (combos (l.map Prod.snd)) limit : Nat) : Int) all by unfold Int.gcd; rw [Int.natAbs_natCast, show all.natAbs = all.toNat by omega]]
    refine XO.q (Q.assign rfl) ?_
    refine XO.done ?_
    refine XK.seq ?_
    refine XK.drawn [0, 1, 2, 3, 4, 5, 6] [] [] (.q 0 (.q 1 (.q 2 (.q 3 (.q 4 (.q 5 (.q 6 (.br 7 false .done .stop)))))))) Try.mixed rfl (by kernel_rfl) ?_
    refine XT.q rfl rfl (Q.move rfl) ?_
    refine XT.q rfl rfl (Q.move rfl) ?_
    refine XT.q rfl rfl (Q.quo rfl rfl (by omega) (by omega) (by omega)) ?_
    refine XT.q rfl rfl (Q.move rfl) ?_
    refine XT.q rfl rfl (Q.move rfl) ?_
    refine XT.q rfl rfl (Q.quo rfl rfl (by omega) (by omega) (by omega)) ?_
    refine XT.q rfl rfl (Q.build [_, _] (.c 0 1 rfl rfl rfl (.c 1 1 rfl rfl rfl (.n _)))) ?_
    refine XT.st rfl rfl rfl rfl rfl ⟨inferInstance, ?_⟩ XT.stop
    refine XT.done ?_
    refine XK.rt [] Try.func29 Try.results29 (.cell [_, _] rfl rfl rfl (.n)) ?_
    exact ⟨rfl, rfl⟩
theorem listed_rng {l : List PJob} (ok : ListOk l) : listedG l = (prodJ l l.length, 0) ∧ 1 ≤ prodJ l l.length ∧ prodJ l l.length ≤ 1099511627776 := ⟨listed_prod ok, prod_pos ok _ (Nat.le_refl _), ok.prod _ (Nat.le_refl _)⟩
theorem Chance_spec (l : List (Value × PJob)) (vl : Value) (hl K : PHeap) [jl : Arr vl encPJ 6 hl l] (aL : JobsK l K) (limit : Int) : Spec Try.prog 10 #[vl, .int .i64 limit] [] [hl, K] (fun v hs => v = .tuple #[.agg #[.int .i64 (chanceG (l.map Prod.snd) limit).1.n, .int .i64 (chanceG (l.map Prod.snd) limit).1.d], .int .i64 (chanceG (l.map Prod.snd) limit).2] ∧ hs = []) := by
  refine Spec.intro (fn := Try.f10) (N := 21) Try.func10 rfl Try.ntmps10 rfl fun B => ?_
  refine XK.seq ?_
  refine XK.region rfl ?_
  refine XO.alloc fun b4 => ?_
  refine XO.q (Q.assign rfl) ?_
  refine XO.done ?_
  refine XK.seq ?_
  refine XK.region rfl ?_
  refine XO.q (Q.move rfl) ?_
  refine XO.call Try.call25 rfl rfl rfl (listed_spec l vl hl K aL) fun v10 s10 R10 => ?_
  obtain ⟨rfl, rfl⟩ := R10
  dsimp only [List.cons_append, List.nil_append]
  refine XO.q (Q.move rfl) ?_
  refine XO.q (Q.extract rfl rfl) ?_
  refine XO.q (Q.extract rfl rfl) ?_
  refine XO.q (Q.assign rfl) ?_
  refine XO.q (Q.assign rfl) ?_
  refine XO.done ?_
  refine XK.seq ?_
  refine XK.seq ?_
  refine XK.region rfl ?_
  refine XO.q (Q.move rfl) ?_
  refine XO.q (Q.neq rfl rfl) ?_
  refine XO.done ?_
  refine XK.if rfl (fun c0 => ?_) (fun c0 => ?_)
  · have _t0 := True.intro
    refine XK.seq ?_
    refine XK.region rfl ?_
    refine XO.q (Q.build [_, _] (.n _)) ?_
    refine XO.q (Q.move rfl) ?_
    refine XO.st rfl rfl rfl ?_
    refine XO.q (Q.assign rfl) ?_
    refine XO.done ?_
    refine XK.rt [] Try.func10 Try.results10 (.cell [_, _] rfl rfl rfl (.t rfl .n)) ?_
    exact ⟨by rw [chanceG, if_pos c0], rfl⟩
  · have _t0 := True.intro
    have ok := listed_ok.1 (Decidable.of_not_not c0)
    have lr := listed_rng ok
    refine XK.skip ?_
    refine XK.seq ?_
    refine XK.region rfl ?_
    refine XO.q (Q.move rfl) ?_
    refine XO.q (Q.move rfl) ?_
    refine XO.q (Q.move rfl) ?_
    refine XO.call Try.call29 rfl rfl rfl (over_spec l vl hl K aL ok limit (listedG (l.map Prod.snd)).1 (by rw [lr.1]; exact lr.2)) fun v20 s20 R20 => ?_
    obtain ⟨rfl, rfl⟩ := R20
    dsimp only [List.cons_append, List.nil_append]
    refine XO.st rfl rfl rfl ?_
    refine XO.q (Q.assign rfl) ?_
    refine XO.done ?_
    refine XK.rt [] Try.func10 Try.results10 (.cell [_, _] rfl rfl rfl (.t rfl .n)) ?_
    exact ⟨by rw [chanceG, if_neg c0], rfl⟩
theorem atMost_spec (a b : PRat) (ha : (0 ≤ a.n ∧ a.n ≤ 1099511627776) ∧ (0 ≤ a.d ∧ a.d ≤ 1099511627776)) (hb : (0 ≤ b.n ∧ b.n ≤ 1000000) ∧ (0 ≤ b.d ∧ b.d ≤ 1000000)) : Spec Try.prog 55 #[.agg #[.int .i64 a.n, .int .i64 a.d], .agg #[.int .i64 b.n, .int .i64 b.d]] [] [] (fun v hs => v = .bool (atMostB a b) ∧ hs = []) := by
  have m1 := mulP ha.1 hb.2
  have m2 := mulP ha.2 hb.1
  rw [Int.mul_comm a.d] at m2
  refine Spec.intro (fn := Try.f55) (N := 16) Try.func55 rfl Try.ntmps55 rfl fun B => ?_
  refine XK.seq ?_
  refine XK.region rfl ?_
  refine XO.box rfl fun b2 => ?_
  refine XO.box rfl fun b3 => ?_
  refine XO.q (Q.assign rfl) ?_
  refine XO.done ?_
  refine XK.seq ?_
  refine XK.region rfl ?_
  refine XO.q (Q.fieldAddr rfl) ?_
  refine XO.q (Q.ld rfl rfl) ?_
  refine XO.q (Q.fieldAddr rfl) ?_
  refine XO.q (Q.ld rfl rfl) ?_
  refine XO.q (Q.mul rfl rfl ⟨by omega, by omega⟩) ?_
  refine XO.q (Q.fieldAddr rfl) ?_
  refine XO.q (Q.ld rfl rfl) ?_
  refine XO.q (Q.fieldAddr rfl) ?_
  refine XO.q (Q.ld rfl rfl) ?_
  refine XO.q (Q.mul rfl rfl ⟨by omega, by omega⟩) ?_
  refine XO.q (Q.leq rfl rfl) ?_
  refine XO.q (Q.assign rfl) ?_
  refine XO.done ?_
  refine XK.rt [] Try.func55 Try.results55 (.t rfl .n) ?_
  exact ⟨rfl, rfl⟩
set_option maxHeartbeats 4000000 in
theorem fits_spec (l : List (Value × PJob)) (vl : Value) (hl K : PHeap) [jl : Arr vl encPJ 6 hl l] (aL : JobsK l K) (ok : ListOk (l.map Prod.snd)) (r : PRack) (m : PRat) (hm : chanceR m = true) (all : Int) (ha : all = prodJ (l.map Prod.snd) (l.map Prod.snd).length) : Spec Try.prog 65 #[vl, .agg #[.int .i64 r.r0, .int .i64 r.r1, .int .i64 r.r2, .int .i64 r.cap, .int .i64 r.domain], .agg #[.int .i64 m.n, .int .i64 m.d], .int .i64 all] [] [hl, K] (fun v hs => v = .bool (fitsG (l.map Prod.snd) r m) ∧ hs = []) := by
  have ll := jl.le
  have lm : (l.map Prod.snd).length = l.length := List.length_map ..
  have few := ok.few
  have lr := listed_rng ok
  have mr := chanceR_rng hm
  refine Spec.intro (fn := Try.f65) (N := 55) Try.func65 rfl Try.ntmps65 rfl fun B => ?_
  refine XK.seq ?_
  refine XK.region rfl ?_
  refine XO.box rfl fun b5 => ?_
  refine XO.box rfl fun b6 => ?_
  refine XO.q (Q.assign rfl) ?_
  refine XO.done ?_
  refine XK.seq ?_
  refine XK.region rfl ?_
  refine XO.alloc fun b9 => ?_
  refine XO.done ?_
  refine XK.seq ?_
  refine XK.seq ?_
  refine XK.region rfl ?_
  refine XO.q (Q.move rfl) ?_
  refine XO.len rfl fun l17 => ?_
  refine XO.q (Q.move rfl) ?_
  refine XO.done ?_
  refine XK.block ?_
  refine XK.while (X := Nat) [11, 12, 13, 18, 19, 20, 21, 22, 23, 24, 25, 26, 27, 28, 29, 30, 31, 32, 33, 34, 35] (fun i => [(18, some (.int .i64 (i : Nat)))]) (fun i => [blk b9 [.int .i64 (needK (l.map Prod.snd) 0 i), .int .i64 (needK (l.map Prod.snd) 1 i), .int .i64 (needK (l.map Prod.snd) 2 i)] 37]) (fun i => i ≤ l.length) (fun i => l.length - i) (0) [blk b9 [.int .i64 0, .int .i64 0, .int .i64 0] 37] rfl (by omega) (.c rfl (.base 0 rfl rfl)) ?_
  rintro i hi ih0
  dsimp only [List.cons_append, List.nil_append] at ih0 ⊢
  refine XK.seq ?_
  refine XK.region rfl ?_
  refine XO.q (Q.lss rfl rfl) ?_
  refine XO.done ?_
  refine XK.seq ?_
  refine XK.if rfl (fun c0 => ?_) (fun c0 => ?_)
  · have _t0 := True.intro
    have ji := map_snd_atP l i
    have ai := aL i (by omega)
    have jok := ok.job i (by omega)
    rw [ji] at jok
    have nr := pin_three.1 jok.need
    have na := need_succ (l := l.map Prod.snd) (i := i) (by omega)
    rw [ji] at na
    have nb := need_rng ok i (by omega)
    obtain ⟨na0, na1, na2⟩ := na
    refine XK.skip ?_
    refine XK.seq ?_
    refine XK.block ?_
    refine XK.seq ?_
    refine XK.region rfl ?_
    refine XO.ix rfl rfl (by omega) (by omega) fun i20 => ?_
    refine XO.q (Q.ldEA [_, _, _, _, _, _] rfl (by first | assumption | omega) rfl rfl) ?_
    refine XO.alloc fun b11 => ?_
    refine XO.st rfl rfl rfl ?_
    refine XO.done ?_
    refine XK.seq ?_
    refine XK.region rfl ?_
    refine XO.q (Q.fieldAddr rfl) ?_
    refine XO.q (Q.ldA [_, _, _] rfl rfl rfl) ?_
    refine XO.q (Q.move rfl) ?_
    refine XO.done ?_
    refine XK.block ?_
    refine XK.loop' ?_
    refine XK.seq ?_
    refine XK.region rfl ?_
    refine XO.q (Q.lss rfl rfl) ?_
    refine XO.done ?_
    refine XK.seq ?_
    refine XK.if rfl (fun c1 => ?_) (fun c1 => ?_)
    · have _t1 := True.intro
      refine XK.skip ?_
      refine XK.seq ?_
      refine XK.block ?_
      refine XK.seq ?_
      refine XK.region rfl ?_
      refine XO.q (Q.move rfl) ?_
      refine XO.q (Q.index rfl rfl (by decide) (Nat.le_of_ble_eq_true rfl)) ?_
      refine XO.q (Q.assign rfl) ?_
      refine XO.q (Q.assign rfl) ?_
      refine XO.done ?_
      refine XK.region rfl ?_
      refine XO.q (Q.move rfl) ?_
      refine XO.q (Q.ixA rfl rfl (by omega) (by omega)) ?_
      (try rw [show (0 + Int.toNat 0 * 1 : Nat) = 0 from rfl])
      (try rw [show (0 + Int.toNat 1 * 1 : Nat) = 1 from rfl])
      (try rw [show (0 + Int.toNat 2 * 1 : Nat) = 2 from rfl])
      refine XO.q (Q.ld rfl rfl) ?_
      refine XO.q (Q.move rfl) ?_
      refine XO.q (Q.add rfl rfl ⟨by omega, by omega⟩) ?_
      refine XO.q (Q.ixA rfl rfl (by omega) (by omega)) ?_
      (try rw [show (0 + Int.toNat 0 * 1 : Nat) = 0 from rfl])
      (try rw [show (0 + Int.toNat 1 * 1 : Nat) = 1 from rfl])
      (try rw [show (0 + Int.toNat 2 * 1 : Nat) = 2 from rfl])
      refine XO.st rfl rfl rfl ?_
      refine XO.done ?_
      refine XK.inBlock ?_
      refine XK.region rfl ?_
      refine XO.q (Q.add rfl rfl ⟨by omega, by omega⟩) ?_
      (try rw [show ((0 : Int) + 1) = 1 from rfl])
      (try rw [show ((1 : Int) + 1) = 2 from rfl])
      (try rw [show ((2 : Int) + 1) = 3 from rfl])
      refine XO.q (Q.move rfl) ?_
      refine XO.done ?_
      refine XK.inLoop' ?_
      refine XK.seq ?_
      refine XK.region rfl ?_
      refine XO.q (Q.lss rfl rfl) ?_
      refine XO.done ?_
      refine XK.seq ?_
      refine XK.if rfl (fun c2 => ?_) (fun c2 => ?_)
      · have _t2 := True.intro
        refine XK.skip ?_
        refine XK.seq ?_
        refine XK.block ?_
        refine XK.seq ?_
        refine XK.region rfl ?_
        refine XO.q (Q.move rfl) ?_
        refine XO.q (Q.index rfl rfl (by decide) (Nat.le_of_ble_eq_true rfl)) ?_
        refine XO.q (Q.assign rfl) ?_
        refine XO.q (Q.assign rfl) ?_
        refine XO.done ?_
        refine XK.region rfl ?_
        refine XO.q (Q.move rfl) ?_
        refine XO.q (Q.ixA rfl rfl (by omega) (by omega)) ?_
        (try rw [show (0 + Int.toNat 0 * 1 : Nat) = 0 from rfl])
        (try rw [show (0 + Int.toNat 1 * 1 : Nat) = 1 from rfl])
        (try rw [show (0 + Int.toNat 2 * 1 : Nat) = 2 from rfl])
        refine XO.q (Q.ld rfl rfl) ?_
        refine XO.q (Q.move rfl) ?_
        refine XO.q (Q.add rfl rfl ⟨by omega, by omega⟩) ?_
        refine XO.q (Q.ixA rfl rfl (by omega) (by omega)) ?_
        (try rw [show (0 + Int.toNat 0 * 1 : Nat) = 0 from rfl])
        (try rw [show (0 + Int.toNat 1 * 1 : Nat) = 1 from rfl])
        (try rw [show (0 + Int.toNat 2 * 1 : Nat) = 2 from rfl])
        refine XO.st rfl rfl rfl ?_
        refine XO.done ?_
        refine XK.inBlock ?_
        refine XK.region rfl ?_
        refine XO.q (Q.add rfl rfl ⟨by omega, by omega⟩) ?_
        (try rw [show ((0 : Int) + 1) = 1 from rfl])
        (try rw [show ((1 : Int) + 1) = 2 from rfl])
        (try rw [show ((2 : Int) + 1) = 3 from rfl])
        refine XO.q (Q.move rfl) ?_
        refine XO.done ?_
        refine XK.inLoop' ?_
        refine XK.seq ?_
        refine XK.region rfl ?_
        refine XO.q (Q.lss rfl rfl) ?_
        refine XO.done ?_
        refine XK.seq ?_
        refine XK.if rfl (fun c3 => ?_) (fun c3 => ?_)
        · have _t3 := True.intro
          refine XK.skip ?_
          refine XK.seq ?_
          refine XK.block ?_
          refine XK.seq ?_
          refine XK.region rfl ?_
          refine XO.q (Q.move rfl) ?_
          refine XO.q (Q.index rfl rfl (by decide) (Nat.le_of_ble_eq_true rfl)) ?_
          refine XO.q (Q.assign rfl) ?_
          refine XO.q (Q.assign rfl) ?_
          refine XO.done ?_
          refine XK.region rfl ?_
          refine XO.q (Q.move rfl) ?_
          refine XO.q (Q.ixA rfl rfl (by omega) (by omega)) ?_
          (try rw [show (0 + Int.toNat 0 * 1 : Nat) = 0 from rfl])
          (try rw [show (0 + Int.toNat 1 * 1 : Nat) = 1 from rfl])
          (try rw [show (0 + Int.toNat 2 * 1 : Nat) = 2 from rfl])
          refine XO.q (Q.ld rfl rfl) ?_
          refine XO.q (Q.move rfl) ?_
          refine XO.q (Q.add rfl rfl ⟨by omega, by omega⟩) ?_
          refine XO.q (Q.ixA rfl rfl (by omega) (by omega)) ?_
          (try rw [show (0 + Int.toNat 0 * 1 : Nat) = 0 from rfl])
          (try rw [show (0 + Int.toNat 1 * 1 : Nat) = 1 from rfl])
          (try rw [show (0 + Int.toNat 2 * 1 : Nat) = 2 from rfl])
          refine XO.st rfl rfl rfl ?_
          refine XO.done ?_
          refine XK.inBlock ?_
          refine XK.region rfl ?_
          refine XO.q (Q.add rfl rfl ⟨by omega, by omega⟩) ?_
          (try rw [show ((0 : Int) + 1) = 1 from rfl])
          (try rw [show ((1 : Int) + 1) = 2 from rfl])
          (try rw [show ((2 : Int) + 1) = 3 from rfl])
          refine XO.q (Q.move rfl) ?_
          refine XO.done ?_
          refine XK.inLoop' ?_
          refine XK.seq ?_
          refine XK.region rfl ?_
          refine XO.q (Q.lss rfl rfl) ?_
          refine XO.done ?_
          refine XK.seq ?_
          refine XK.if rfl (fun c4 => ?_) (fun c4 => ?_)
          · have _t4 := True.intro
            exact absurd c4 (by decide)
          · have _t4 := True.intro
            refine XK.exit rfl ?_
            refine XK.inBlock ?_
            refine XK.region rfl ?_
            refine XO.q (Q.add rfl rfl ⟨by omega, by omega⟩) ?_
            refine XO.q (Q.move rfl) ?_
            refine XO.done ?_
            rw [← na0, ← na1, ← na2]
            exact ih0 (i + 1) _ _ (by omega) (by first | omega | (dsimp only; omega)) (.c rfl (.base 71 rfl rfl)) inferInstance
        · have _t3 := True.intro
          exact absurd (by decide) c3
      · have _t2 := True.intro
        exact absurd (by decide) c2
    · have _t1 := True.intro
      exact absurd (by decide) c1
  · have _t0 := True.intro
    have hil : i = (l.map Prod.snd).length := by omega
    refine XK.exit rfl ?_
    refine XK.seq ?_
    refine XK.seq ?_
    refine XK.region rfl ?_
    refine XO.q (Q.ldA [_, _, _] rfl rfl rfl) ?_
    refine XO.q (Q.move rfl) ?_
    refine XO.done ?_
    refine XK.block ?_
    refine XK.loop' ?_
    refine XK.seq ?_
    refine XK.region rfl ?_
    refine XO.q (Q.lss rfl rfl) ?_
    refine XO.done ?_
    refine XK.seq ?_
    refine XK.if rfl (fun c5 => ?_) (fun c5 => ?_)
    · have _t5 := True.intro
      refine XK.skip ?_
      refine XK.seq ?_
      refine XK.block ?_
      refine XK.seq ?_
      refine XK.region rfl ?_
      refine XO.q (Q.move rfl) ?_
      refine XO.q (Q.index rfl rfl (by decide) (Nat.le_of_ble_eq_true rfl)) ?_
      refine XO.q (Q.assign rfl) ?_
      refine XO.q (Q.assign rfl) ?_
      refine XO.done ?_
      refine XK.seq ?_
      refine XK.region rfl ?_
      refine XO.q (Q.move rfl) ?_
      refine XO.q (Q.move rfl) ?_
      refine XO.q (Q.fieldAddr rfl) ?_
      refine XO.q (Q.ixA rfl rfl (by omega) (by omega)) ?_
      (try rw [show (0 + Int.toNat 0 * 1 : Nat) = 0 from rfl])
      (try rw [show (0 + Int.toNat 1 * 1 : Nat) = 1 from rfl])
      (try rw [show (0 + Int.toNat 2 * 1 : Nat) = 2 from rfl])
      refine XO.q (Q.ld rfl rfl) ?_
      refine XO.q (Q.gtr rfl rfl) ?_
      refine XO.done ?_
      refine XK.if rfl (fun c6 => ?_) (fun c6 => ?_)
      · have _t6 := True.intro
        refine XK.seq ?_
        refine XK.region rfl ?_
        refine XO.q (Q.assign rfl) ?_
        refine XO.done ?_
        refine XK.rt [] Try.func65 Try.results65 (.t rfl .n) ?_
        refine ⟨?_, rfl⟩
        rw [fitsG, ← hil, decide_eq_false (show ¬ needK (l.map Prod.snd) 0 i ≤ r.r0 by omega)]
        simp
      · have _t6 := True.intro
        refine XK.skip ?_
        refine XK.inBlock ?_
        refine XK.region rfl ?_
        refine XO.q (Q.add rfl rfl ⟨by omega, by omega⟩) ?_
        (try rw [show ((0 : Int) + 1) = 1 from rfl])
        (try rw [show ((1 : Int) + 1) = 2 from rfl])
        (try rw [show ((2 : Int) + 1) = 3 from rfl])
        refine XO.q (Q.move rfl) ?_
        refine XO.done ?_
        refine XK.inLoop' ?_
        refine XK.seq ?_
        refine XK.region rfl ?_
        refine XO.q (Q.lss rfl rfl) ?_
        refine XO.done ?_
        refine XK.seq ?_
        refine XK.if rfl (fun c7 => ?_) (fun c7 => ?_)
        · have _t7 := True.intro
          refine XK.skip ?_
          refine XK.seq ?_
          refine XK.block ?_
          refine XK.seq ?_
          refine XK.region rfl ?_
          refine XO.q (Q.move rfl) ?_
          refine XO.q (Q.index rfl rfl (by decide) (Nat.le_of_ble_eq_true rfl)) ?_
          refine XO.q (Q.assign rfl) ?_
          refine XO.q (Q.assign rfl) ?_
          refine XO.done ?_
          refine XK.seq ?_
          refine XK.region rfl ?_
          refine XO.q (Q.move rfl) ?_
          refine XO.q (Q.move rfl) ?_
          refine XO.q (Q.fieldAddr rfl) ?_
          refine XO.q (Q.ixA rfl rfl (by omega) (by omega)) ?_
          (try rw [show (0 + Int.toNat 0 * 1 : Nat) = 0 from rfl])
          (try rw [show (0 + Int.toNat 1 * 1 : Nat) = 1 from rfl])
          (try rw [show (0 + Int.toNat 2 * 1 : Nat) = 2 from rfl])
          refine XO.q (Q.ld rfl rfl) ?_
          refine XO.q (Q.gtr rfl rfl) ?_
          refine XO.done ?_
          refine XK.if rfl (fun c8 => ?_) (fun c8 => ?_)
          · have _t8 := True.intro
            refine XK.seq ?_
            refine XK.region rfl ?_
            refine XO.q (Q.assign rfl) ?_
            refine XO.done ?_
            refine XK.rt [] Try.func65 Try.results65 (.t rfl .n) ?_
            refine ⟨?_, rfl⟩
            rw [fitsG, ← hil, decide_eq_false (show ¬ needK (l.map Prod.snd) 1 i ≤ r.r1 by omega)]
            simp
          · have _t8 := True.intro
            refine XK.skip ?_
            refine XK.inBlock ?_
            refine XK.region rfl ?_
            refine XO.q (Q.add rfl rfl ⟨by omega, by omega⟩) ?_
            (try rw [show ((0 : Int) + 1) = 1 from rfl])
            (try rw [show ((1 : Int) + 1) = 2 from rfl])
            (try rw [show ((2 : Int) + 1) = 3 from rfl])
            refine XO.q (Q.move rfl) ?_
            refine XO.done ?_
            refine XK.inLoop' ?_
            refine XK.seq ?_
            refine XK.region rfl ?_
            refine XO.q (Q.lss rfl rfl) ?_
            refine XO.done ?_
            refine XK.seq ?_
            refine XK.if rfl (fun c9 => ?_) (fun c9 => ?_)
            · have _t9 := True.intro
              refine XK.skip ?_
              refine XK.seq ?_
              refine XK.block ?_
              refine XK.seq ?_
              refine XK.region rfl ?_
              refine XO.q (Q.move rfl) ?_
              refine XO.q (Q.index rfl rfl (by decide) (Nat.le_of_ble_eq_true rfl)) ?_
              refine XO.q (Q.assign rfl) ?_
              refine XO.q (Q.assign rfl) ?_
              refine XO.done ?_
              refine XK.seq ?_
              refine XK.region rfl ?_
              refine XO.q (Q.move rfl) ?_
              refine XO.q (Q.move rfl) ?_
              refine XO.q (Q.fieldAddr rfl) ?_
              refine XO.q (Q.ixA rfl rfl (by omega) (by omega)) ?_
              (try rw [show (0 + Int.toNat 0 * 1 : Nat) = 0 from rfl])
              (try rw [show (0 + Int.toNat 1 * 1 : Nat) = 1 from rfl])
              (try rw [show (0 + Int.toNat 2 * 1 : Nat) = 2 from rfl])
              refine XO.q (Q.ld rfl rfl) ?_
              refine XO.q (Q.gtr rfl rfl) ?_
              refine XO.done ?_
              refine XK.if rfl (fun c10 => ?_) (fun c10 => ?_)
              · have _t10 := True.intro
                refine XK.seq ?_
                refine XK.region rfl ?_
                refine XO.q (Q.assign rfl) ?_
                refine XO.done ?_
                refine XK.rt [] Try.func65 Try.results65 (.t rfl .n) ?_
                refine ⟨?_, rfl⟩
                rw [fitsG, ← hil, decide_eq_false (show ¬ needK (l.map Prod.snd) 2 i ≤ r.r2 by omega)]
                simp
              · have _t10 := True.intro
                refine XK.skip ?_
                refine XK.inBlock ?_
                refine XK.region rfl ?_
                refine XO.q (Q.add rfl rfl ⟨by omega, by omega⟩) ?_
                (try rw [show ((0 : Int) + 1) = 1 from rfl])
                (try rw [show ((1 : Int) + 1) = 2 from rfl])
                (try rw [show ((2 : Int) + 1) = 3 from rfl])
                refine XO.q (Q.move rfl) ?_
                refine XO.done ?_
                refine XK.inLoop' ?_
                refine XK.seq ?_
                refine XK.region rfl ?_
                refine XO.q (Q.lss rfl rfl) ?_
                refine XO.done ?_
                refine XK.seq ?_
                refine XK.if rfl (fun c11 => ?_) (fun c11 => ?_)
                · have _t11 := True.intro
                  exact absurd c11 (by decide)
                · have _t11 := True.intro
                  refine XK.exit rfl ?_
                  refine XK.seq ?_
                  refine XK.drawn [0, 1, 2, 3, 5, 7] [b5, b6] [] (.q 0 (.q 1 (.q 2 (.q 3 (.q 5 (.br 4 true (.br 6 true (.q 7 .done) .stop) .stop)))))) Try.mixed rfl (by kernel_rfl) ?_
                  refine XT.q rfl rfl (Q.move rfl) ?_
                  refine XT.q rfl rfl (Q.fieldAddr rfl) ?_
                  refine XT.q rfl rfl (Q.ld rfl rfl) ?_
                  refine XT.q rfl rfl (Q.move rfl) ?_
                  refine XT.q rfl rfl (Q.ldA [_, _] rfl rfl rfl) ?_
                  refine XT.call rfl rfl Try.call29 rfl rfl rfl (over_spec l vl hl K aL ok r.cap all (by rw [ha]; exact lr.2)) (fun v52 s52 R52 => ?_) XT.stop
                  obtain ⟨rfl, rfl⟩ := R52
                  dsimp only [List.cons_append, List.nil_append]
                  refine ⟨inferInstance, ?_⟩
                  have orr := over_rng (l.map Prod.snd) r.cap (all := all) (by rw [ha]; exact lr.2) (by have := combos_len ok (l.map Prod.snd).length (Nat.le_refl _); rw [List.take_length] at this; rw [ha]; exact this)
                  refine XT.call rfl rfl Try.call55 rfl rfl rfl (atMost_spec (overG (l.map Prod.snd) r.cap all) m orr mr) (fun v54 s54 R54 => ?_) XT.stop
                  obtain ⟨rfl, rfl⟩ := R54
                  dsimp only [List.cons_append, List.nil_append]
                  refine ⟨inferInstance, ?_⟩
                  refine XT.q rfl rfl (Q.assign rfl) ?_
                  refine XT.done ?_
                  refine XK.rt [] Try.func65 Try.results65 (.t rfl .n) ?_
                  refine ⟨?_, rfl⟩
                  rw [fitsG, ← hil, decide_eq_true (show needK (l.map Prod.snd) 0 i ≤ r.r0 by omega), decide_eq_true (show needK (l.map Prod.snd) 1 i ≤ r.r1 by omega), decide_eq_true (show needK (l.map Prod.snd) 2 i ≤ r.r2 by omega), ha, hil]
                  simp
            · have _t9 := True.intro
              exact absurd (by decide) c9
        · have _t7 := True.intro
          exact absurd (by decide) c7
    · have _t5 := True.intro
      exact absurd (by decide) c5
end Go.X
