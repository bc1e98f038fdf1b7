/- A part of the proof: a small program logic, plain laws and contracts of functions, each proved by a walk through its operations. No condition but those that stand in each theorem. -/
import Derived.Test.YtocdijoiaongbaaGreatA2
import Derived.KernelRfl
import Derived.Lib.AppendZeros
import Derived.Shelf.Slices.In.SortNone
import Derived.Shelf.Sort.Plain
import Derived.Test.YtocdijoiaongbaaGreatProg
/- One bit more: shifts of one and 'or' of small numbers. No condition. -/
set_option linter.unusedSimpArgs false
set_option linter.unusedVariables false
namespace Go.X
section
variable {P : Program} {ops : Array Oper} {e : Env} {o r : List PHeap} {d : Option Tmp} {ty : TypeId} {pos : String} {aft : Array Edge}
theorem ofInt_toNat {n : Nat} (h : n < 4611686018427387904) : (BitVec.ofInt 64 (n : Int)).toNat = n := by
  rw [BitVec.toNat_ofInt]
  omega
theorem Q.shlOne {t t2 : TypeId} {x y : Operand} {k' : IntKind} {i : Nat} (hx : ev e x = some (.int .i64 1)) (hy : ev e y = some (.int k' (i : Int))) (hi : i < 60) :
    Quiet P ops ⟨d, .binOp .shl t x y t2, ty, pos, aft, none⟩ e o r (.int .i64 ((2 ^ i : Nat) : Int)) := Q.bin hx hy fun w => by
  have e1 : binOp .shl t (.int .i64 1) (.int k' (i : Int)) = Op.shift .shl .i64 1 k' (i : Int) := by simp [binOp]
  rw [e1]
  have hp : 2 ^ i ≤ 2 ^ 60 := Nat.pow_le_pow_right (by decide) (by omega)
  have hb : IntKind.bits .i64 = 64 := rfl
  unfold Op.shift
  rw [if_neg (by omega)]
  simp only [Int.toNat_natCast, hb, Nat.min_eq_left (show i ≤ 64 by omega), Int.one_mul]
  have hw : IntKind.wrap .i64 ((2 : Int) ^ i) = ((2 ^ i : Nat) : Int) := by
    rw [show ((2 : Int) ^ i) = ((2 ^ i : Nat) : Int) by rw [Int.natCast_pow]; rfl]
    generalize 2 ^ i = p at hp
    exact wrap64_of ⟨by omega, by omega⟩
  rw [hw]
  rfl
theorem Q.orN {t t2 : TypeId} {x y : Operand} {m n : Nat} (hx : ev e x = some (.int .i64 (m : Int))) (hy : ev e y = some (.int .i64 (n : Int))) (hm : m < 1152921504606846976) (hn : n < 1152921504606846976) :
    Quiet P ops ⟨d, .binOp .or t x y t2, ty, pos, aft, none⟩ e o r (.int .i64 ((m ||| n : Nat) : Int)) := Q.bin hx hy fun w => by
  have e1 : binOp .or t (.int .i64 (m : Int)) (.int .i64 (n : Int)) = Op.intBits .or .i64 m n := by simp [binOp]
  rw [e1]
  have hor : m ||| n < 2 ^ 60 := Nat.or_lt_two_pow (by omega) (by omega)
  have hb : IntKind.bits .i64 = 64 := rfl
  have hv : IntKind.wrap .i64 (((BitVec.ofInt (IntKind.bits .i64) (m : Int)) ||| (BitVec.ofInt (IntKind.bits .i64) (n : Int))).toNat : Int) = ((m ||| n : Nat) : Int) := by
    show IntKind.wrap .i64 (((BitVec.ofInt 64 (m : Int)) ||| (BitVec.ofInt 64 (n : Int))).toNat : Int) = _
    rw [BitVec.toNat_or, ofInt_toNat (by omega), ofInt_toNat (by omega), wrap64_of ⟨by omega, by omega⟩]
  unfold Op.intBits
  simp only []
  rw [hv]
  rfl
end
end Go.X

/- The library's sort of numbers, by the library's own contract. No condition. -/
set_option linter.unusedSimpArgs false
set_option linter.unusedVariables false
namespace Go.X
open Go.Proofs Go.Shelf Go.Sort
theorem Sep.swapG {h h' : PHeap} {o r : List PHeap} {w w' : World} (s : Sep (h :: o) r w) (d : ∀ x, h x = none → h' x = none) (hb : sub h' w') (hk : ∀ x ob, w.heap[x]? = some ob → h x = none → w'.heap[x]? = some ob) (hm : h'.m = none) (ht : mt w' = mt w) : Sep (h' :: o) r w' where
  pw := by
    obtain ⟨a, b⟩ := List.pairwise_cons.1 s.pw
    exact List.pairwise_cons.2 ⟨fun g hg x => orMap (a g hg x) (d x) id, b⟩
  dr := fun g hg q hq => by
    rcases List.mem_cons.1 hg with rfl | hg
    · exact fun x => orMap (s.dr h List.mem_cons_self q hq x) (d x) id
    · exact s.dr g (List.mem_cons_of_mem _ hg) q hq
  so := fun g hg => by
    rcases List.mem_cons.1 hg with rfl | hg
    · exact hb
    · intro x ob hx
      refine hk x ob (s.so g (List.mem_cons_of_mem _ hg) x ob hx) ?_
      rcases (List.pairwise_cons.1 s.pw).1 g hg x with h1 | h1
      · exact h1
      · rw [hx] at h1; cases h1
  sr := fun g hg x ob hx => by
    refine hk x ob (s.sr g hg x ob hx) ?_
    rcases s.dr h List.mem_cons_self g hg x with h1 | h1
    · exact h1
    · rw [hx] at h1; cases h1
  no := fun g hg => by
    rcases List.mem_cons.1 hg with rfl | hg
    · exact hm
    · exact s.no g (List.mem_cons_of_mem _ hg)
  sm := fun g hg m h => ht.trans (s.sm g hg m h)
theorem flat_encI (xs : List Int) : xs.flatMap encI = xs.map (Value.int .i64) := by
  induction xs with
  | nil => rfl
  | cons a l ih => rw [List.flatMap_cons, ih]; rfl
def sortL (xs : List Int) : List Int := xs.mergeSort fun x y => decide (x ≤ y)
theorem sort_specG {P : Program} {ρ : Ren} (L : Lays.n189 P ρ) (T : TypeId) (v : Value) (h : PHeap) (xs : List Int) [s : OArr v encI 1 T h xs] : Spec P (ρ.f 189) #[v] [h] [] (fun _ hs => ∃ h', hs = [h'] ∧ OArr v encI 1 T h' (sortL xs)) := fun o r w hs hr => by
  obtain ⟨henc, hm, ⟨rfl, rfl, rfl⟩ | ⟨b, c, cs, rfl, rfl, hle, hlen, ht⟩⟩ := s.pf
  · refine (Any.slices_Sort_int_none L none 0 w).mono fun e w' ⟨he, hw⟩ => ⟨_, [emp], he, ⟨emp, rfl, ?_⟩, by rw [hw]; exact hs⟩
    have : sortL [] = [] := by simp [sortL]
    rw [this]; exact s
  · have hh : w.heap[b]? = some (.cells cs.toArray T (0, 0)) := hs.so _ List.mem_cons_self b _ (sing_self _ _)
    have hlt : b < w.heap.size := (Array.getElem?_eq_some_iff.1 hh).1
    have lS : (sortL xs).length = xs.length := List.length_mergeSort _
    rw [Nat.mul_one] at hlen ht
    rw [flat_encI] at ht
    have hcs : ∀ j, (hj : j < xs.length) → cs[j]? = some (.int .i64 xs[j]) := fun j hj => by
      have e := congrArg (·[j]?) ht
      simp only [List.getElem?_take, if_pos hj, List.getElem?_map, List.getElem?_eq_getElem hj, Option.map_some] at e
      exact e
    have hH : Holds (Value.int .i64) w b 0 xs.toArray := fun j hj => by
      have hj : j < xs.length := hj
      rw [Nat.zero_add]
      refine ⟨?_, ?_⟩
      · rw [cell_of_heap hh (hcs j hj)]
        congr 2
        rw [getElem!_pos xs.toArray j hj]; rfl
      · simp [World.frozen?, hh]
    refine (Any.slices_Sort_int L b 0 c xs w hH hlt (by have := hm.1; omega)).mono fun e w' ⟨he, n, os, hw⟩ => ?_
    have hb' : w'.heap[b]? = some (.cells (putCells (Value.int .i64) 0 (sortL xs).toArray cs.toArray) T (0, 0)) := by
      rw [hw]
      show ((w.heap.modify b _) ++ os)[b]? = _
      rw [Array.getElem?_append_left (by simpa using hlt), Array.getElem?_modify, if_pos rfl, hh]; rfl
    have hk : ∀ x ob, w.heap[x]? = some ob → x ≠ b → w'.heap[x]? = some ob := fun x ob hx hne => by
      have hlx : x < w.heap.size := (Array.getElem?_eq_some_iff.1 hx).1
      rw [hw]
      show ((w.heap.modify b _) ++ os)[x]? = _
      rw [Array.getElem?_append_left (by simpa using hlx), Array.getElem?_modify, if_neg (fun h => hne h.symm), hx]
    have hcl : (putCells (Value.int .i64) 0 (sortL xs).toArray cs.toArray).toList.length = c := by
      rw [Array.length_toList, putCells, Array.size_mapIdx]; exact hlen
    refine ⟨_, [blk b (putCells (Value.int .i64) 0 (sortL xs).toArray cs.toArray).toList T], he, ⟨_, rfl, ⟨henc, ⟨by rw [lS]; exact hm.1, fun x hx => hm.2 x (List.mem_mergeSort.1 hx)⟩, .inr ⟨b, c, _, by rw [lS], rfl, by rw [lS]; exact hle, by rw [Nat.mul_one]; exact hcl, ?_⟩⟩⟩, ?_⟩
    · rw [Nat.mul_one, flat_encI]
      refine List.ext_getElem? fun j => ?_
      rw [List.getElem?_take, List.getElem?_map]
      by_cases hj : j < (sortL xs).length
      · rw [if_pos hj, List.getElem?_eq_getElem hj, Array.getElem?_toList, putCells, Array.getElem?_mapIdx, List.getElem?_toArray, hcs j (by omega), Option.map_some, Option.map_some, if_pos ⟨Nat.zero_le _, by simpa using hj⟩, Nat.sub_zero, getElem!_pos _ j hj]; rfl
      · rw [if_neg hj, List.getElem?_eq_none (by omega)]; rfl
    · refine hs.swapG (fun x hx => ?_) (fun x ob hx => ?_) (fun x ob h1 h2 => hk x ob h1 ?_) rfl (by rw [hw]; rfl)
      · unfold blk sing at *; dsimp only at hx ⊢; split at hx
        · cases hx
        · simp [*]
      · obtain ⟨rfl, rfl⟩ := sing_some hx
        rw [hb']
      · rintro rfl
        rw [blk, sing_self] at h2; cases h2
end Go.X

/- Iterators over what has no order: each of n things once; loops over them. No condition. -/
set_option linter.unusedSimpArgs false
set_option linter.unusedVariables false
namespace Go.X
/-- It yields n things, each once, in any order. -/
def ItM (P : Program) (y : Value) (n : Nat) (Y : Nat → List Value) (Hg : List PHeap) : Prop :=
  ∀ (f : Value) (Hr : List PHeap) (Q : List Nat → PHeap → Prop) (X : PHeap → Prop),
    (∀ seen i, i < n → ¬ i ∈ seen → ∀ q, Q seen q → VSpec P f (Y i) [q] Hr (fun v hs => ∃ b q', v = .bool b ∧ hs = [q'] ∧ (b = true → Q (seen ++ [i]) q') ∧ (b = false → X q'))) →
    ∀ q, Q [] q → VSpec P y [f] [q] (Hg ++ Hr) (fun _ hs => ∃ q', hs = [q'] ∧ ((∃ seen, seen.Nodup ∧ (∀ i, i ∈ seen ↔ i < n) ∧ Q seen q') ∨ X q'))
/-- A loop over a function in a frame that is no round. 'I i x': ahead of item i; 'J j x': a round has left the loop by the jump j. -/
theorem XK.rangeM {P : Program} {f : FuncId} {N : Nat} {B : PHeap} {E : Frame → World → Prop} {X : Type} {k : List Item} {e : Env} {o ok r : List PHeap} {x : Operand} {y : Value} {ps : List Tmp} {asn bd : Code} {Hg : List PHeap} {n : Nat} (Y : Nat → List Value)
    (oc : X → List PHeap) (I : List Nat → X → Prop) (J : Code → X → Prop) (x0 : X) (o0 : List PHeap) [rst : Rest o0 o ok] (ho0 : oc x0 = o0) (h0 : I [] x0) (hx : ev e x = some y)
    (hit : ItM P y n Y Hg) [al : AllIn Hg ok (B :: r)] (hps : ps.all (fun p => Nat.blt p N) = true) (hlen : ∀ i, i < n → (Y i).length = ps.length)
    (round : ∀ l rec B' seen i x, i < n → ¬ i ∈ seen → I seen x → XK (rcx P f N l rec B' (RoundR oc (I (seen ++ [i])) J)) [.code asn, .beginRound, .code bd] (pars ps (Y i) e) (rdy l rec :: oc x) (ok ++ r))
    (cont : ∀ x seen, seen.Nodup → (∀ i, i ∈ seen ↔ i < n) → I seen x → XK ⟨P, f, none, N, B, E⟩ k e (oc x ++ ok) r)
    (jump : ∀ j x, J j x → XK ⟨P, f, none, N, B, E⟩ (.code j :: k) e (oc x ++ ok) r) :
    XK ⟨P, f, none, N, B, E⟩ (.code (.rangeFunc x ps.toArray asn bd) :: k) e o r := fun D ds a w cs ha he hD hm => by
  have hm1 : Sep (D :: (o0 ++ ok)) (B :: r) w := rst.wk.sepD hm
  let rec' : Loop := { state := .ready, pending := none, fn := f, tmps := a, params := ps.toArray, assign := asn, body := bd, defers := w.heap.size }
  let l := w.heap.size + 1
  let w1 := (w.alloc (.deferred (some []))).alloc (.loop rec')
  have henter : (Instr.enterLoop f a ps.toArray asn bd none).run P w = .ok (l, [{ target := .collected w.heap.size, args := #[] }]) w1 := run_enterLoop_outer f a ps.toArray asn bd
  have hs1 : Sep (rdy l rec' :: sing w.heap.size (.deferred (some [])) :: D :: (o0 ++ ok)) (B :: r) w1 := by
    have := (hm1.push (.deferred (some []))).push (.loop rec')
    simp only [Array.size_push] at this
    exact this
  let D' := Go.X.join [sing w.heap.size (.deferred (some [])), D]
  have hs2 : Sep (D' :: rdy l rec' :: (o0 ++ ok)) (B :: r) w1 := by
    refine Sep.join (hs := [sing w.heap.size (.deferred (some [])), D]) (hs1.perm ?_)
    exact (List.Perm.swap _ _ _).trans ((List.Perm.swap _ _ _).cons _)
  have hD' : Marked D' (w.heap.size :: ds) := by
    refine ⟨List.nodup_cons.2 ⟨fun hmem => ?_, hD.1⟩, fun b => ?_⟩
    · have := sub_lt (hm.so D List.mem_cons_self) (b := w.heap.size) (o := .deferred (some [])) (by rw [hD.2, if_pos hmem])
      omega
    · simp only [D', Go.X.join, sing, emp, Option.or_none, hD.2 b, List.mem_cons]
      by_cases hb : b = w.heap.size
      · simp [hb]
      · simp [hb]
  have hs3 : Sep (Go.X.join (rdy l rec' :: o0) :: D' :: ok) (B :: r) w1 := Sep.join (hs := rdy l rec' :: o0) (hs2.perm (by
    simp only [List.cons_append]
    exact (List.Perm.swap _ _ _).trans (List.perm_middle.symm.cons _)))
  have hp0 : PD (rdy l rec' :: oc x0) := by
    rw [ho0]
    have hsub : (rdy l rec' :: o0).Sublist (rdy l rec' :: (o0 ++ ok)) := List.Sublist.cons_cons _ (List.sublist_append_left _ _)
    exact ⟨hs2.tail.pw.sublist hsub, fun h hh => hs2.tail.no h (hsub.mem hh)⟩
  have hpsN : ∀ p ∈ ps, p < N := fun p hp => by
    have := List.all_eq_true.1 hps p hp
    rwa [Nat.blt_eq] at this
  have hyield : ∀ seen i, i < n → ¬ i ∈ seen → ∀ q, (∃ x, I seen x ∧ PD (rdy l rec' :: oc x) ∧ q = Go.X.join (rdy l rec' :: oc x)) →
      VSpec P (.func (.yield l) #[] #[]) (Y i) [q] (ok ++ r) (fun v hs => ∃ b q', v = .bool b ∧ hs = [q'] ∧
        (b = true → ∃ x, I (seen ++ [i]) x ∧ PD (rdy l rec' :: oc x) ∧ q' = Go.X.join (rdy l rec' :: oc x)) ∧
        (b = false → ∃ j x, J j x ∧ PD (ovr l rec' (some j) :: oc x) ∧ q' = Go.X.join (ovr l rec' (some j) :: oc x))) := by
    rintro seen i hi hns q ⟨x, hI, hp, rfl⟩
    refine ((VSpec.round (rec := rec') (N := N) (e := e) rfl ha he hpsN (hlen i hi) (fun B' => round l rec' B' seen i x hi hns hI)).joined hp).mono ?_
    rintro v hs ⟨hs', ⟨j, hs'', rfl, rfl, hR⟩, hpw, rfl⟩
    refine ⟨_, _, rfl, rfl, ?_, ?_⟩
    · intro hj
      cases j with
      | some j => cases hj
      | none =>
        obtain ⟨x', h1, rfl⟩ := hR
        exact ⟨x', h1, hpw, rfl⟩
    · intro hj
      cases j with
      | none => cases hj
      | some j =>
        obtain ⟨x', h1, rfl⟩ := hR
        exact ⟨j, x', h1, hpw, rfl⟩
  have hN := hit _ (ok ++ r) _ _ hyield (Go.X.join (rdy l rec' :: o0)) ⟨x0, h0, hp0, by rw [ho0]⟩ (D' :: ok) (B :: r) w1 hs3 (fun h hh => by
    rcases List.mem_append.1 hh with hh | hh
    · exact orMap (al.pf h hh) (List.mem_cons_of_mem _) id
    · rcases List.mem_append.1 hh with hh | hh
      · exact .inl (List.mem_cons_of_mem _ hh)
      · exact .inr (List.mem_cons_of_mem _ hh))
  obtain ⟨v, w', ⟨hs', ⟨q', rfl, hq⟩, hS⟩, st⟩ := step_range (ds := marks ds) (k := k) (cs := cs) henter (ev_rel he hx) hN
  rcases hq with ⟨seen, hnd, hall, x', hI, hpw, rfl⟩ | ⟨j, x', hJ, hpw, rfl⟩
  · obtain ⟨hS2, hb⟩ := Sep.turn (y := .loop { rec' with state := .exhausted, pending := none }) (Sep.split hpw hS)
    obtain ⟨fr, w2, hE, st2⟩ := cont x' seen hnd hall hI D' (w.heap.size :: ds) a _ cs ha he hD' (hS2.tail.perm List.perm_middle)
    exact ⟨fr, w2, hE, Steps.trans st (.head (step_endRange (run_endLoop hb (by simp))) st2)⟩
  · obtain ⟨hS2, hb⟩ := Sep.turn (y := .loop { rec' with state := .exhausted, pending := some j }) (Sep.split hpw hS)
    obtain ⟨fr, w2, hE, st2⟩ := jump j x' hJ D' (w.heap.size :: ds) a _ cs ha he hD' (hS2.tail.perm List.perm_middle)
    exact ⟨fr, w2, hE, Steps.trans st (.head (step_endRange (run_endLoop hb (by simp))) st2)⟩
end Go.X

/- Sorted lists of sums. No condition. -/
set_option linter.unusedVariables false
namespace Go.X
def dd : List Int → List Int
  | [] => []
  | a :: l => if a ∈ dd l then dd l else a :: dd l
theorem dd_mem {a : Int} : ∀ {l : List Int}, a ∈ dd l ↔ a ∈ l
  | [] => Iff.rfl
  | b :: l => by
    rw [dd]
    split
    · rename_i h
      rw [dd_mem, List.mem_cons]
      exact ⟨.inr, fun h2 => h2.elim (fun e => e ▸ dd_mem.1 h) id⟩
    · rw [List.mem_cons, List.mem_cons, dd_mem]
theorem dd_nodup : ∀ l : List Int, (dd l).Nodup
  | [] => List.nodup_nil
  | b :: l => by
    rw [dd]
    split
    · exact dd_nodup l
    · exact List.nodup_cons.2 ⟨‹_›, dd_nodup l⟩
theorem sort_sorted (l : List Int) : (sortL l).Pairwise (fun a b => a ≤ b) := by
  have := List.pairwise_mergeSort (le := fun x y : Int => decide (x ≤ y)) (fun a b c h1 h2 => by simp only [decide_eq_true_eq] at *; omega) (fun a b => by simp only [Bool.or_eq_true, decide_eq_true_eq]; omega) l
  exact pairMap this fun h => by simpa using h
theorem sort_perm (l : List Int) : (sortL l).Perm l := List.mergeSort_perm l _
theorem sort_eq {a b : List Int} (p : a.Perm b) : sortL a = sortL b :=
  List.Perm.eq_of_pairwise (fun x y _ _ h1 h2 => Int.le_antisymm h1 h2) (sort_sorted a) (sort_sorted b) (((sort_perm a).trans p).trans (sort_perm b).symm)
/-- The sums that occur, in order, each with how often. -/
def sumsL (L : List Int) : List PDraw := (sortL (dd L)).map fun p => ⟨p, (L.count p : Nat)⟩
theorem sums_keys {es : List (Int × Value)} {L : List Int} (h : MapIs es L) {seen : List Nat} (hn : seen.Nodup) (ha : ∀ i, i ∈ seen ↔ i < es.length) : sortL (seen.map fun i => (es.getD i default).1) = sortL (dd L) := by
  refine sort_eq ?_
  have p1 : seen.Perm (List.range es.length) := (List.perm_ext_iff_of_nodup hn List.nodup_range).2 fun i => by rw [ha, List.mem_range]
  have p2 := p1.map fun i => (es.getD i default).1
  have e : (List.range es.length).map (fun i => (es.getD i default).1) = es.map Prod.fst := by
    refine List.ext_getElem (by simp) fun i h1 h2 => ?_
    simp only [List.getElem_map, List.getElem_range]
    rw [List.getD_eq_getElem?_getD, List.getElem?_eq_getElem (by simpa using h2)]; rfl
  rw [e] at p2
  refine p2.trans ((List.perm_ext_iff_of_nodup h.nodup (dd_nodup L)).2 fun a => ?_)
  rw [dd_mem]
  exact ⟨fun h2 => by
    obtain ⟨x, hx, rfl⟩ := List.mem_map.1 h2
    exact (h.val x.1 x.2 hx).2, h.all a⟩
theorem sum_keys_len {es : List (Int × Value)} {L : List Int} (h : MapIs es L) : (sortL (dd L)).length = es.length := by
  rw [(sort_perm _).length_eq]
  have : (es.map Prod.fst).Perm (dd L) := (List.perm_ext_iff_of_nodup h.nodup (dd_nodup L)).2 fun a => by
    rw [dd_mem]
    exact ⟨fun h2 => by
      obtain ⟨x, hx, rfl⟩ := List.mem_map.1 h2
      exact (h.val x.1 x.2 hx).2, h.all a⟩
  rw [← this.length_eq, List.length_map]
def sumsG (l : List PJob) : List PDraw × Int × Int := if (listedG l).2 ≠ 0 then ([], 0, (listedG l).2) else (sumsL (combos l), (listedG l).1, 0)
theorem few_keys {es : List (Int × Value)} {L : List Int} (h : MapIs es L) {n : Nat} (hL : ∀ x ∈ L, 0 ≤ x ∧ x < n) : es.length ≤ n := by
  have hs : (es.map fun p => p.1.toNat).Nodup := by
    have : (es.map fun p => p.1.toNat) = (es.map Prod.fst).map Int.toNat := by rw [List.map_map]; rfl
    rw [this]
    unfold List.Nodup
    rw [List.pairwise_map]
    have hn := h.nodup
    unfold List.Nodup at hn
    refine hn.imp_of_mem fun {a b} ha hb hab he => hab ?_
    obtain ⟨x, hx, rfl⟩ := List.mem_map.1 ha
    obtain ⟨y, hy, rfl⟩ := List.mem_map.1 hb
    have h1 := hL _ (h.val x.1 x.2 hx).2
    have h2 := hL _ (h.val y.1 y.2 hy).2
    omega
  have := seen_few (n := n) hs (fun i hi => by
    obtain ⟨x, hx, rfl⟩ := List.mem_map.1 hi
    have h1 := hL _ (h.val x.1 x.2 hx).2
    omega)
  rwa [List.length_map] at this
end Go.X

/- The example, and tasks made of digits. No condition. -/
set_option linter.unusedVariables false
namespace Go.X
def jobX : PJob := ⟨1, 1, 1, [⟨100, 3⟩, ⟨200, 1⟩], 0, 5⟩
def taskX : PTask := ⟨[jobX, jobX, jobX], [⟨3, 3, 3, 400, 0⟩], ⟨1, 10⟩⟩
theorem sortL_is {a b : List Int} (p : a.Perm b) (s : b.Pairwise (fun x y => x ≤ y)) : sortL a = b :=
  List.Perm.eq_of_pairwise (fun x y _ _ h1 h2 => Int.le_antisymm h1 h2) (sort_sorted a) s ((sort_perm a).trans p)
theorem job_sums : sumsG [jobX, jobX] = ([⟨200, 9⟩, ⟨300, 6⟩, ⟨400, 1⟩], 16, 0) := by
  rw [sumsG, if_neg (by decide), sumsL, sortL_is (b := [200, 300, 400]) (by decide) (by decide)]; decide
theorem job_chance : chanceG [jobX, jobX] 300 = (⟨1, 16⟩, 0) := by decide
theorem task_ready : readyG taskX = 0 := by decide
set_option maxRecDepth 100000 in
theorem task_best : (bestP taskX).1 = [0, 0, -1] ∧ (bestP taskX).2.1 = 10 := by decide +kernel
set_option maxRecDepth 100000 in
theorem task_verify : verifyP taskX (bestP taskX).1 (bestP taskX).2.1 (bestP taskX).2.2 = 0 := by decide +kernel
/-- Draws that Made writes. -/
structure MkD (k : Nat) (p : Int) (ds : List PDraw) : Prop where
  len : ds.length = k
  p1 : 0 ≤ p ∧ p ≤ 14 + 15 * k
  at' : ∀ i, i < k → (0 ≤ (ds.getD i default).power ∧ (ds.getD i default).power < p) ∧ (1 ≤ (ds.getD i default).count ∧ (ds.getD i default).count ≤ 4) ∧ (0 < i → (ds.getD (i - 1) default).power < (ds.getD i default).power)
theorem snoc_getP {α : Type} [Inhabited α] (l : List α) (x : α) (i : Nat) : (l ++ [x]).getD i default = if i < l.length then l.getD i default else if i = l.length then x else default := by
  rw [List.getD_eq_getElem?_getD, List.getElem?_append]
  split
  · rw [List.getD_eq_getElem?_getD]
  · split
    · rename_i h1 h2; subst h2; simp
    · rename_i h1 h2
      rw [List.getElem?_eq_none (by simp; omega)]; rfl
theorem MkD.nil {p : Int} (h : 0 ≤ p ∧ p ≤ 14) : MkD 0 p [] := ⟨rfl, by omega, fun i hi => absurd hi (Nat.not_lt_zero i)⟩
theorem MkD.snoc {k : Nat} {p q c : Int} {ds : List PDraw} (m : MkD k p ds) (hc : 1 ≤ c ∧ c ≤ 4) (hq : p < q ∧ q ≤ p + 15) : MkD (k + 1) q (ds ++ [⟨p, c⟩]) where
  len := by rw [List.length_append, m.len]; rfl
  p1 := by have := m.p1; omega
  at' := fun i hi => by
    have pp := m.p1
    have l := m.len
    rw [snoc_getP, snoc_getP, l]
    by_cases h : i < k
    · have a := m.at' i h
      rw [if_pos h]
      refine ⟨⟨a.1.1, by omega⟩, a.2.1, fun h0 => ?_⟩
      rw [if_pos (by omega)]; exact a.2.2 h0
    · rw [if_neg h, if_pos (by omega)]
      refine ⟨⟨pp.1, hq.1⟩, hc, fun h0 => ?_⟩
      rw [if_pos (by omega)]
      exact (m.at' (i - 1) (by omega)).1.2
structure MkJob (j : PJob) : Prop where
  ok : PJobOk j
  few : j.draws.length ≤ 3
  cnt : ∀ i, i < j.draws.length → (j.draws.getD i default).count ≤ 4
theorem MkJob.total {j : PJob} (h : MkJob j) : 1 ≤ totalJ j ∧ totalJ j ≤ 12 := by
  have a := (total_rng h.ok).1
  have b := sum_le_mul (l := j.draws.map (·.count)) (m := 4) fun x hx => by
    obtain ⟨d, hd, rfl⟩ := List.mem_map.1 hx
    obtain ⟨i, hi, rfl⟩ := List.getElem_of_mem hd
    have := h.cnt i hi
    rwa [List.getD_eq_getElem?_getD, List.getElem?_eq_getElem hi] at this
  rw [List.length_map] at b
  have := h.few
  unfold totalJ at *; omega
theorem mk_prod {l : List PJob} (h : ∀ i, i < l.length → MkJob (l.getD i default)) : ∀ i, i ≤ l.length → 1 ≤ prodJ l i ∧ prodJ l i ≤ 12 ^ i
  | 0, _ => ⟨Int.le_refl _, Int.le_refl _⟩
  | i + 1, hi => by
    have a := mk_prod h i (by omega)
    have b := (h i (by omega)).total
    have c1 : 1 * 1 ≤ prodJ l i * totalJ (l.getD i default) := Int.mul_le_mul a.1 b.1 (by omega) (by omega)
    have c2 : prodJ l i * totalJ (l.getD i default) ≤ 12 ^ i * 12 := Int.mul_le_mul a.2 b.2 (by omega) (by omega)
    rw [prodJ, Int.pow_succ]; omega
theorem mk_list {l : List PJob} (h : ∀ i, i < l.length → MkJob (l.getD i default)) (h7 : l.length ≤ 7) : ListOk l := by
  refine ⟨by omega, fun i hi => (h i hi).ok, fun i hi => ?_⟩
  have a := (mk_prod h i hi).2
  have b : (12 : Nat) ^ i ≤ 12 ^ 7 := Nat.pow_le_pow_right (by decide) (by omega)
  have c : ((12 ^ i : Nat) : Int) = (12 : Int) ^ i := by rw [Int.natCast_pow]; rfl
  have d : (12 : Nat) ^ 7 = 35831808 := by decide
  omega
structure MkTask (t : PTask) : Prop where
  job : ∀ i, i < t.jobs.length → MkJob (t.jobs.getD i default)
  few : t.jobs.length ≤ 7
  rk : 1 ≤ t.racks.length ∧ t.racks.length ≤ 3
  rack : ∀ i, i < t.racks.length → rackR (t.racks.getD i default) = true
  most : chanceR t.most = true
theorem MkTask.ok {t : PTask} (h : MkTask t) : TaskOk t := ⟨by have := h.few; omega, h.rk.1, by have := h.rk; omega, fun i hi => (h.job i hi).ok, h.rack, h.most⟩
theorem MkTask.lok {t : PTask} (h : MkTask t) : ListOk t.jobs := mk_list h.job h.few
theorem MkTask.ready {t : PTask} (h : MkTask t) : readyG t = 0 := by
  rw [readyG, if_neg (by rw [pcheck_iff.2 h.ok]; decide)]; exact listed_ok.2 h.lok
theorem each_snoc {α : Type} [Inhabited α] {Q : α → Prop} {l : List α} {x : α} (h : ∀ i, i < l.length → Q (l.getD i default)) (hx : Q x) : ∀ i, i < (l ++ [x]).length → Q ((l ++ [x]).getD i default) := fun i hi => by
  rw [List.length_append] at hi
  rw [snoc_getP]
  by_cases hc : i < l.length
  · rw [if_pos hc]; exact h i hc
  · rw [if_neg hc, if_pos (by simp at hi; omega)]; exact hx
end Go.X

/- Chances grow with the list; what fits still fits with less. No condition. -/
set_option linter.unusedVariables false
namespace Go.X
theorem mul_le_cancel {a b c : Int} (hc : 1 ≤ c) : a * c ≤ b * c ↔ a ≤ b := ⟨fun h => Int.le_of_mul_le_mul_right h (by omega), fun h => Int.mul_le_mul_of_nonneg_right h (by omega)⟩
/-- A part of all is at most a fraction. -/
theorem atMost_iff {n all : Int} {m : PRat} (hn : 0 ≤ n ∧ n ≤ all) (ha : 1 ≤ all) : atMostB (ratG n all) m = true ↔ n * m.d ≤ m.n * all := by
  have x := rat_cross (n := n) ha
  have r := rat_rng hn ha
  unfold atMostB
  rw [decide_eq_true_eq, ← mul_le_cancel (c := all) ha, ← mul_le_cancel (a := n * m.d) (c := (ratG n all).d) r.2.1]
  generalize ratG n all = q at *
  have e1 : q.n * m.d * all = n * m.d * q.d := by rw [Int.mul_right_comm, x, Int.mul_right_comm]
  have e2 : m.n * q.d * all = m.n * all * q.d := Int.mul_right_comm ..
  rw [e1, e2]
theorem count_flat {L : List Int} {f : Int → List Int} {p q : Int → Bool} {c : Nat} (h : ∀ s ∈ L, p s = true → c ≤ (f s).countP q) : L.countP p * c ≤ (L.flatMap f).countP q := by
  induction L with
  | nil => simp
  | cons a L ih =>
    have i := ih fun s hs => h s (List.mem_cons_of_mem _ hs)
    have ha := h a List.mem_cons_self
    rw [List.flatMap_cons, List.countP_append, List.countP_cons]
    by_cases hp : p a = true
    · rw [if_pos hp, Nat.add_mul, Nat.one_mul]
      have := ha hp
      omega
    · rw [if_neg hp, Nat.add_zero]; omega
theorem over_step {j : PJob} (ok : PJobOk j) (L : List Int) (lim : Int) : (overN L lim : Int) * totalJ j ≤ (overN (step1 L j) lim : Nat) := by
  have t := (total_rng ok).1
  have h := count_flat (L := L) (f := fun s => j.draws.flatMap fun d => List.replicate d.count.toNat (s + d.power)) (p := fun s => decide (lim < s)) (q := fun s => decide (lim < s)) (c := (totalJ j).toNat) fun s hs hp => by
    have rl := reps_len ok s
    rw [List.countP_eq_length.2 fun x hx => ?_]
    · omega
    · obtain ⟨d, hd, hx⟩ := List.mem_flatMap.1 hx
      have := (List.mem_replicate.1 hx).2
      have hp := of_decide_eq_true hp
      have := (mem_draws ok hd).1
      exact decide_eq_true (by omega)
  have e : ((L.countP (fun s => decide (lim < s)) * (totalJ j).toNat : Nat) : Int) = (overN L lim : Int) * totalJ j := by
    rw [Int.natCast_mul]; unfold overN; rw [show (((totalJ j).toNat : Nat) : Int) = totalJ j by omega]
  unfold overN at *
  unfold step1
  omega
theorem need_app (l : List PJob) (x : PJob) (k : Nat) : ∀ i, i ≤ l.length → needK (l ++ [x]) k i = needK l k i
  | 0, _ => rfl
  | i + 1, h => by
    rw [needK, needK, need_app l x k i (by omega), List.getD_eq_getElem?_getD, List.getElem?_append_left (by omega), ← List.getD_eq_getElem?_getD]
theorem need_last (l : List PJob) (x : PJob) (k : Nat) : needK (l ++ [x]) k (l ++ [x]).length = needK l k l.length + needOf x k := by
  rw [List.length_append, show ([x] : List PJob).length = 1 from rfl, needK, need_app l x k _ (Nat.le_refl _), List.getD_eq_getElem?_getD, List.getElem?_append_right (Nat.le_refl _), Nat.sub_self]; rfl
theorem lok_app {l : List PJob} {x : PJob} (ok : ListOk (l ++ [x])) : ListOk l ∧ PJobOk x := by
  have hl : (l ++ [x]).length = l.length + 1 := List.length_append
  refine ⟨⟨by have := ok.few; omega, fun i hi => ?_, fun i hi => ?_⟩, ?_⟩
  · have := ok.job i (by omega)
    rwa [List.getD_eq_getElem?_getD, List.getElem?_append_left hi, ← List.getD_eq_getElem?_getD] at this
  · have := ok.prod i (by omega)
    rwa [prodJ_app _ _ _ hi] at this
  have := ok.job l.length (by rw [List.length_append]; simp)
  rwa [List.getD_eq_getElem?_getD, List.getElem?_append_right (Nat.le_refl _), Nat.sub_self] at this
theorem combos_all {l : List PJob} (ok : ListOk l) : ((combos l).length : Int) = prodJ l l.length ∧ 1 ≤ prodJ l l.length := by
  have := combos_len ok _ (Nat.le_refl _)
  rw [List.take_length] at this
  exact ⟨this, prod_pos ok _ (Nat.le_refl _)⟩
theorem over_bound {l : List PJob} (ok : ListOk l) (lim : Int) : (0 ≤ ((overN (combos l) lim : Nat) : Int) ∧ ((overN (combos l) lim : Nat) : Int) ≤ prodJ l l.length) := by
  have a := over_len (combos l) lim
  have b := (combos_all ok).1
  omega
/-- What a list's chance is at most. -/
theorem chance_iff {l : List PJob} (ok : ListOk l) (lim : Int) (m : PRat) : atMostB (overG l lim (prodJ l l.length)) m = true ↔ ((overN (combos l) lim : Nat) : Int) * m.d ≤ m.n * prodJ l l.length := atMost_iff (over_bound ok lim) (combos_all ok).2
/-- A longer list is over the limit at least as often. -/
theorem over_more {l : List PJob} {x : PJob} (ok : ListOk (l ++ [x])) (lim : Int) : ((overN (combos l) lim : Nat) : Int) * prodJ (l ++ [x]) (l ++ [x]).length ≤ ((overN (combos (l ++ [x])) lim : Nat) : Int) * prodJ l l.length := by
  obtain ⟨okl, okx⟩ := lok_app ok
  have s := over_step okx (combos l) lim
  have c := (combos_all okl).2
  rw [combos_snoc, List.length_append, show ([x] : List PJob).length = 1 from rfl, prodJ_last, Int.mul_comm (prodJ l l.length), ← Int.mul_assoc]
  exact Int.mul_le_mul_of_nonneg_right s (by omega)
theorem fits_prefix {l : List PJob} {x : PJob} {r : PRack} {m : PRat} (ok : ListOk (l ++ [x])) (hm : 1 ≤ m.d) (h : fitsG (l ++ [x]) r m = true) : fitsG l r m = true := by
  obtain ⟨okl, okx⟩ := lok_app ok
  have n := pin_three.1 okx.need
  unfold fitsG at h ⊢
  rw [need_last, need_last, need_last, Bool.and_eq_true, Bool.and_eq_true, Bool.and_eq_true, decide_eq_true_eq, decide_eq_true_eq, decide_eq_true_eq, chance_iff ok] at h
  obtain ⟨⟨⟨h0, h1⟩, h2⟩, h3⟩ := h
  change _ + x.n0 ≤ _ at h0
  change _ + x.n1 ≤ _ at h1
  change _ + x.n2 ≤ _ at h2
  rw [Bool.and_eq_true, Bool.and_eq_true, Bool.and_eq_true, decide_eq_true_eq, decide_eq_true_eq, decide_eq_true_eq, chance_iff okl]
  refine ⟨⟨⟨by omega, by omega⟩, by omega⟩, ?_⟩
  have mo := over_more ok r.cap
  have c1 := (combos_all okl).2
  have c2 := (combos_all ok).2
  rw [← mul_le_cancel (c := prodJ (l ++ [x]) (l ++ [x]).length) c2]
  have e1 := Int.mul_le_mul_of_nonneg_right mo (show (0 : Int) ≤ m.d by omega)
  have e2 := Int.mul_le_mul_of_nonneg_right h3 (show (0 : Int) ≤ prodJ l l.length by omega)
  generalize prodJ (l ++ [x]) (l ++ [x]).length = P2 at *
  generalize prodJ l l.length = P1 at *
  generalize ((overN (combos l) r.cap : Nat) : Int) = o1 at *
  generalize ((overN (combos (l ++ [x])) r.cap : Nat) : Int) = o2 at *
  have a1 : o1 * m.d * P2 = o1 * P2 * m.d := Int.mul_right_comm ..
  have a2 : o2 * P1 * m.d = o2 * m.d * P1 := Int.mul_right_comm ..
  have a3 : m.n * P2 * P1 = m.n * P1 * P2 := Int.mul_right_comm ..
  omega
theorem fits_nil {r : PRack} {m : PRat} (hr : rackR r = true) (hm : 0 ≤ m.n) : fitsG [] r m = true := by
  unfold rackR at hr
  rw [Bool.and_eq_true, Bool.and_eq_true] at hr
  have a := pin_three.1 hr.1.1
  have b := pin_one.1 hr.1.2
  have ok : ListOk ([] : List PJob) := ⟨Nat.zero_le _, fun i hi => absurd hi (Nat.not_lt_zero i), fun i hi => by rw [show i = 0 by simpa using hi]; decide⟩
  unfold fitsG
  rw [Bool.and_eq_true, Bool.and_eq_true, Bool.and_eq_true, decide_eq_true_eq, decide_eq_true_eq, decide_eq_true_eq, chance_iff ok]
  refine ⟨⟨⟨a.1.1, a.2.1.1⟩, a.2.2.1⟩, ?_⟩
  have : overN (combos []) r.cap = 0 := by
    unfold overN
    rw [List.countP_eq_zero]
    intro s hs
    rw [combos, List.foldl_nil, List.mem_singleton] at hs
    rw [decide_eq_true_eq]; omega
  rw [this]
  show (0 : Int) * m.d ≤ m.n * 1
  omega
end Go.X

/- The search finds the best; its proof holds; what holds is the best. No condition. -/
set_option linter.unusedVariables false
namespace Go.X
theorem snoc_old {w : List Int} {y : Int} {i : Nat} (h : i < w.length) : (w ++ [y]).getD i default = w.getD i default := by
  rw [List.getD_eq_getElem?_getD, List.getElem?_append_left h, ← List.getD_eq_getElem?_getD]
theorem snoc_new {w : List Int} {y : Int} : (w ++ [y]).getD w.length default = y := by
  rw [List.getD_eq_getElem?_getD, List.getElem?_append_right (Nat.le_refl _), Nat.sub_self]; rfl
theorem inTo_snoc {α : Type} [Inhabited α] {l : List α} {w : List Int} {y r : Int} : ∀ n, n ≤ w.length → inTo l (w ++ [y]) r n = inTo l w r n
  | 0, _ => rfl
  | n + 1, h => by rw [inTo, inTo, inTo_snoc n (by omega), snoc_old (by omega)]
theorem inL_snoc (t : PTask) (w : List Int) (y r : Int) : inL t (w ++ [y]) r = inL t w r ++ (if y = r then [t.jobs.getD w.length default] else []) := by
  unfold inL
  rw [List.length_append, show ([y] : List Int).length = 1 from rfl, inTo, inTo_snoc _ (Nat.le_refl _), snoc_new]
theorem skip_snoc {t : PTask} {w : List Int} {y : Int} {i : Nat} (h : i < w.length) : skipK t (w ++ [y]) i = skipK t w i := by rw [skipK, skipK, snoc_old h]
theorem key_snoc {t : PTask} {w : List Int} {y : Int} {i : Nat} (h : i < w.length) : keyOf t (w ++ [y]) i = keyOf t w i := by rw [keyOf, keyOf, snoc_old h]
theorem keys_snoc {t : PTask} {w : List Int} {y : Int} : ∀ n, n ≤ w.length → keysTo t (w ++ [y]) n = keysTo t w n
  | 0, _ => rfl
  | n + 1, h => by rw [keysTo, keysTo, keys_snoc n (by omega), skip_snoc (by omega), key_snoc (by omega)]
theorem apartTo_snoc {t : PTask} {w : List Int} {y : Int} : ∀ n, n ≤ w.length → apartTo t (w ++ [y]) n = apartTo t w n
  | 0, _ => rfl
  | n + 1, h => by rw [apartTo, apartTo, apartTo_snoc n (by omega), skip_snoc (by omega), key_snoc (by omega), keys_snoc n (by omega)]
theorem apart_prefix {t : PTask} {w : List Int} {y : Int} (h : apartG t (w ++ [y]) = true) : apartG t w = true := by
  unfold apartG at *
  rw [List.length_append, show ([y] : List Int).length = 1 from rfl, apartTo, apartTo_snoc _ (Nat.le_refl _), Bool.and_eq_true] at h
  exact h.1
theorem apart_out {t : PTask} {w : List Int} (h : apartG t w = true) : apartG t (w ++ [-1]) = true := by
  unfold apartG at *
  rw [List.length_append, show ([-1] : List Int).length = 1 from rfl, apartTo, apartTo_snoc _ (Nat.le_refl _), h, skipK, snoc_new]
  rfl
theorem fitTo_iff {t : PTask} {w : List Int} : ∀ {n}, fitTo t w n = true ↔ ∀ r, r < n → fitAt t w r = true
  | 0 => ⟨fun _ r hr => absurd hr (Nat.not_lt_zero r), fun _ => rfl⟩
  | n + 1 => by
    rw [fitTo, Bool.and_eq_true, fitTo_iff]
    exact ⟨fun ⟨a, b⟩ r hr => by
      by_cases he : r = n
      · rw [he]; exact b
      · exact a r (by omega), fun h => ⟨fun r hr => h r (by omega), h n (by omega)⟩⟩
theorem allowed_iff {t : PTask} {w : List Int} : allowedB t w = true ↔ (∀ r, r < t.racks.length → fitAt t w r = true) ∧ apartG t w = true := by
  rw [allowedB, Bool.and_eq_true, fitTo_iff]
theorem fit_same {t : PTask} {w : List Int} {y : Int} {r : Nat} (h : y ≠ (r : Int)) : fitAt t (w ++ [y]) r = fitAt t w r := by
  rw [fitAt, fitAt, inL_snoc, if_neg h, List.append_nil]
theorem inL_ok {t : PTask} (lok : ListOk t.jobs) {w : List Int} (h : w.length ≤ t.jobs.length) (r : Int) : ListOk (inL t w r) := lok.inTo w r h
theorem fit_prefix {t : PTask} (ok : TaskOk t) (lok : ListOk t.jobs) {w : List Int} {y : Int} (hl : w.length < t.jobs.length) {r : Nat} (h : fitAt t (w ++ [y]) r = true) : fitAt t w r = true := by
  by_cases hy : y = (r : Int)
  · have k := inL_ok lok (w := w ++ [y]) (by rw [List.length_append]; simp; omega) (r : Int)
    rw [fitAt, inL_snoc, if_pos hy] at h
    rw [inL_snoc, if_pos hy] at k
    exact fits_prefix k (chanceR_pos ok.most) h
  · rwa [fit_same hy] at h
theorem allowed_prefix {t : PTask} (ok : TaskOk t) (lok : ListOk t.jobs) {w : List Int} {y : Int} (hl : w.length < t.jobs.length) (h : allowedB t (w ++ [y]) = true) : allowedB t w = true := by
  rw [allowed_iff] at *
  exact ⟨fun r hr => fit_prefix ok lok hl (h.1 r hr), apart_prefix h.2⟩
theorem psonsTo_memT {t : PTask} {w x : List Int} : ∀ {n}, x ∈ psonsTo t w n → ∃ r : Nat, r < n ∧ x = w ++ [(r : Int)] ∧ sonOk t w r = true
  | 0, h => by cases h
  | n + 1, h => by
    rw [psonsTo] at h
    rcases List.mem_append.1 h with h | h
    · obtain ⟨r, a, b, c⟩ := psonsTo_memT h
      exact ⟨r, by omega, b, c⟩
    · split at h
      · rw [List.mem_singleton] at h
        exact ⟨n, by omega, h, ‹_›⟩
      · cases h
theorem sons_allowed {t : PTask} {w x : List Int} (h : allowedB t w = true) (hx : x ∈ psons t w) : allowedB t x = true := by
  rw [allowed_iff] at h ⊢
  rw [psons] at hx
  rcases List.mem_append.1 hx with hx | hx
  · obtain ⟨r, hr, rfl, hs⟩ := psonsTo_memT hx
    rw [sonOk, Bool.and_eq_true] at hs
    refine ⟨fun q hq => ?_, hs.2⟩
    by_cases he : (r : Int) = q
    · have : r = q := by omega
      subst this; exact hs.1
    · rw [fit_same he]; exact h.1 q hq
  · rw [List.mem_singleton] at hx
    subst hx
    refine ⟨fun q hq => ?_, apart_out h.2⟩
    rw [fit_same (by omega)]; exact h.1 q hq
theorem son_of {t : PTask} {w : List Int} {y : Int} (h : allowedB t (w ++ [y]) = true) (h1 : -1 ≤ y) (h2 : y < t.racks.length) : ∃ i, i < (psons t w).length ∧ (psons t w).getD i default = w ++ [y] := by
  by_cases hy : y = -1
  · subst hy
    exact ⟨_, by rw [psons_len]; exact Nat.lt_succ_self _, psons_last t w⟩
  · obtain ⟨r, rfl⟩ := Int.eq_ofNat_of_zero_le (show 0 ≤ y by omega)
    rw [allowed_iff] at h
    have := psons_at (t := t) (w := w) (r := r) (by omega) (by rw [sonOk, Bool.and_eq_true]; exact ⟨h.1 r (by omega), h.2⟩)
    exact ⟨_, this.2, this.1⟩
theorem takes_allowed {t : PTask} (ok : TaskOk t) (lok : ListOk t.jobs) {w : List Int} (hw : w.length = t.jobs.length) (h : allowedB t w = true) : ∀ d, d ≤ w.length → allowedB t (w.take (w.length - d)) = true
  | 0, _ => by rw [Nat.sub_zero, List.take_length]; exact h
  | d + 1, hd => by
    have ih := takes_allowed ok lok hw h d (by omega)
    rw [show w.length - d = (w.length - (d + 1)) + 1 by omega, take_snocP (by omega)] at ih
    exact allowed_prefix ok lok (by rw [List.length_take]; omega) ih
/-- What lies below a node bounds every allowed placement that goes on from it. -/
theorem below_reach {t : PTask} (ok : TaskOk t) (lok : ListOk t.jobs) {b : Int} {w : List Int} (wok : WOk t w) (hw : w.length = t.jobs.length) (h : allowedB t w = true) : ∀ f, f ≤ w.length → belowF t b f (w.take (w.length - f)) → worthG t w ≤ b
  | 0, _, k => by rw [Nat.sub_zero, List.take_length] at k; exact k
  | f + 1, hf, k => by
    have ta := takes_allowed ok lok hw h f (by omega)
    rw [show w.length - f = (w.length - (f + 1)) + 1 by omega, take_snocP (by omega)] at ta
    have rg := wok.rng (w.length - (f + 1)) (by omega)
    obtain ⟨i, hi, e⟩ := son_of ta rg.1 rg.2
    refine below_reach ok lok wok hw h f (by omega) ?_
    have := k i hi
    rw [e] at this
    rw [show w.length - f = (w.length - (f + 1)) + 1 by omega, take_snocP (by omega)]
    exact this
theorem below_all {t : PTask} (ok : TaskOk t) (lok : ListOk t.jobs) {b : Int} (k : belowG t b []) {w : List Int} (wok : WOk t w) (hw : w.length = t.jobs.length) (h : allowedB t w = true) : worthG t w ≤ b := by
  refine below_reach ok lok wok hw h w.length (Nat.le_refl _) ?_
  rw [Nat.sub_self, List.take_zero]
  unfold belowG at k
  rw [hw]; exact k
/-- A whole placement that is allowed. -/
structure Whole (t : PTask) (s : List Int × Int) : Prop where
  wok : WOk t s.1
  len : s.1.length = t.jobs.length
  all : allowedB t s.1 = true
  wor : worthG t s.1 = s.2
theorem look_whole {t : PTask} : ∀ m w s, WOk t w → t.jobs.length - w.length ≤ m → allowedB t w = true → lookG t w s = s ∨ Whole t (lookG t w s)
  | m, w, s, wok, hm, ha => by
    rw [lookF_eq wok.len]
    split
    · exact .inl rfl
    · split
      · exact .inr ⟨wok, ‹_›, ha, rfl⟩
      · rename_i h1 h2
        have hl := wok.len
        cases m with
        | zero => omega
        | succ m =>
          have step : ∀ n, n ≤ (psons t w).length → foldTo (fun s son => lookG t son s) (psons t w) s n = s ∨ Whole t (foldTo (fun s son => lookG t son s) (psons t w) s n) := by
            intro n
            induction n with
            | zero => intro _; exact .inl rfl
            | succ n ih =>
              intro hn
              obtain ⟨y, e, y1, y2⟩ := psons_get (t := t) (w := w) (i := n) (by omega)
              have al := sons_allowed ha (getD_mem (xs := psons t w) (i := n) (by omega))
              have q := look_whole m ((psons t w).getD n default) (foldTo (fun s son => lookG t son s) (psons t w) s n) (by rw [e]; exact wok.snoc (by omega) y1 y2) (by rw [e, List.length_append]; simp; omega) al
              rw [foldTo]
              rcases q with q | q
              · rw [q]; exact ih (by omega)
              · exact .inr q
          exact step _ (Nat.le_refl _)
theorem allowed_nil {t : PTask} (ok : TaskOk t) : allowedB t [] = true := by
  rw [allowed_iff]
  exact ⟨fun r hr => fits_nil (ok.rack r hr) (chanceR_rng ok.most).1.1, rfl⟩
theorem outs_whole {t : PTask} (ok : TaskOk t) : ∀ n, n ≤ t.jobs.length → WOk t (List.replicate n (-1)) ∧ allowedB t (List.replicate n (-1)) = true
  | 0, _ => ⟨wok_nil t, allowed_nil ok⟩
  | n + 1, h => by
    obtain ⟨a, b⟩ := outs_whole ok n (by omega)
    rw [List.replicate_succ']
    exact ⟨a.snoc (by rw [List.length_replicate]; omega) (Int.le_refl _) (by have := ok.rk1; omega), sons_allowed b (by rw [psons]; simp)⟩
theorem best_whole {t : PTask} (ok : TaskOk t) (lok : ListOk t.jobs) : Whole t (lookG t [] ([], -1)) ∧ belowG t (lookG t [] ([], -1)).2 [] := by
  have bl := (look_below ok _ [] ([], -1) (Nat.zero_le _) (Nat.le_refl _)).2
  refine ⟨?_, bl⟩
  rcases look_whole _ [] ([], -1) (wok_nil t) (Nat.le_refl _) (allowed_nil ok) with h | h
  · rw [h] at bl
    obtain ⟨a, b⟩ := outs_whole ok _ (Nat.le_refl _)
    have q := below_all ok lok bl a (by rw [List.length_replicate]) b
    have p := (worth_rng ok (w := List.replicate t.jobs.length (-1)) (List.replicate t.jobs.length (-1)).length (by rw [List.length_replicate]; exact Nat.le_refl _)).1
    unfold worthG at q
    omega
  · exact h
theorem formed_of {t : PTask} (ok : TaskOk t) (lok : ListOk t.jobs) {w : List Int} (wok : WOk t w) (hw : w.length = t.jobs.length) : formedG t w = 0 := by
  have ref : ∀ n, refTo t w n = 0 := by
    intro n
    induction n with
    | zero => rfl
    | succ n ih => rw [refTo, if_neg (by rw [ih]; decide)]; exact listed_ok.2 (inL_ok lok (by omega) _)
  unfold formedG
  rw [if_neg (by rw [pcheck_iff.2 ok]; decide), if_neg ?_]
  · exact ref _
  · rintro (h | h)
    · exact h (by omega)
    · rw [any_false_of fun i hi => ?_] at h
      · cases h
      · have := wok.rng i hi
        rw [outW, Bool.or_eq_false_iff, decide_eq_false_iff_not, decide_eq_false_iff_not]; omega
/-! ### the proof holds -/
theorem fold_prefix {t : PTask} {b : Int} {w : List Int} (h : ∀ i, i < (psons t w).length → ∀ p, ∃ q, proveG t b ((psons t w).getD i default) p = p ++ q) (p : List Bool) : ∀ n, n ≤ (psons t w).length → ∃ q, foldTo (fun p son => proveG t b son p) (psons t w) p n = p ++ q
  | 0, _ => ⟨[], by rw [List.append_nil]; rfl⟩
  | n + 1, hn => by
    obtain ⟨q, e⟩ := fold_prefix h p n (by omega)
    obtain ⟨q2, e2⟩ := h n (by omega) (foldTo (fun p son => proveG t b son p) (psons t w) p n)
    exact ⟨q ++ q2, by rw [foldTo, e2, e, List.append_assoc]⟩
theorem prove_prefix {t : PTask} {b : Int} : ∀ m w p, w.length ≤ t.jobs.length → t.jobs.length - w.length ≤ m → belowG t b w → ∃ q, proveG t b w p = p ++ q
  | m, w, p, hw, hm, k => by
    rw [prove_case hw k]
    by_cases h : hopeG t w ≤ b
    · rw [if_pos h]; exact ⟨_, rfl⟩
    · rw [if_neg h]
      have hl : ¬ w.length = t.jobs.length := fun e => h (cut_leaf k e)
      cases m with
      | zero => omega
      | succ m =>
        obtain ⟨q, e⟩ := fold_prefix (t := t) (b := b) (w := w) (fun i hi p => by
          obtain ⟨y, e, _⟩ := psons_get hi
          exact prove_prefix m _ p (by rw [e, List.length_append]; simp; omega) (by rw [e, List.length_append]; simp; omega) (below_son (by omega) k hi)) (p ++ [false]) _ (Nat.le_refl _)
        exact ⟨[false] ++ q, by rw [e, List.append_assoc]⟩
theorem fold_more {t : PTask} {b : Int} {w : List Int} (h : ∀ i, i < (psons t w).length → ∀ p, ∃ q, proveG t b ((psons t w).getD i default) p = p ++ q) (p : List Bool) {n : Nat} : ∀ m, n ≤ m → m ≤ (psons t w).length → ∃ q, foldTo (fun p son => proveG t b son p) (psons t w) p m = foldTo (fun p son => proveG t b son p) (psons t w) p n ++ q
  | 0, hn, _ => ⟨[], by rw [show n = 0 by omega, List.append_nil]⟩
  | m + 1, hn, hm => by
    by_cases he : n = m + 1
    · subst he; exact ⟨[], by rw [List.append_nil]⟩
    · obtain ⟨q, e⟩ := fold_more h p (n := n) m (by omega) (by omega)
      obtain ⟨q2, e2⟩ := h m (by omega) (foldTo (fun p son => proveG t b son p) (psons t w) p m)
      exact ⟨q ++ q2, by rw [foldTo, e2, e, List.append_assoc]⟩
theorem holds_prove {t : PTask} {b : Int} : ∀ m w p z, w.length ≤ t.jobs.length → t.jobs.length - w.length ≤ m → belowG t b w → holdsG t (proveG t b w p ++ z) b w p.length = (true, (proveG t b w p).length)
  | m, w, p, z, hw, hm, k => by
    rw [holds_eq hw, prove_case hw k]
    by_cases h : hopeG t w ≤ b
    · rw [if_pos h, if_neg (by simp only [List.length_append, List.length_cons, List.length_nil]; omega), if_pos (by rw [List.append_assoc, List.getD_eq_getElem?_getD, List.getElem?_append_right (Nat.le_refl _), Nat.sub_self]; rfl), decide_eq_true h, List.length_append]; rfl
    · rw [if_neg h]
      have hl : ¬ w.length = t.jobs.length := fun e => h (cut_leaf k e)
      cases m with
      | zero => omega
      | succ m =>
        have pre : ∀ i, i < (psons t w).length → ∀ p, ∃ q, proveG t b ((psons t w).getD i default) p = p ++ q := fun i hi p => by
          obtain ⟨y, e, _⟩ := psons_get hi
          exact prove_prefix m _ p (by rw [e, List.length_append]; simp; omega) (by rw [e, List.length_append]; simp; omega) (below_son (by omega) k hi)
        obtain ⟨q, eq⟩ := fold_prefix pre (p ++ [false]) _ (Nat.le_refl _)
        have step : ∀ n, n ≤ (psons t w).length → holdsTo t (foldTo (fun p son => proveG t b son p) (psons t w) (p ++ [false]) (psons t w).length ++ z) b w p.length n = (true, (foldTo (fun p son => proveG t b son p) (psons t w) (p ++ [false]) n).length) := by
          intro n
          induction n with
          | zero => intro _; rw [holdsTo, foldTo, foldTo, List.length_append]; rfl
          | succ n ih =>
            intro hn
            have ih := ih (by omega)
            obtain ⟨y, e, _⟩ := psons_get (t := t) (w := w) (i := n) (by omega)
            obtain ⟨q2, e2⟩ := fold_more pre (p ++ [false]) (n := n + 1) _ hn (Nat.le_refl _)
            have hh := holds_prove m ((psons t w).getD n default) (foldTo (fun p son => proveG t b son p) (psons t w) (p ++ [false]) n) (q2 ++ z) (by rw [e, List.length_append]; simp; omega) (by rw [e, List.length_append]; simp; omega) (below_son (by omega) k (by omega))
            unfold holdsTo at ih ⊢
            rw [foldTo, ih, if_pos rfl, e2, List.append_assoc]
            exact hh
        have a := step _ (Nat.le_refl _)
        rw [if_neg, if_neg, if_neg hl, a]
        · rw [eq, List.append_assoc, List.append_assoc, List.getD_eq_getElem?_getD, List.getElem?_append_right (Nat.le_refl _), Nat.sub_self]; simp
        · rw [eq]; simp only [List.length_append, List.length_cons, List.length_nil]; omega
/-- The law of Best. -/
theorem best_law {t : PTask} (rd : readyG t = 0) : (formedG t (bestP t).1 = 0 ∧ allowedB t (bestP t).1 = true ∧ worthG t (bestP t).1 = (bestP t).2.1) ∧ verifyP t (bestP t).1 (bestP t).2.1 (bestP t).2.2 = 0 ∧ ∀ w, formedG t w = 0 → allowedB t w = true → worthG t w ≤ (bestP t).2.1 := by
  obtain ⟨ok, lok⟩ := ready_ok rd
  obtain ⟨wh, bl⟩ := best_whole ok lok
  have fm := formed_of ok lok wh.wok wh.len
  refine ⟨⟨fm, wh.all, wh.wor⟩, ?_, fun w hf ha => ?_⟩
  · have hp := holds_prove (t := t) (b := (lookG t [] ([], -1)).2) _ [] [] [] (Nat.zero_le _) (Nat.le_refl _) bl
    rw [List.append_nil] at hp
    rw [verifyP, if_neg (by rw [rd]; decide), if_neg (by rintro (h | h); exact h fm; exact h wh.all)]
    refine if_neg ?_
    rintro (h | h | h)
    · exact h wh.wor
    · exact h (by show (holdsG t (proveG t (lookG t [] ([], -1)).2 [] []) (lookG t [] ([], -1)).2 [] 0).1 = true; rw [show (0 : Nat) = ([] : List Bool).length from rfl, hp])
    · exact h (by show (holdsG t (proveG t (lookG t [] ([], -1)).2 [] []) (lookG t [] ([], -1)).2 [] 0).2 = _; rw [show (0 : Nat) = ([] : List Bool).length from rfl, hp]; rfl)
  · obtain ⟨_, wok, hw, _⟩ := formed_iff hf
    exact below_all ok lok bl wok hw ha
end Go.X

/- Sums that occur: in order, each as often as it is counted, together all. No condition. -/
set_option linter.unusedVariables false
namespace Go.X
end Go.X

/- Counts in a list by number. No condition. -/
set_option linter.unusedVariables false
namespace Go.X
structure CntIs (C : List Int) (L : List Int) : Prop where
  at' : ∀ x : Nat, x < C.length → C.getD x default = (L.count (x : Int) : Nat)
  rng : ∀ y ∈ L, 0 ≤ y ∧ y < C.length
theorem CntIs.one : CntIs [1] [0] := ⟨fun x hx => by
  have : x = 0 := by simpa using hx
  subst this; rfl, fun y hy => by
  rw [List.mem_singleton] at hy
  subst hy; decide⟩
/-- How often the first i draws have power y. -/
def oneJ (j : PJob) (y : Int) : Nat → Int
  | 0 => 0
  | i + 1 => oneJ j y i + if (j.draws.getD i default).power = y then (j.draws.getD i default).count else 0
def addC (C : List Int) (j : PJob) (x : Int) : Nat → Int
  | 0 => 0
  | s + 1 => addC C j x s + C.getD s default * oneJ j (x - s) j.draws.length
theorem oneJ_rng {j : PJob} (ok : PJobOk j) (y : Int) : ∀ i, i ≤ j.draws.length → 0 ≤ oneJ j y i ∧ oneJ j y i ≤ 64 * i
  | 0, _ => by simp only [oneJ]; omega
  | i + 1, h => by
    have ih := oneJ_rng ok y i (by omega)
    have d := mem_draws ok (getD_mem (show i < j.draws.length by omega))
    rw [oneJ]
    split <;> omega
theorem oneJ_count (j : PJob) (y s : Int) : ∀ i, i ≤ j.draws.length → (∀ d ∈ j.draws, 0 ≤ d.count) → oneJ j y i = (((j.draws.take i).flatMap fun d => List.replicate d.count.toNat (s + d.power)).count (s + y) : Nat)
  | 0, _, _ => by rw [List.take_zero]; rfl
  | i + 1, h, hd => by
    have ih := oneJ_count j y s i (by omega) hd
    have c := hd _ (getD_mem (show i < j.draws.length by omega))
    rw [oneJ, ih, take_snocP (by omega), List.flatMap_append, List.count_append, List.flatMap_cons, List.flatMap_nil, List.append_nil, List.count_replicate, Int.natCast_add]
    by_cases hp : (j.draws.getD i default).power = y
    · rw [if_pos hp, if_pos (by rw [hp]; simp)]; omega
    · rw [if_neg hp, if_neg (fun q => hp (by have := beq_iff_eq.1 q; omega))]; rfl
theorem sum_by {f : Int → Int} : ∀ {L : List Int} {n : Nat}, (∀ y ∈ L, 0 ≤ y ∧ y < n) → (L.map f).sum = ((List.range n).map fun s : Nat => ((L.count (s : Int) : Nat) : Int) * f s).sum
  | [], n, _ => by
    have : ∀ l : List Nat, (l.map fun s : Nat => ((([] : List Int).count (s : Int) : Nat) : Int) * f s).sum = 0 := fun l => by
      induction l with
      | nil => rfl
      | cons a l ih => rw [List.map_cons, List.sum_cons, ih, List.count_nil]; simp
    rw [this]; rfl
  | a :: L, n, h => by
    have ih := sum_by (f := f) (L := L) (n := n) fun y hy => h y (List.mem_cons_of_mem _ hy)
    have ha := h a List.mem_cons_self
    have add : ∀ l : List Nat, (l.map fun s : Nat => (((a :: L).count (s : Int) : Nat) : Int) * f s).sum = (l.map fun s : Nat => ((L.count (s : Int) : Nat) : Int) * f s).sum + (l.map fun s : Nat => if (s : Int) = a then f s else 0).sum := fun l => by
      induction l with
      | nil => rfl
      | cons s l ih =>
        rw [List.map_cons, List.sum_cons, List.map_cons, List.sum_cons, List.map_cons, List.sum_cons, ih, List.count_cons, Int.natCast_add, Int.add_mul]
        by_cases hs : (s : Int) = a
        · rw [if_pos hs, if_pos (by simp [hs])]; simp; omega
        · rw [if_neg hs, if_neg (fun q => hs (beq_iff_eq.1 q).symm)]; simp; omega
    have single : ∀ n : Nat, a < n → ((List.range n).map fun s : Nat => if (s : Int) = a then f s else 0).sum = f a := by
      intro n
      induction n with
      | zero => intro h; omega
      | succ n ihn =>
        intro h
        rw [List.range_succ, List.map_append, List.sum_append, List.map_cons, List.map_nil, List.sum_cons, List.sum_nil, Int.add_zero]
        by_cases hn : (n : Int) = a
        · rw [if_pos hn]
          have z : ∀ k : Nat, (k : Int) ≤ a → ((List.range k).map fun s : Nat => if (s : Int) = a then f s else 0).sum = 0 := by
            intro k
            induction k with
            | zero => intro _; rfl
            | succ k ihk =>
              intro hk
              rw [List.range_succ, List.map_append, List.sum_append, ihk (by omega), List.map_cons, List.map_nil, List.sum_cons, List.sum_nil, if_neg (by omega)]; rfl
          rw [z n (by omega), hn]; omega
        · rw [if_neg hn, ihn (by omega)]; omega
    rw [List.map_cons, List.sum_cons, ih, add, single n ha.2]; omega
theorem addC_sum {C L : List Int} (c : CntIs C L) (j : PJob) (x : Int) : ∀ n, n ≤ C.length → addC C j x n = ((List.range n).map fun s : Nat => ((L.count (s : Int) : Nat) : Int) * oneJ j (x - s) j.draws.length).sum
  | 0, _ => rfl
  | n + 1, h => by
    rw [addC, addC_sum c j x n (by omega), c.at' n (by omega), List.range_succ, List.map_append, List.sum_append]; simp
theorem count_flatI {L : List Int} {f : Int → List Int} {x : Int} : (((L.flatMap f).count x : Nat) : Int) = (L.map fun s => (((f s).count x : Nat) : Int)).sum := by
  induction L with
  | nil => rfl
  | cons a L ih => rw [List.flatMap_cons, List.count_append, Int.natCast_add, ih, List.map_cons, List.sum_cons]
theorem addC_all {C L : List Int} (c : CntIs C L) {j : PJob} (ok : PJobOk j) (x : Int) : addC C j x C.length = ((step1 L j).count x : Nat) := by
  rw [addC_sum c j x _ (Nat.le_refl _), ← sum_by (f := fun s => oneJ j (x - s) j.draws.length) c.rng]
  unfold step1
  rw [count_flatI]
  congr 1
  refine List.map_congr_left fun s _ => ?_
  rw [oneJ_count j (x - s) s _ (Nat.le_refl _) fun d hd => by have := (mem_draws ok hd).2.1; omega, List.take_length, show s + (x - s) = x by omega]
theorem addC_rng {C L : List Int} (c : CntIs C L) {j : PJob} (ok : PJobOk j) (hL : L.length ≤ 1099511627776) (x : Int) : ∀ s, s ≤ C.length → 0 ≤ addC C j x s ∧ addC C j x s ≤ s * 562949953421312
  | 0, _ => by simp only [addC]; omega
  | s + 1, h => by
    have ih := addC_rng c ok hL x s (by omega)
    have o := oneJ_rng ok (x - s) _ (Nat.le_refl _)
    have f := ok.few
    have cs : 0 ≤ C.getD s default ∧ C.getD s default ≤ 1099511627776 := by
      rw [c.at' s (by omega)]
      have : L.count (s : Int) ≤ L.length := List.count_le_length
      omega
    have m := mulP cs (show 0 ≤ oneJ j (x - s) j.draws.length ∧ oneJ j (x - s) j.draws.length ≤ 512 by omega)
    rw [addC, Int.natCast_add, Int.add_mul]
    omega
/-- The greatest power comes last. -/
theorem last_most {j : PJob} (ok : PJobOk j) : ∀ {i k : Nat}, i ≤ k → k < j.draws.length → (j.draws.getD i default).power ≤ (j.draws.getD k default).power
  | i, 0, h, hk => by rw [show i = 0 by omega]; exact Int.le_refl _
  | i, k + 1, h, hk => by
    by_cases he : i = k + 1
    · rw [he]; exact Int.le_refl _
    · have ih := last_most ok (i := i) (k := k) (by omega) (by omega)
      have d := ok.draw (k + 1) hk
      unfold DrawOk at d
      have := d.2.2 (by omega)
      rw [Nat.add_sub_cancel] at this
      omega
theorem CntIs.step {C L D : List Int} (c : CntIs C L) {j : PJob} (ok : PJobOk j) (hD : (D.length : Int) = C.length + (j.draws.getD (j.draws.length - 1) default).power) (h : ∀ x : Nat, x < D.length → D.getD x default = addC C j x C.length) : CntIs D (step1 L j) where
  at' := fun x hx => by rw [h x hx, addC_all c ok]
  rng := fun y hy => by
    obtain ⟨s, hs, d, hd, rfl⟩ := step1_mem hy
    have r := c.rng s hs
    have m := (mem_draws ok hd).1
    obtain ⟨i, hi, e⟩ := List.getElem_of_mem hd
    have lm := last_most ok (i := i) (k := j.draws.length - 1) (by omega) (by omega)
    rw [List.getD_eq_getElem?_getD, List.getElem?_eq_getElem hi, Option.getD_some, e] at lm
    omega
/-- What the new list holds after s numbers and i draws of the next. -/
def PartD (C D : List Int) (j : PJob) (s i : Nat) : Prop := ∀ x : Nat, x < D.length → D.getD x default = addC C j x s + C.getD s default * oneJ j ((x : Int) - s) i
theorem PartD.zero {C : List Int} {j : PJob} (n : Nat) : PartD C (List.replicate n 0) j 0 0 := fun x hx => by
  rw [addC, oneJ]
  have : (List.replicate n (0 : Int)).getD x default = 0 := by
    rw [List.getD_eq_getElem?_getD, List.getElem?_replicate]; split <;> rfl
  rw [this]; simp
theorem PartD.add {C D : List Int} {j : PJob} {s i y : Nat} (h : PartD C D j s i) (hy : (y : Int) = s + (j.draws.getD i default).power) (hl : y < D.length) : PartD C (D.set y (D.getD y default + C.getD s default * (j.draws.getD i default).count)) j s (i + 1) := fun x hx => by
  rw [List.length_set] at hx
  rw [getD_setK, oneJ]
  by_cases he : y = x
  · subst he
    rw [if_pos ⟨rfl, hl⟩, h y hl, if_pos (by omega), Int.mul_add]; omega
  · rw [if_neg (fun q => he q.1), h x hx, if_neg (by omega), Int.add_zero]
theorem PartD.next {C D : List Int} {j : PJob} {s i : Nat} (h : PartD C D j s i) (hs : i = j.draws.length ∨ C.getD s default = 0) : PartD C D j (s + 1) 0 := fun x hx => by
  rw [h x hx, addC, oneJ, Int.mul_zero, Int.add_zero]
  rcases hs with rfl | h0
  · rfl
  · rw [h0]; simp
end Go.X

/- Sums and parts over a limit read off the counts. No condition. -/
set_option linter.unusedVariables false
namespace Go.X
def ovC (C : List Int) (lim : Int) : Nat → Int
  | 0 => 0
  | i + 1 => ovC C lim i + if lim < (i : Int) then C.getD i default else 0
theorem ovC_sum {C L : List Int} (c : CntIs C L) (lim : Int) : ∀ n, n ≤ C.length → ovC C lim n = ((List.range n).map fun s : Nat => ((L.count (s : Int) : Nat) : Int) * (if lim < (s : Int) then 1 else 0)).sum
  | 0, _ => rfl
  | n + 1, h => by
    rw [ovC, ovC_sum c lim n (by omega), c.at' n (by omega), List.range_succ, List.map_append, List.sum_append]
    by_cases hn : lim < (n : Int)
    · rw [if_pos hn]; simp [hn]
    · rw [if_neg hn]; simp [hn]
theorem ovC_all {C L : List Int} (c : CntIs C L) (lim : Int) : ovC C lim C.length = (overN L lim : Nat) := by
  rw [ovC_sum c lim _ (Nat.le_refl _), ← sum_by (f := fun s => if lim < s then 1 else 0) c.rng]
  unfold overN
  clear c
  induction L with
  | nil => rfl
  | cons a L ih =>
    rw [List.map_cons, List.sum_cons, ih, List.countP_cons]
    by_cases h : lim < a
    · rw [if_pos h, if_pos (decide_eq_true h)]; omega
    · rw [if_neg h, if_neg (by rw [decide_eq_true_eq]; exact h)]; omega
theorem cnt_rng {C L : List Int} (c : CntIs C L) {i : Nat} (hi : i < C.length) : 0 ≤ C.getD i default ∧ C.getD i default ≤ L.length := by
  rw [c.at' i hi]
  have : L.count (i : Int) ≤ L.length := List.count_le_length
  omega
theorem ovC_rng {C L : List Int} (c : CntIs C L) (lim : Int) : ∀ i, i ≤ C.length → 0 ≤ ovC C lim i ∧ ovC C lim i ≤ i * L.length
  | 0, _ => by simp only [ovC]; omega
  | i + 1, h => by
    have ih := ovC_rng c lim i (by omega)
    have r := cnt_rng c (show i < C.length by omega)
    rw [ovC, Int.natCast_add, Int.add_mul]
    split <;> omega
end Go.X

/- Arguments that are slices of bools, opened. No condition. -/
set_option linter.unusedVariables false
namespace Go.X
open Go.ChangeShapes Go.WideShapes Go.Deep
end Go.X

/- append of a make onto nothing; an owned slice cut at its end; capacity. No condition. -/
set_option linter.unusedVariables false
namespace Go.X
section
variable {P : Program} {ops : Array Oper} {e : Env} {o r : List PHeap} {d : Option Tmp} {ty : TypeId} {pos : String} {aft : Array Edge}
variable {α : Type} {enc : α → List Value} {sz : Nat} {h : PHeap} {xs : List α} {v : Value}
/-- An owned slice, shorter. -/
theorem OArr.short {T : TypeId} (s : OArr v enc sz T h xs) {j : Nat} (hj : j ≤ xs.length) : OArr (cutv v sz 0 j) enc sz T h (xs.take j) := by
  obtain ⟨henc, ⟨hl, ho⟩, hv⟩ := s.pf
  have hlt : (xs.take j).length = j := by rw [List.length_take]; omega
  refine ⟨henc, ⟨by rw [hlt]; omega, fun x hx => ho x (List.mem_of_mem_take hx)⟩, ?_⟩
  rcases hv with ⟨rfl, rfl, rfl⟩ | ⟨b, c, cs, rfl, rfl, hle, hcl, htk⟩
  · refine .inl ⟨?_, by simp, rfl⟩
    have : j = 0 := by simpa using hj
    subst this; rfl
  · have hv2 : cutv (.slice (some ⟨b, 0, none⟩) xs.length c) sz 0 j = .slice (some ⟨b, 0, none⟩) j c := by
      unfold cutv
      simp [Addr.add]
    refine .inr ⟨b, c, cs, by rw [hv2, hlt], rfl, by rw [hlt]; omega, hcl, ?_⟩
    have e1 : xs.flatMap enc = (xs.take j).flatMap enc ++ (xs.drop j).flatMap enc := by rw [← List.flatMap_append, List.take_append_drop]
    have e2 : ((xs.take j).flatMap enc).length = j * sz := by rw [flat_len henc, hlt]
    rw [hlt, show cs.take (j * sz) = (cs.take (xs.length * sz)).take (j * sz) by rw [List.take_take, Nat.min_eq_left (Nat.mul_le_mul_right _ hj)], htk, e1, ← e2, List.take_left]
end
section
variable {c : Cx} {ops : Array Oper} {rest : List Oper} {k : List Item} {e : Env} {o r : List PHeap} {d : Nat} {ty : TypeId} {pos : String} {aft : Array Edge} {α : Type} {sz : Nat}
end
end Go.X

/- The place of an entry of an array that is an element. No condition. -/
set_option linter.unusedVariables false
namespace Go.X
variable {P : Program} {ops : Array Oper} {e : Env} {o r : List PHeap} {d : Option Tmp} {ty : TypeId} {pos : String} {aft : Array Edge}
variable {α : Type} {enc : α → List Value} {sz : Nat} {h : PHeap} {xs : List α} {v : Value}
theorem Q.ixE {t el len s2 : TypeId} [u : Und P t (.array len el)] [z : TySize P el s2] {x y : Operand} {k : IntKind} {n : Int} {i j kk : Nat} (hx : ev e x = some (pat v sz i kk)) [s : Arr v enc sz h xs] (hi : i < xs.length) (hy : ev e y = some (.int k n))
    [ix : Idx n j] (h0 : 0 ≤ n) (h1 : n < len) : Quiet P ops ⟨d, .indexAddr t x y, ty, pos, aft, none⟩ e o r (pat v sz i (kk + j * s2)) := .mk fun a w he _ => by
  have hn := ix.pf h0
  subst hn
  obtain ⟨b, k0, cs, T, fr, c, hv, _, hp, _⟩ := s.at' hi
  have hx' := ev_rel he hx
  rw [hp] at hx'
  rw [hp]
  simp only [execOp, hx', ev_rel he hy]
  refine run_val ?_
  unfold Instr.indexAt
  rw [bind_ok (a := (k, (j : Int))) (w1 := w) rfl]
  simp only
  rw [bind_ok (u.pf w)]
  simp only
  rw [bind_ok (a := (⟨b, k0 + (i * sz + kk), none⟩ : Addr)) (w1 := w) rfl]
  rw [bind_ok (a := (some (⟨b, k0 + (i * sz + kk), none⟩ : Addr), len, el)) (w1 := w) rfl]
  rw [bind_ok (u.pf w)]
  simp only
  rw [if_pos ⟨h0, h1⟩]
  rw [bind_ok (z.pf w)]
  simp [add_none, pure, Sem.run, Nat.add_assoc]
theorem for4 {f : Nat → Option Bool × PUnit → Sem (ForInStep (Option Bool × PUnit))} {b0 b1 b2 b3 b4 : Option Bool × PUnit} {w : World} (h0 : (f 0 b0).run P w = .ok (.yield b1) w) (h1 : (f 1 b1).run P w = .ok (.yield b2) w) (h2 : (f 2 b2).run P w = .ok (.yield b3) w) (h3 : (f 3 b3).run P w = .ok (.yield b4) w) :
    (forIn (m := Sem) [0, 1, 2, 3] b0 f).run P w = .ok b4 w := by
  rw [List.forIn_cons, bind_ok h0]
  show (forIn (m := Sem) [1, 2, 3] b1 f).run P w = _
  rw [List.forIn_cons, bind_ok h1]
  show (forIn (m := Sem) [2, 3] b2 f).run P w = _
  rw [List.forIn_cons, bind_ok h2]
  show (forIn (m := Sem) [3] b3 f).run P w = _
  rw [List.forIn_cons, bind_ok h3]
  rfl
theorem run_eqQuad {t el : TypeId} {ki : IntKind} (u : Und P t (.array 4 el)) (ht : IsAgg P el false) (s : TySize P el 1) (ui : Und P el (.int ki)) (a b c f : Int) (d : Nat) (w : World) :
    (Op.equalIn (d + 2) t (.agg #[.int .i64 a, .int .i64 b, .int .i64 c, .int .i64 f]) (.agg #[.int .i64 a, .int .i64 b, .int .i64 c, .int .i64 f])).run P w = .ok true w := by
  unfold Op.equalIn
  rw [bind_ok (u.pf w)]
  simp only
  rw [bind_ok (s.pf w)]
  simp only [Std.Legacy.Range.forIn_eq_forIn_range', Std.Legacy.Range.size, Nat.sub_zero, Nat.add_one_sub_one, Nat.div_one]
  show ((forIn (m := Sem) [0, 1, 2, 3] _ _) >>= _).run P w = _
  have p0 : (part el #[Value.int .i64 a, .int .i64 b, .int .i64 c, .int .i64 f] (0 * 1)).run P w = .ok (.int .i64 a) w := run_part (ht := ht) rfl w
  have p1 : (part el #[Value.int .i64 a, .int .i64 b, .int .i64 c, .int .i64 f] (1 * 1)).run P w = .ok (.int .i64 b) w := run_part (ht := ht) rfl w
  have p2 : (part el #[Value.int .i64 a, .int .i64 b, .int .i64 c, .int .i64 f] (2 * 1)).run P w = .ok (.int .i64 c) w := run_part (ht := ht) rfl w
  have p3 : (part el #[Value.int .i64 a, .int .i64 b, .int .i64 c, .int .i64 f] (3 * 1)).run P w = .ok (.int .i64 f) w := run_part (ht := ht) rfl w
  rw [bind_ok (a := (none, ())) (w1 := w) (for4 (b1 := (none, ())) (b2 := (none, ())) (b3 := (none, ())) ?_ ?_ ?_ ?_)]
  · rfl
  · rw [bind_ok p0, bind_ok p0, bind_ok (run_eqInt (u := ui) w)]
    simp only [beq_self_eq_true, Bool.not_true, Bool.false_eq_true, if_false]; rfl
  · rw [bind_ok p1, bind_ok p1, bind_ok (run_eqInt (u := ui) w)]
    simp only [beq_self_eq_true, Bool.not_true, Bool.false_eq_true, if_false]; rfl
  · rw [bind_ok p2, bind_ok p2, bind_ok (run_eqInt (u := ui) w)]
    simp only [beq_self_eq_true, Bool.not_true, Bool.false_eq_true, if_false]; rfl
  · rw [bind_ok p3, bind_ok p3, bind_ok (run_eqInt (u := ui) w)]
    simp only [beq_self_eq_true, Bool.not_true, Bool.false_eq_true, if_false]; rfl
/-- Four numbers compared with themselves. -/
theorem Q.neqQ {t t2 el : TypeId} {ki : IntKind} {x y : Operand} {a b c f a' b' c' f' : Int} (hx : ev e x = some (.agg #[.int .i64 a, .int .i64 b, .int .i64 c, .int .i64 f])) (hy : ev e y = some (.agg #[.int .i64 a', .int .i64 b', .int .i64 c', .int .i64 f'])) (ha : a' = a) (hb : b' = b) (hc : c' = c) (hf : f' = f) (u : Und P t (.array 4 el)) (ht : IsAgg P el false) (s : TySize P el 1) (ui : Und P el (.int ki)) (hg : P.eqGuardType P.depth t = false) :
    Quiet P ops ⟨d, .binOp .neq t x y t2, ty, pos, aft, none⟩ e o r (.bool false) := .mk fun s' w he _ => by
  subst ha hb hc hf
  simp only [execOp, ev_rel he hx, ev_rel he hy]
  refine run_val ?_
  rw [bind_ok (run_guardAgg hg (.inr rfl) w)]
  unfold binOp
  simp only
  have h1 : (Op.equal t (.agg #[.int .i64 a', .int .i64 b', .int .i64 c', .int .i64 f']) (.agg #[.int .i64 a', .int .i64 b', .int .i64 c', .int .i64 f'])).run P w = .ok true w := run_eqQuad (d := 9998) u ht s ui a' b' c' f' w
  rw [bind_ok h1]
  rfl
end Go.X

/- Iterators that give what they yield, with a state that is shared with the rounds; loops over them. No condition. -/
set_option linter.unusedSimpArgs false
set_option linter.unusedVariables false
namespace Go.X
theorem VSpec.joinG {P : Program} {y : Value} {vs : List Value} {Hm Ht Hr : List PHeap} {R : Value → List PHeap → Prop} (h : VSpec P y vs (Hm ++ Ht) Hr R) (hp : PD Hm) {R' : Value → List PHeap → PHeap → Prop} (hR : ∀ v hs, R v hs → ∃ a s, hs = a ++ [s] ∧ R' v a s) :
    VSpec P y vs (join Hm :: Ht) Hr (fun v hs => ∃ a s, PD a ∧ hs = [join a, s] ∧ R' v a s) := fun o r w hs hr =>
  (h o r w (by have := Sep.split hp (o := Ht ++ o) hs; rwa [← List.append_assoc] at this) hr).mono fun v _ ⟨hs', hR0, hS⟩ => by
    obtain ⟨a, s, rfl, h2⟩ := hR v hs' hR0
    rw [List.append_assoc] at hS
    exact ⟨[join a, s], ⟨a, s, ⟨hS.left.pw, hS.left.no⟩, rfl, h2⟩, hS.join⟩
/-- It yields n times; each value is given away with its heap; St: what is shared with the rounds. -/
def ItG (P : Program) (y : Value) (n : Nat) (Y : Nat → PHeap → List Value → Prop) (St : PHeap → Prop) (Hg : List PHeap) : Prop :=
  ∀ (f : Value) (Hr : List PHeap) (Q : Nat → PHeap → Prop) (X : PHeap → Prop),
    (∀ i, i < n → ∀ g vs q s, Y i g vs → Q i q → St s → VSpec P f vs [q, s, g] Hr (fun v hs => ∃ b q' s', v = .bool b ∧ hs = [q', s'] ∧ St s' ∧ (b = true → Q (i + 1) q') ∧ (b = false → X q'))) →
    ∀ q s, Q 0 q → St s → VSpec P y [f] [q, s] (Hg ++ Hr) (fun _ hs => ∃ q' s', hs = [q', s'] ∧ St s' ∧ (Q n q' ∨ X q'))
def RoundG {X : Type} (oc : X → List PHeap) (St : PHeap → Prop) (I : X → Prop) (J : Code → X → Prop) : Option Code → List PHeap → Prop
  | none, hs => ∃ x s, I x ∧ St s ∧ hs = oc x ++ [s]
  | some j, hs => ∃ x s, J j x ∧ St s ∧ hs = oc x ++ [s]
theorem XK.rangeG {P : Program} {f : FuncId} {N : Nat} {B : PHeap} {E : Frame → World → Prop} {X : Type} {k : List Item} {e : Env} {o o1 ok r : List PHeap} {x : Operand} {y : Value} {ps : List Tmp} {asn bd : Code} {Hg : List PHeap} {n : Nat} {Y : Nat → PHeap → List Value → Prop} {St : PHeap → Prop}
    (oc : X → List PHeap) (I : Nat → X → Prop) (J : Code → X → Prop) (x0 : X) (o0 : List PHeap) (s0 : PHeap) (hx : ev e x = some y) (hit : ItG P y n Y St Hg)
    [rst : Rest o0 o o1] [tk : Take s0 o1 ok] (ho0 : oc x0 = o0) (h0 : I 0 x0) (hs0 : St s0)
    [al : AllIn Hg ok (B :: r)] (hps : ps.all (fun p => Nat.blt p N) = true) (hlen : ∀ i g vs, Y i g vs → vs.length = ps.length)
    (round : ∀ l rec B' i x s g vs, i < n → Y i g vs → I i x → St s → XK (rcx P f N l rec B' (RoundG oc St (I (i + 1)) J)) [.code asn, .beginRound, .code bd] (pars ps vs e) (rdy l rec :: (oc x ++ [s, g])) (ok ++ r))
    (cont : ∀ x s, I n x → St s → XK ⟨P, f, none, N, B, E⟩ k e (oc x ++ s :: ok) r)
    (jump : ∀ j x s, J j x → St s → XK ⟨P, f, none, N, B, E⟩ (.code j :: k) e (oc x ++ s :: ok) r) :
    XK ⟨P, f, none, N, B, E⟩ (.code (.rangeFunc x ps.toArray asn bd) :: k) e o r := fun D ds a w cs ha he hD hm => by
  have hm0 : Sep (D :: (o0 ++ o1)) (B :: r) w := rst.wk.sepD hm
  have hm1 : Sep (D :: (o0 ++ ([s0] ++ ok))) (B :: r) w := hm0.perm ((tk.pf.append_left o0).cons D)
  let rec' : Loop := { state := .ready, pending := none, fn := f, tmps := a, params := ps.toArray, assign := asn, body := bd, defers := w.heap.size }
  let l := w.heap.size + 1
  let w1 := (w.alloc (.deferred (some []))).alloc (.loop rec')
  have henter : (Instr.enterLoop f a ps.toArray asn bd none).run P w = .ok (l, [{ target := .collected w.heap.size, args := #[] }]) w1 := run_enterLoop_outer f a ps.toArray asn bd
  have hs1 : Sep (rdy l rec' :: sing w.heap.size (.deferred (some [])) :: D :: (o0 ++ ([s0] ++ ok))) (B :: r) w1 := by
    have := (hm1.push (.deferred (some []))).push (.loop rec')
    simp only [Array.size_push] at this
    exact this
  let D' := Go.X.join [sing w.heap.size (.deferred (some [])), D]
  have hs2 : Sep (D' :: rdy l rec' :: (o0 ++ ([s0] ++ ok))) (B :: r) w1 := by
    refine Sep.join (hs := [sing w.heap.size (.deferred (some [])), D]) (hs1.perm ?_)
    exact (List.Perm.swap _ _ _).trans ((List.Perm.swap _ _ _).cons _)
  have hD' : Marked D' (w.heap.size :: ds) := by
    refine ⟨List.nodup_cons.2 ⟨fun hmem => ?_, hD.1⟩, fun b => ?_⟩
    · have := sub_lt (hm.so D List.mem_cons_self) (b := w.heap.size) (o := .deferred (some [])) (by rw [hD.2, if_pos hmem])
      omega
    · simp only [D', Go.X.join, sing, emp, Option.or_none, hD.2 b, List.mem_cons]
      by_cases hb : b = w.heap.size
      · simp [hb]
      · simp [hb]
  have hs3 : Sep ((Go.X.join (rdy l rec' :: o0) :: [s0]) ++ (D' :: ok)) (B :: r) w1 := by
    refine (Sep.join (hs := rdy l rec' :: o0) (o := D' :: ([s0] ++ ok)) (hs2.perm ?_)).perm ?_
    · show (D' :: ((rdy l rec' :: o0) ++ ([s0] ++ ok))).Perm ((rdy l rec' :: o0) ++ D' :: ([s0] ++ ok))
      exact List.perm_middle.symm
    · show (_ :: D' :: ([s0] ++ ok)).Perm (_ :: ([s0] ++ D' :: ok))
      exact List.perm_middle.symm.cons _
  have hp0 : PD (rdy l rec' :: oc x0) := by
    rw [ho0]
    have hsub : (rdy l rec' :: o0).Sublist (rdy l rec' :: (o0 ++ ([s0] ++ ok))) := List.Sublist.cons_cons _ (List.sublist_append_left _ _)
    exact ⟨hs2.tail.pw.sublist hsub, fun h hh => hs2.tail.no h (hsub.mem hh)⟩
  have hpsN : ∀ p ∈ ps, p < N := fun p hp => by
    have := List.all_eq_true.1 hps p hp
    rwa [Nat.blt_eq] at this
  have hyield : ∀ i, i < n → ∀ g vs q s, Y i g vs → (∃ x, I i x ∧ PD (rdy l rec' :: oc x) ∧ q = Go.X.join (rdy l rec' :: oc x)) → St s →
      VSpec P (.func (.yield l) #[] #[]) vs [q, s, g] (ok ++ r) (fun v hs => ∃ b q' s', v = .bool b ∧ hs = [q', s'] ∧ St s' ∧
        (b = true → ∃ x, I (i + 1) x ∧ PD (rdy l rec' :: oc x) ∧ q' = Go.X.join (rdy l rec' :: oc x)) ∧
        (b = false → ∃ j x, J j x ∧ PD (ovr l rec' (some j) :: oc x) ∧ q' = Go.X.join (ovr l rec' (some j) :: oc x))) := by
    rintro i hi g vs q s hY ⟨x, hI, hp, rfl⟩ hSt
    refine (VSpec.joinG (Hm := rdy l rec' :: oc x) (Ht := [s, g]) (VSpec.round (rec := rec') (N := N) (e := e) rfl ha he hpsN (hlen i g vs hY) (fun B' => round l rec' B' i x s g vs hi hY hI hSt)) hp
      (R' := fun v a s => ∃ j x, v = .bool (Option.isNone j) ∧ a = ovr l rec' j :: oc x ∧ St s ∧ (match j with | none => I (i + 1) x | some j => J j x)) ?_).mono ?_
    · rintro v hs ⟨j, hs', rfl, rfl, hR⟩
      cases j with
      | none =>
        obtain ⟨x', s', h1, h2, rfl⟩ := hR
        exact ⟨_, s', rfl, none, x', rfl, rfl, h2, h1⟩
      | some j =>
        obtain ⟨x', s', h1, h2, rfl⟩ := hR
        exact ⟨_, s', rfl, some j, x', rfl, rfl, h2, h1⟩
    · rintro v hs ⟨a, s', hpd, rfl, j, x', rfl, rfl, h2, h1⟩
      refine ⟨_, _, s', rfl, rfl, h2, ?_, ?_⟩
      · intro hj
        cases j with
        | some j => cases hj
        | none => exact ⟨x', h1, hpd, rfl⟩
      · intro hj
        cases j with
        | none => cases hj
        | some j => exact ⟨j, x', h1, hpd, rfl⟩
  have hN := hit _ (ok ++ r) (fun i q => ∃ x, I i x ∧ PD (rdy l rec' :: oc x) ∧ q = Go.X.join (rdy l rec' :: oc x)) _ hyield (Go.X.join (rdy l rec' :: o0)) s0 ⟨x0, h0, hp0, by rw [ho0]⟩ hs0 (D' :: ok) (B :: r) w1 hs3 (fun h hh => by
    rcases List.mem_append.1 hh with hh | hh
    · exact orMap (al.pf h hh) (List.mem_cons_of_mem _) id
    · rcases List.mem_append.1 hh with hh | hh
      · exact .inl (List.mem_cons_of_mem _ hh)
      · exact .inr (List.mem_cons_of_mem _ hh))
  obtain ⟨v, w', ⟨hs', ⟨q', s', rfl, hSt', hq⟩, hS⟩, st⟩ := step_range (ds := marks ds) (k := k) (cs := cs) henter (ev_rel he hx) hN
  have hperm : ∀ g : List PHeap, (g ++ ([s'] ++ (D' :: ok))).Perm (D' :: (g ++ s' :: ok)) := fun g => by
    refine ((List.Perm.swap D' s' ok).append_left g).trans ?_
    exact List.perm_middle
  rcases hq with ⟨x', hI, hpw, rfl⟩ | ⟨j, x', hJ, hpw, rfl⟩
  · obtain ⟨hS2, hb⟩ := Sep.turn (y := .loop { rec' with state := .exhausted, pending := none }) (Sep.split hpw hS)
    obtain ⟨fr, w2, hE, st2⟩ := cont x' s' hI hSt' D' (w.heap.size :: ds) a _ cs ha he hD' (hS2.tail.perm (hperm _))
    exact ⟨fr, w2, hE, Steps.trans st (.head (step_endRange (run_endLoop hb (by simp))) st2)⟩
  · obtain ⟨hS2, hb⟩ := Sep.turn (y := .loop { rec' with state := .exhausted, pending := some j }) (Sep.split hpw hS)
    obtain ⟨fr, w2, hE, st2⟩ := jump j x' s' hJ hSt' D' (w.heap.size :: ds) a _ cs ha he hD' (hS2.tail.perm (hperm _))
    exact ⟨fr, w2, hE, Steps.trans st (.head (step_endRange (run_endLoop hb (by simp))) st2)⟩
end Go.X

/- Three numbers compared with themselves. No condition. -/
set_option linter.unusedVariables false
namespace Go.X
variable {P : Program} {ops : Array Oper} {e : Env} {o r : List PHeap} {d : Option Tmp} {ty : TypeId} {pos : String} {aft : Array Edge}
theorem for3 {f : Nat → Option Bool × PUnit → Sem (ForInStep (Option Bool × PUnit))} {b0 b1 b2 b3 : Option Bool × PUnit} {w : World} (h0 : (f 0 b0).run P w = .ok (.yield b1) w) (h1 : (f 1 b1).run P w = .ok (.yield b2) w) (h2 : (f 2 b2).run P w = .ok (.yield b3) w) :
    (forIn (m := Sem) [0, 1, 2] b0 f).run P w = .ok b3 w := by
  rw [List.forIn_cons, bind_ok h0]
  show (forIn (m := Sem) [1, 2] b1 f).run P w = _
  rw [List.forIn_cons, bind_ok h1]
  show (forIn (m := Sem) [2] b2 f).run P w = _
  rw [List.forIn_cons, bind_ok h2]
  rfl
theorem run_eqTri {t el : TypeId} {ki : IntKind} (u : Und P t (.array 3 el)) (ht : IsAgg P el false) (s : TySize P el 1) (ui : Und P el (.int ki)) (a b c : Int) (d : Nat) (w : World) :
    (Op.equalIn (d + 2) t (.agg #[.int .i64 a, .int .i64 b, .int .i64 c]) (.agg #[.int .i64 a, .int .i64 b, .int .i64 c])).run P w = .ok true w := by
  unfold Op.equalIn
  rw [bind_ok (u.pf w)]
  simp only
  rw [bind_ok (s.pf w)]
  simp only [Std.Legacy.Range.forIn_eq_forIn_range', Std.Legacy.Range.size, Nat.sub_zero, Nat.add_one_sub_one, Nat.div_one]
  show ((forIn (m := Sem) [0, 1, 2] _ _) >>= _).run P w = _
  have p0 : (part el #[Value.int .i64 a, .int .i64 b, .int .i64 c] (0 * 1)).run P w = .ok (.int .i64 a) w := run_part (ht := ht) rfl w
  have p1 : (part el #[Value.int .i64 a, .int .i64 b, .int .i64 c] (1 * 1)).run P w = .ok (.int .i64 b) w := run_part (ht := ht) rfl w
  have p2 : (part el #[Value.int .i64 a, .int .i64 b, .int .i64 c] (2 * 1)).run P w = .ok (.int .i64 c) w := run_part (ht := ht) rfl w
  rw [bind_ok (a := (none, ())) (w1 := w) (for3 (b1 := (none, ())) (b2 := (none, ())) ?_ ?_ ?_)]
  · rfl
  · rw [bind_ok p0, bind_ok p0, bind_ok (run_eqInt (u := ui) w)]
    simp only [beq_self_eq_true, Bool.not_true, Bool.false_eq_true, if_false]; rfl
  · rw [bind_ok p1, bind_ok p1, bind_ok (run_eqInt (u := ui) w)]
    simp only [beq_self_eq_true, Bool.not_true, Bool.false_eq_true, if_false]; rfl
  · rw [bind_ok p2, bind_ok p2, bind_ok (run_eqInt (u := ui) w)]
    simp only [beq_self_eq_true, Bool.not_true, Bool.false_eq_true, if_false]; rfl
theorem Q.eqlT {t t2 el : TypeId} {ki : IntKind} {x y : Operand} {a b c : Int} (hx : ev e x = some (.agg #[.int .i64 a, .int .i64 b, .int .i64 c])) (hy : ev e y = some (.agg #[.int .i64 a, .int .i64 b, .int .i64 c])) (u : Und P t (.array 3 el)) (ht : IsAgg P el false) (s : TySize P el 1) (ui : Und P el (.int ki)) (hg : P.eqGuardType P.depth t = false) :
    Quiet P ops ⟨d, .binOp .eql t x y t2, ty, pos, aft, none⟩ e o r (.bool true) := .mk fun s' w he _ => by
  simp only [execOp, ev_rel he hx, ev_rel he hy]
  refine run_val ?_
  rw [bind_ok (run_guardAgg hg (.inl rfl) w)]
  unfold binOp
  simp only
  have h1 : (Op.equal t (.agg #[.int .i64 a, .int .i64 b, .int .i64 c]) (.agg #[.int .i64 a, .int .i64 b, .int .i64 c])).run P w = .ok true w := run_eqTri (d := 9998) u ht s ui a b c w
  rw [bind_ok h1]
  rfl
end Go.X

/- Groups apart, pair by pair. No condition. -/
set_option linter.unusedVariables false
namespace Go.X
def badP (t : PTask) (w : List Int) (i j : Nat) : Prop := ((((t.jobs.getD i default).group = (t.jobs.getD j default).group ∧ 0 < (t.jobs.getD i default).group) ∧ 0 ≤ w.getD i default) ∧ 0 ≤ w.getD j default) ∧ (t.racks.getD (w.getD i default).toNat default).domain = (t.racks.getD (w.getD j default).toNat default).domain
theorem keys_has {t : PTask} {w : List Int} {k : Int × Int} : ∀ {n}, k ∈ keysTo t w n ↔ ∃ j, j < n ∧ skipK t w j = false ∧ keyOf t w j = k
  | 0 => ⟨fun h => (by cases h), fun ⟨j, h, _⟩ => absurd h (Nat.not_lt_zero j)⟩
  | n + 1 => by
    rw [keysTo, List.mem_append, keys_has]
    constructor
    · rintro (⟨j, a, b, c⟩ | h)
      · exact ⟨j, by omega, b, c⟩
      · cases hs : skipK t w n with
        | true => rw [hs, if_pos rfl] at h; cases h
        | false =>
          rw [hs, if_neg (by decide), List.mem_singleton] at h
          exact ⟨n, by omega, hs, h.symm⟩
    · rintro ⟨j, a, b, c⟩
      by_cases he : j = n
      · subst he; right; rw [b, if_neg (by decide), c]; exact List.mem_cons_self
      · left; exact ⟨j, by omega, b, c⟩
theorem bad_iff {t : PTask} (ok : TaskOk t) {w : List Int} {i j : Nat} (hi : i < t.jobs.length) (hj : j < t.jobs.length) : badP t w i j ↔ (skipK t w i = false ∧ skipK t w j = false ∧ keyOf t w j = keyOf t w i) := by
  have gi := (ok.job i hi).grp
  have gj := (ok.job j hj).grp
  unfold badP skipK keyOf
  rw [Bool.or_eq_false_iff, Bool.or_eq_false_iff, decide_eq_false_iff_not, decide_eq_false_iff_not, decide_eq_false_iff_not, decide_eq_false_iff_not, Prod.mk.injEq]
  constructor
  · rintro ⟨⟨⟨⟨a, b⟩, c⟩, d⟩, e⟩
    exact ⟨⟨by omega, by omega⟩, ⟨by omega, by omega⟩, a.symm, e.symm⟩
  · rintro ⟨⟨a, b⟩, ⟨c, d⟩, e, f⟩
    exact ⟨⟨⟨⟨e.symm, by omega⟩, by omega⟩, by omega⟩, f.symm⟩
theorem apart_pairs {t : PTask} (ok : TaskOk t) {w : List Int} : ∀ n, n ≤ t.jobs.length → (apartTo t w n = true ↔ ∀ i, i < n → ∀ j, j < i → ¬ badP t w i j)
  | 0, _ => ⟨fun _ i hi => absurd hi (Nat.not_lt_zero i), fun _ => rfl⟩
  | n + 1, h => by
    rw [apartTo, Bool.and_eq_true, apart_pairs ok n (by omega)]
    constructor
    · rintro ⟨a, b⟩ i hi j hj hb
      by_cases he : i = n
      · subst he
        obtain ⟨s1, s2, s3⟩ := (bad_iff ok (by omega) (by omega)).1 hb
        rw [s1, Bool.false_or, Bool.not_eq_true'] at b
        have : (keysTo t w i).contains (keyOf t w i) = true := List.contains_iff_mem.2 (keys_has.2 ⟨j, hj, s2, s3⟩)
        rw [this] at b; cases b
      · exact a i (by omega) j hj hb
    · intro k
      refine ⟨fun i hi => k i (by omega), ?_⟩
      cases hs : skipK t w n with
      | true => rfl
      | false =>
        rw [Bool.false_or, Bool.not_eq_true', Bool.eq_false_iff]
        intro hc
        obtain ⟨j, h1, h2, h3⟩ := keys_has.1 (List.contains_iff_mem.1 hc)
        exact k n (by omega) j h1 ((bad_iff ok (by omega) (by omega)).2 ⟨hs, h2, h3⟩)
end Go.X

/- What a placement leaves free. No condition. -/
set_option linter.unusedVariables false
namespace Go.X
structure PRow where
  a : Int
  b : Int
  c : Int
  d : Int
deriving DecidableEq, Inhabited
/-- The greatest draw of a job. -/
def topJ (j : PJob) : Int := (j.draws.getD (j.draws.length - 1) default).power
def topK (l : List PJob) : Nat → Int
  | 0 => 0
  | i + 1 => topK l i + topJ (l.getD i default)
theorem topJ_rng {j : PJob} (ok : PJobOk j) : 0 ≤ topJ j ∧ topJ j ≤ 1000 := by
  have f := ok.few
  exact (mem_draws ok (getD_mem (show j.draws.length - 1 < j.draws.length by omega))).1
theorem topK_rng {l : List PJob} (h : ∀ i, i < l.length → PJobOk (l.getD i default)) : ∀ i, i ≤ l.length → 0 ≤ topK l i ∧ topK l i ≤ 1000 * i
  | 0, _ => by simp only [topK]; omega
  | i + 1, hi => by
    have ih := topK_rng h i (by omega)
    have t := topJ_rng (h i (by omega))
    rw [topK]; omega
/-- What is left of a rack when the first n of its jobs are in it. -/
def leftR (r : PRack) (l : List PJob) (n : Nat) : PRow := ⟨r.r0 - needK l 0 n, r.r1 - needK l 1 n, r.r2 - needK l 2 n, r.cap - topK l n⟩
def rowG (t : PTask) (w : List Int) (r : Nat) : PRow := leftR (t.racks.getD r default) (inL t w r) (inL t w r).length
def rowsTo (t : PTask) (w : List Int) : Nat → List PRow
  | 0 => []
  | r + 1 => rowsTo t w r ++ [rowG t w r]
theorem rowsTo_len (t : PTask) (w : List Int) : ∀ n, (rowsTo t w n).length = n
  | 0 => rfl
  | n + 1 => by rw [rowsTo, List.length_append, rowsTo_len t w n]; rfl
def spareG (t : PTask) (w : List Int) : List PRow × Int := if formedG t w ≠ 0 then ([], formedG t w) else if ¬ allowedB t w = true then ([], 90) else (rowsTo t w t.racks.length, 0)
end Go.X

/- Sons by asking for leave. No condition. -/
set_option linter.unusedVariables false
namespace Go.X
theorem allowed_son {t : PTask} {w : List Int} (h : allowedB t w = true) {r : Nat} (hr : r < t.racks.length) : allowedB t (w ++ [(r : Int)]) = sonOk t w r := by
  rw [Bool.eq_iff_iff, sonOk, Bool.and_eq_true, allowed_iff]
  rw [allowed_iff] at h
  constructor
  · rintro ⟨a, b⟩; exact ⟨a r hr, b⟩
  · rintro ⟨a, b⟩
    refine ⟨fun q hq => ?_, b⟩
    by_cases he : (r : Int) = q
    · have : r = q := by omega
      subst this; exact a
    · rw [fit_same he]; exact h.1 q hq
theorem allowed_outw {t : PTask} {w : List Int} (h : allowedB t w = true) : allowedB t (w ++ [-1]) = true := by
  rw [allowed_iff] at h ⊢
  refine ⟨fun q hq => ?_, apart_out h.2⟩
  rw [fit_same (by omega)]; exact h.1 q hq
def sonsTo (t : PTask) (w : List Int) (i : Nat) : List (List Int) := if i ≤ t.racks.length then psonsTo t w i else psons t w
theorem sonsTo_in {t : PTask} {w : List Int} {i : Nat} (hi : i < t.racks.length) : sonsTo t w (i + 1) = sonsTo t w i ++ (if sonOk t w i = true then [w ++ [(i : Int)]] else []) := by
  unfold sonsTo
  rw [if_pos (by omega), if_pos (by omega), psonsTo]
theorem sonsTo_out (t : PTask) (w : List Int) : sonsTo t w (t.racks.length + 1) = sonsTo t w t.racks.length ++ [w ++ [-1]] := by
  unfold sonsTo
  rw [if_neg (by omega), if_pos (Nat.le_refl _), psons]
theorem sonsTo_len (t : PTask) (w : List Int) (i : Nat) : (sonsTo t w i).length ≤ t.racks.length + 1 := by
  unfold sonsTo
  split
  · have := psonsTo_len t w i; omega
  · rw [psons_len]; have := psonsTo_len t w t.racks.length; omega
end Go.X

/- A proof is written from anywhere. No condition. -/
set_option linter.unusedVariables false
namespace Go.X
theorem proveF_app {t : PTask} {b : Int} : ∀ f w p, proveF t b f w p = p ++ proveF t b f w []
  | 0, w, p => by rw [proveF, proveF, List.append_nil]
  | f + 1, w, p => by
    rw [proveF, proveF]
    split
    · rfl
    · have go : ∀ n q r, foldTo (fun p son => proveF t b f son p) (psons t w) (q ++ r) n = q ++ foldTo (fun p son => proveF t b f son p) (psons t w) r n := by
        intro n
        induction n with
        | zero => intro q r; rfl
        | succ n ih => intro q r; rw [foldTo, foldTo, ih, proveF_app f _ (q ++ _), proveF_app f _ (foldTo _ _ r n), List.append_assoc]
      rw [go, List.nil_append]
theorem prove_app {t : PTask} {b : Int} (w : List Int) (p : List Bool) : proveG t b w p = p ++ proveG t b w [] := proveF_app _ w p
end Go.X

/- All whole placements below a node, in order; the best of them is what the search finds. No condition. -/
set_option linter.unusedVariables false
namespace Go.X
def leavesF (t : PTask) : Nat → List Int → List (List Int)
  | 0, _ => []
  | f + 1, w => if w.length = t.jobs.length then [w] else foldTo (fun (a : List (List Int)) son => a ++ leavesF t f son) (psons t w) [] (psons t w).length
def leavesG (t : PTask) (w : List Int) : List (List Int) := leavesF t (t.jobs.length - w.length + 1) w
theorem leaves_eq {t : PTask} {w : List Int} (h : w.length ≤ t.jobs.length) : leavesG t w = if w.length = t.jobs.length then [w] else foldTo (fun (a : List (List Int)) son => a ++ leavesG t son) (psons t w) [] (psons t w).length := by
  rw [leavesG, leavesF]
  split
  · rfl
  · refine foldTo_congr fun i hi s => ?_
    obtain ⟨y, e, _⟩ := psons_get hi
    rw [leavesG, e, List.length_append, show ([y] : List Int).length = 1 from rfl, show t.jobs.length - (w.length + 1) + 1 = t.jobs.length - w.length by omega]
/-- The better of what is there and a whole placement. -/
def better (t : PTask) (s : List Int × Int) (w : List Int) : List Int × Int := if s.2 < worthG t w then (w, worthG t w) else s
theorem better_stay {t : PTask} {s : List Int × Int} : ∀ {L : List (List Int)}, (∀ x ∈ L, worthG t x ≤ s.2) → L.foldl (better t) s = s
  | [], _ => rfl
  | a :: L, h => by
    rw [List.foldl_cons, show better t s a = s by unfold better; rw [if_neg (by have := h a List.mem_cons_self; omega)]]
    exact better_stay fun x hx => h x (List.mem_cons_of_mem _ hx)
theorem leaves_hope {t : PTask} (ok : TaskOk t) : ∀ m w, w.length ≤ t.jobs.length → t.jobs.length - w.length ≤ m → ∀ x ∈ leavesG t w, worthG t x ≤ hopeG t w
  | m, w, hw, hm, x, hx => by
    rw [leaves_eq hw] at hx
    split at hx
    · rename_i hl
      rw [List.mem_singleton] at hx
      rw [hx, hope_leaf hl]; exact Int.le_refl _
    · rename_i hl
      cases m with
      | zero => omega
      | succ m =>
        have go : ∀ n, n ≤ (psons t w).length → ∀ x ∈ foldTo (fun (a : List (List Int)) son => a ++ leavesG t son) (psons t w) [] n, worthG t x ≤ hopeG t w := by
          intro n
          induction n with
          | zero => intro _ x hx; cases hx
          | succ n ih =>
            intro hn x hx
            rw [foldTo] at hx
            rcases List.mem_append.1 hx with hx | hx
            · exact ih (by omega) x hx
            · obtain ⟨y, e, _⟩ := psons_get (t := t) (w := w) (i := n) (by omega)
              have := leaves_hope ok m _ (by rw [e, List.length_append]; simp; omega) (by rw [e, List.length_append]; simp; omega) x hx
              have h2 := hope_son ok (show w.length < t.jobs.length by omega) y
              rw [e] at this
              exact Int.le_trans this h2
        exact go _ (Nat.le_refl _) x hx
theorem look_leaves {t : PTask} (ok : TaskOk t) : ∀ m w s, w.length ≤ t.jobs.length → t.jobs.length - w.length ≤ m → lookG t w s = (leavesG t w).foldl (better t) s
  | m, w, s, hw, hm => by
    rw [lookF_eq hw]
    by_cases h1 : hopeG t w ≤ s.2
    · rw [if_pos h1, better_stay fun x hx => Int.le_trans (leaves_hope ok _ w hw (Nat.le_refl _) x hx) h1]
    · rw [if_neg h1, leaves_eq hw]
      by_cases h2 : w.length = t.jobs.length
      · rw [if_pos h2, if_pos h2, List.foldl_cons, List.foldl_nil]
        unfold better
        rw [hope_leaf h2] at h1
        rw [if_pos (by omega)]
      · rw [if_neg h2, if_neg h2]
        cases m with
        | zero => omega
        | succ m =>
          have go : ∀ n, n ≤ (psons t w).length → foldTo (fun s son => lookG t son s) (psons t w) s n = (foldTo (fun (a : List (List Int)) son => a ++ leavesG t son) (psons t w) [] n).foldl (better t) s := by
            intro n
            induction n with
            | zero => intro _; rfl
            | succ n ih =>
              intro hn
              obtain ⟨y, e, _⟩ := psons_get (t := t) (w := w) (i := n) (by omega)
              rw [foldTo, foldTo, List.foldl_append, ← ih (by omega)]
              exact look_leaves ok m _ _ (by rw [e, List.length_append]; simp; omega) (by rw [e, List.length_append]; simp; omega)
          exact go _ (Nat.le_refl _)
end Go.X

/- How many whole placements there are. No condition. -/
set_option linter.unusedVariables false
namespace Go.X
theorem leavesTo_len {t : PTask} {w : List Int} {c : Nat} (h : ∀ i, i < (psons t w).length → (leavesG t ((psons t w).getD i default)).length ≤ c) : ∀ n, n ≤ (psons t w).length → (foldTo (fun (a : List (List Int)) son => a ++ leavesG t son) (psons t w) [] n).length ≤ n * c
  | 0, _ => by rw [foldTo]; simp
  | n + 1, hn => by
    have ih := leavesTo_len h n (by omega)
    have := h n (by omega)
    rw [foldTo, List.length_append, Nat.succ_mul]; omega
theorem leaves_len {t : PTask} (ok : TaskOk t) : ∀ m w, w.length ≤ t.jobs.length → t.jobs.length - w.length ≤ m → (leavesG t w).length ≤ 6 ^ m
  | m, w, hw, hm => by
    rw [leaves_eq hw]
    split
    · exact Nat.one_le_pow _ _ (by decide)
    · cases m with
      | zero => omega
      | succ m =>
        have q := leavesTo_len (t := t) (w := w) (c := 6 ^ m) (fun i hi => by
          obtain ⟨y, e, _⟩ := psons_get hi
          exact leaves_len ok m _ (by rw [e, List.length_append]; simp; omega) (by rw [e, List.length_append]; simp; omega)) _ (Nat.le_refl _)
        have s6 := psons_few ok w
        have := Nat.mul_le_mul_right (6 ^ m) s6
        rw [Nat.pow_succ]; omega
end Go.X

/- Structs with arrays of three, compared with themselves. No condition. -/
set_option linter.unusedVariables false
namespace Go.X
/-- Every field is the same as itself. -/
inductive SameF (P : Program) (d : Nat) (xs : Array Value) : List Field → Prop
  | n : SameF P d xs []
  | c {f : Field} {fs : List Field} {k k' : IntKind} {m : Int} (hn : (f.name == "_") = false) (ht : IsAgg P f.type false) (u : Und P f.type (.int k')) (hx : xs[f.offset]? = some (.int k m)) (hr : SameF P d xs fs) : SameF P d xs (f :: fs)
  | a {f : Field} {fs : List Field} {el : TypeId} {ki : IntKind} {a b c : Int} (hn : (f.name == "_") = false) (ht : IsAgg P f.type true) (z : TySize P f.type 3) (u : Und P f.type (.array 3 el)) (te : IsAgg P el false) (se : TySize P el 1) (ui : Und P el (.int ki))
      (hx : xs.extract f.offset (f.offset + 3) = #[.int .i64 a, .int .i64 b, .int .i64 c]) (hr : SameF P d xs fs) : SameF P d xs (f :: fs)
theorem same_loop {P : Program} {d : Nat} {xs : Array Value} {fs : List Field} (h : SameF P d xs fs) (w : World) :
    (forIn (m := Sem) fs ((none, ()) : Option Bool × Unit) fun f __s =>
                  if f.name ≠ "_" then do
                    let __do_lift ← part f.type xs f.offset
                    let __do_lift_1 ← part f.type xs f.offset
                    let __do_lift ← Op.equalIn (d + 2) f.type __do_lift __do_lift_1
                    if (!__do_lift) = true then pure (ForInStep.done (some false, ()))
                      else pure (ForInStep.yield (none, ()))
                  else pure (ForInStep.yield (none, ()))).run P w = .ok (none, ()) w := by
  induction h with
  | n => rfl
  | @c f fs k k' m hn ht u hx hr ih =>
    rw [List.forIn_cons, if_pos (by intro h; rw [h] at hn; simp at hn)]
    rw [bind_ok (a := ForInStep.yield (none, ())) (w1 := w)]
    · simp only
      rw [ih]
    · rw [bind_ok (run_part (ht := ht) hx w), bind_ok (run_part (ht := ht) hx w), bind_ok (run_eqInt (u := u) w)]
      simp only [beq_self_eq_true, Bool.not_true, Bool.false_eq_true, if_false]
      rfl
  | @a f fs el ki a b c hn ht z u te se ui hx hr ih =>
    rw [List.forIn_cons, if_pos (by intro h; rw [h] at hn; simp at hn)]
    rw [bind_ok (a := ForInStep.yield (none, ())) (w1 := w)]
    · simp only
      rw [ih]
    · rw [bind_ok (run_partA (ht := ht) (z := z) hx w), bind_ok (run_partA (ht := ht) (z := z) hx w), bind_ok (run_eqTri (d := d) u te se ui a b c w)]
      simp only [Bool.not_true, Bool.false_eq_true, if_false]
      rfl
theorem run_sameStruct {P : Program} {t : TypeId} {fs : List Field} (u : Und P t (.struct fs.toArray)) (hs : P.stoodInHeld t = false) {xs : Array Value} {d : Nat} (h : SameF P d xs fs) (w : World) :
    (Op.equalIn (d + 3) t (.agg xs) (.agg xs)).run P w = .ok true w := by
  unfold Op.equalIn
  rw [bind_ok (u.pf w)]
  simp only
  have hp : (program).run P w = .ok P w := rfl
  rw [bind_ok hp, if_neg (by rw [hs]; decide)]
  have hl := same_loop h w
  rw [bind_ok (a := ((none, ()) : Option Bool × Unit)) (w1 := w)]
  · rfl
  · simp only [List.forIn_toArray]
    exact hl
theorem Q.neqSame {P : Program} {ops : Array Oper} {e : Env} {o r : List PHeap} {d : Option Tmp} {ty : TypeId} {pos : String} {aft : Array Edge} {t t2 : TypeId} {x y : Operand} {fs : List Field} {us : List Value} (hx : ev e x = some (.agg us.toArray)) (hy : ev e y = some (.agg us.toArray)) (u : Und P t (.struct fs.toArray)) (hs : P.stoodInHeld t = false) (hg : P.eqGuardType P.depth t = false)
    (h : SameF P 9997 us.toArray fs) : Quiet P ops ⟨d, .binOp .neq t x y t2, ty, pos, aft, none⟩ e o r (.bool false) := .mk fun a w he _ => by
  simp only [execOp, ev_rel he hx, ev_rel he hy]
  refine run_val ?_
  rw [bind_ok (run_guardAgg hg (.inr rfl) w)]
  unfold binOp
  simp only
  have h1 : (Op.equal t (.agg us.toArray) (.agg us.toArray)).run P w = .ok true w := run_sameStruct (d := 9997) u hs h w
  rw [bind_ok h1]
  rfl
end Go.X

/- The best placement's sizes. No condition. -/
set_option linter.unusedVariables false
namespace Go.X
theorem best_bnd {t : PTask} {x : List Int × Int × List Bool} (h0 : readyG t = 0 → x = bestP t) (h1 : readyG t ≠ 0 → x = ([], 0, [])) : x.1.length ≤ 8 ∧ (-1 ≤ x.2.1 ∧ x.2.1 ≤ 8000000) ∧ x.2.2.length ≤ 4000000 := by
  by_cases rd : readyG t = 0
  · rw [h0 rd]
    obtain ⟨ok, lok⟩ := ready_ok rd
    obtain ⟨⟨f, a, e⟩, _⟩ := best_law rd
    obtain ⟨_, _, wl, _⟩ := formed_iff f
    have j8 := ok.few
    have wr := worth_rng ok (w := (bestP t).1) (bestP t).1.length (by omega)
    have e' : worthTo t (bestP t).1 (bestP t).1.length = (bestP t).2.1 := e
    rw [e', wl] at wr
    refine ⟨by omega, by omega, ?_⟩
    have k := (best_whole ok lok).2
    have pl := prove_len ok t.jobs.length [] [] (Nat.zero_le _) (Nat.sub_le _ _) k
    have h6 : 6 ^ t.jobs.length ≤ 6 ^ 8 := Nat.pow_le_pow_right (by decide) j8
    have h8 : (6 : Nat) ^ 8 = 1679616 := rfl
    have e2 : (bestP t).2.2 = proveG t (lookG t [] ([], -1)).2 [] [] := rfl
    rw [e2]
    simp only [List.length_nil] at pl
    omega
  · rw [h1 rd]; exact ⟨by decide, by decide, by decide⟩
end Go.X

/- Arguments that hold slices of structs of numbers, opened. No condition. -/
set_option linter.unusedSimpArgs false
set_option linter.unusedVariables false
namespace Go.X
open Go.ChangeShapes Go.WideShapes Go.Deep
section
variable {H : Type} {enc : TypeId × Value → H} {P : Program} {W : World} {base : Nat} {v : Value} {d : DataW H} {ps : List MemPlace}
theorem arr_cells {α : Type} {f : α → List Value} {sz : Nat} (hf : ∀ x, (f x).length = sz) (hone : ∀ x, ∀ c ∈ f x, one c = true) (hsz : 0 < sz) {a : Addr} {len cap : Nat} {xs : List α} (hlen : xs.length = len) (hc : len ≤ cap) (h47 : len ≤ 140737488355328)
    (hcell : ∀ i (hi : i < xs.length) j, j < sz → W.cell? (a.add (i * sz + j)) = (f xs[i])[j]?) : Arr (.slice (some a) len cap) f sz (heapOf W) xs := by
  subst hlen
  refine ⟨hf, ⟨h47, fun x _ c hc => hone x c hc⟩, some a, cap, rfl, hc, (fun h => by cases h), fun hp => ?_⟩
  have h0 := hcell 0 hp 0 hsz
  rw [List.getElem?_eq_getElem (by rw [hf]; exact hsz)] at h0
  obtain ⟨b, k, sp⟩ := a
  obtain ⟨cs, T, fr, hsp, hb, _⟩ := cell_heap h0
  have hsp' : sp = none := by simpa [Addr.add] using hsp
  subst hsp'
  have hb' : W.heap[b]? = some (.cells cs T fr) := by simpa [Addr.add] using hb
  refine ⟨b, k, cs, T, fr, rfl, hb', fun i j hi hj => ?_⟩
  have hi' := hcell i hi j hj
  rw [add_none, List.getElem?_eq_getElem (by rw [hf]; exact hj)] at hi'
  obtain ⟨cs2, T2, fr2, _, hb2, hc2⟩ := cell_heap hi'
  have hb2' : W.heap[b]? = some (.cells cs2 T2 fr2) := hb2
  rw [hb'] at hb2'
  simp only [Option.some.injEq, Obj.cells.injEq] at hb2'
  obtain ⟨rfl, rfl, rfl⟩ := hb2'
  rw [List.getElem?_eq_getElem hi, Option.bind_some, List.getElem?_eq_getElem (by rw [hf]; exact hj), Nat.add_assoc]
  exact hc2
theorem arr_recs {α : Type} [Inhabited α] {held : Bool} {f : α → List Value} {sz : Nat} (hf : ∀ x, (f x).length = sz) (hone : ∀ x, ∀ c ∈ f x, one c = true) (hsz : 0 < sz) {t e : TypeId} {fuel : Nat} {cs : List Value} {x : DataW H × List MemPlace} (ht : P.underlying t = some (.slice e)) (hc : P.cellsOf e = sz)
    (h : DataW.trod enc P W 0 (fun _ => true) held fuel t cs = some x) (hw : ∀ elems spare, x.1 = .slice elems spare → elems.length + spare.length ≤ 140737488355328)
    (dec : ∀ n cs' y, DataW.trod enc P W 0 (fun _ => true) held n e cs' = some y → ∃ r, cs' = f r) : ∃ v xs, cs = [v] ∧ Arr v f sz (heapOf W) xs := by
  rcases open_slice ht h with ⟨rfl, _⟩ | ⟨a, len, cap, m, n, D, Pl, rfl, _, hl, hm, hmm, hx, hr⟩
  · exact ⟨_, [], rfl, Arr.nil hf⟩
  · simp only [if_true] at hmm
    subst hmm
    have hb : len ≤ 140737488355328 := by
      have := hw _ _ (by rw [hx])
      simp at this
      omega
    have hrec : ∀ i, ∃ r : α, i < len → W.cells? 0 (a.add (i * sz)) sz = some (f r) := fun i => by
      by_cases hi : i < len
      · obtain ⟨cs', h1, h2⟩ := hr i (by omega)
        obtain ⟨r, rfl⟩ := dec _ _ _ h2
        rw [hc] at h1
        exact ⟨r, fun _ => h1⟩
      · exact ⟨default, fun h => absurd h hi⟩
    have hch : ∃ g : Nat → α, ∀ i, i < len → W.cells? 0 (a.add (i * sz)) sz = some (f (g i)) := ⟨fun i => (hrec i).choose, fun i => (hrec i).choose_spec⟩
    obtain ⟨g, hg⟩ := hch
    refine ⟨_, (List.range len).map g, rfl, arr_cells hf hone hsz (by simp) hl hb fun i hi j hj => ?_⟩
    have hi2 : i < len := by simpa using hi
    have h3 := (World.cells?_some (hg i hi2)).2.2 j hj
    simp only [List.getElem_map, List.getElem_range]
    rw [← h3]
    congr 1
    simp only [Addr.add, Nat.add_assoc]
    by_cases hj0 : j = 0
    · subst hj0
      rw [if_pos rfl, Nat.add_zero]
    · rw [if_neg hj0, if_neg (by omega)]
      by_cases hi0 : i * sz = 0
      · rw [if_pos hi0, hi0, Nat.zero_add]
      · rw [if_neg hi0]
        simp only [Nat.add_assoc]
end
end Go.X

/- Arguments that are slices of structs with lists in them, opened. No condition. -/
set_option linter.unusedSimpArgs false
set_option linter.unusedVariables false
namespace Go.X
open Go.ChangeShapes Go.WideShapes Go.Deep
section
variable {H : Type} {enc : TypeId × Value → H} {P : Program} {W : World} {base : Nat} {v : Value} {d : DataW H} {ps : List MemPlace}
theorem arr_cellsQ {α : Type} {f : α → List Value} {sz : Nat} (hf : ∀ x, (f x).length = sz) {xs : List α} (hone : ∀ x ∈ xs, ∀ c ∈ f x, one c = true) (hsz : 0 < sz) {a : Addr} {len cap : Nat} (hlen : xs.length = len) (hc : len ≤ cap) (h47 : len ≤ 140737488355328)
    (hcell : ∀ i (hi : i < xs.length) j, j < sz → W.cell? (a.add (i * sz + j)) = (f xs[i])[j]?) : Arr (.slice (some a) len cap) f sz (heapOf W) xs := by
  subst hlen
  refine ⟨hf, ⟨h47, fun x hx c hc => hone x hx c hc⟩, some a, cap, rfl, hc, (fun h => by cases h), fun hp => ?_⟩
  have h0 := hcell 0 hp 0 hsz
  rw [List.getElem?_eq_getElem (by rw [hf]; exact hsz)] at h0
  obtain ⟨b, k, sp⟩ := a
  obtain ⟨cs, T, fr, hsp, hb, _⟩ := cell_heap h0
  have hsp' : sp = none := by simpa [Addr.add] using hsp
  subst hsp'
  have hb' : W.heap[b]? = some (.cells cs T fr) := by simpa [Addr.add] using hb
  refine ⟨b, k, cs, T, fr, rfl, hb', fun i j hi hj => ?_⟩
  have hi' := hcell i hi j hj
  rw [add_none, List.getElem?_eq_getElem (by rw [hf]; exact hj)] at hi'
  obtain ⟨cs2, T2, fr2, _, hb2, hc2⟩ := cell_heap hi'
  have hb2' : W.heap[b]? = some (.cells cs2 T2 fr2) := hb2
  rw [hb'] at hb2'
  simp only [Option.some.injEq, Obj.cells.injEq] at hb2'
  obtain ⟨rfl, rfl, rfl⟩ := hb2'
  rw [List.getElem?_eq_getElem hi, Option.bind_some, List.getElem?_eq_getElem (by rw [hf]; exact hj), Nat.add_assoc]
  exact hc2
end
end Go.X

/- A list of records with lists in them that lies in a record of an argument, opened. No condition. -/
set_option linter.unusedSimpArgs false
set_option linter.unusedVariables false
namespace Go.X
open Go.ChangeShapes Go.WideShapes Go.Deep
section
variable {H : Type} {enc : TypeId × Value → H} {P : Program} {W : World}
theorem arr_recsQ {α : Type} [Inhabited α] {f : α → List Value} {sz : Nat} {Q : α → Prop} (hf : ∀ x, (f x).length = sz) (hone : ∀ x, Q x → ∀ c ∈ f x, one c = true) (hsz : 0 < sz) {t e : TypeId} {fuel : Nat} {cs : List Value} {x : DataW H × List MemPlace} (ht : P.underlying t = some (.slice e)) (hc : P.cellsOf e = sz)
    (h : DataW.trod enc P W 0 (fun _ => true) true fuel t cs = some x) (hwt : ∀ elems spare, x.1 = .slice elems spare → elems.length + spare.length ≤ 140737488355328) (hw : ∀ n ∈ x.1.weights P t, n ≤ reachBytes)
    (dec : ∀ n cs' y, DataW.trod enc P W 0 (fun _ => true) true n e cs' = some y → (∀ n ∈ y.1.weights P e, n ≤ reachBytes) → ∃ r, cs' = f r ∧ Q r) : ∃ v xs, cs = [v] ∧ Arr v f sz (heapOf W) xs ∧ ∀ i, i < xs.length → Q (xs.getD i default) := by
  rcases open_slice ht h with ⟨rfl, _⟩ | ⟨a, len, cap, m, n, D, Pl, rfl, _, hl, hm, hmm, hx, hr⟩
  · exact ⟨_, [], rfl, Arr.nil hf, fun i hi => by cases hi⟩
  · simp only [if_true] at hmm
    subst hmm
    subst hx
    have hbl : len ≤ 140737488355328 := by
      have := hwt _ _ rfl
      simp at this
      omega
    have hrec : ∀ i, ∃ r : α, i < len → W.cells? 0 (a.add (i * sz)) sz = some (f r) ∧ Q r := fun i => by
      by_cases hi : i < len
      · obtain ⟨cs', h1, h2⟩ := hr i (by omega)
        obtain ⟨r, rfl, q⟩ := dec _ _ _ h2 (fun n hn => hw n (by
          simp only [DataW.weights, ht]
          exact List.mem_cons_of_mem _ (List.mem_append_left _ (weights_all (d := D i) (List.mem_map.2 ⟨i, List.mem_range.2 hi, rfl⟩) n hn))))
        rw [hc] at h1
        exact ⟨r, fun _ => ⟨h1, q⟩⟩
      · exact ⟨default, fun h => absurd h hi⟩
    have hch : ∃ g : Nat → α, ∀ i, i < len → W.cells? 0 (a.add (i * sz)) sz = some (f (g i)) ∧ Q (g i) := ⟨fun i => (hrec i).choose, fun i => (hrec i).choose_spec⟩
    obtain ⟨g, hg⟩ := hch
    refine ⟨_, (List.range len).map g, rfl, arr_cellsQ hf (fun x hx => ?_) hsz (by simp) hl hbl fun i hi j hj => ?_, fun i hi => ?_⟩
    · obtain ⟨i, hi, rfl⟩ := List.mem_map.1 hx
      exact hone _ (hg i (List.mem_range.1 hi)).2
    · have hi2 : i < len := by simpa using hi
      have h3 := (World.cells?_some (hg i hi2).1).2.2 j hj
      simp only [List.getElem_map, List.getElem_range]
      rw [← h3]
      congr 1
      simp only [Addr.add, Nat.add_assoc]
      by_cases hj0 : j = 0
      · subst hj0
        rw [if_pos rfl, Nat.add_zero]
      · rw [if_neg hj0, if_neg (by omega)]
        by_cases hi0 : i * sz = 0
        · rw [if_pos hi0, hi0, Nat.zero_add]
        · rw [if_neg hi0]
          simp only [Nat.add_assoc]
    · have hi2 : i < len := by simpa using hi
      rw [List.getD_eq_getElem?_getD, List.getElem?_map, List.getElem?_range hi2]
      exact (hg i hi2).2
end
end Go.X

/- The type table of this seat as instances; written by program. No condition. -/
namespace Go.X
open Go.Proofs
set_option maxRecDepth 10000
instance : Und Tryz.prog 0 (Go.TypeDesc.tuple #[]) := ⟨Tryz.runUnderlying0⟩
instance : IsAgg Tryz.prog 0 false := ⟨Tryz.isAgg0⟩
instance : TySize Tryz.prog 0 1 := ⟨Tryz.sizeOf0⟩
instance : TyBytes Tryz.prog 0 0 := ⟨_, Tryz.typeInfo0, rfl⟩
instance : Zero Tryz.prog 0 [(Go.Value.tuple #[])] := ⟨_, Tryz.zeroValue0, rfl⟩
instance : Und Tryz.prog 1 (Go.TypeDesc.func #[] #[] Bool.false) := ⟨Tryz.runUnderlying1⟩
instance : IsAgg Tryz.prog 1 false := ⟨Tryz.isAgg1⟩
instance : TySize Tryz.prog 1 1 := ⟨Tryz.sizeOf1⟩
instance : TyBytes Tryz.prog 1 8 := ⟨_, Tryz.typeInfo1, rfl⟩
instance : Zero Tryz.prog 1 [Go.Value.nilFunc] := ⟨_, Tryz.zeroValue1, rfl⟩
instance : Und Tryz.prog 2 (Go.TypeDesc.int Go.IntKind.i64) := ⟨Tryz.runUnderlying2⟩
instance : IsAgg Tryz.prog 2 false := ⟨Tryz.isAgg2⟩
instance : TySize Tryz.prog 2 1 := ⟨Tryz.sizeOf2⟩
instance : TyBytes Tryz.prog 2 8 := ⟨_, Tryz.typeInfo2, rfl⟩
instance : Zero Tryz.prog 2 [(Go.Value.int Go.IntKind.i64 0)] := ⟨_, Tryz.zeroValue2, rfl⟩
instance : Und Tryz.prog 3 (Go.TypeDesc.int Go.IntKind.i64) := ⟨Tryz.runUnderlying3⟩
instance : IsAgg Tryz.prog 3 false := ⟨Tryz.isAgg3⟩
instance : TySize Tryz.prog 3 1 := ⟨Tryz.sizeOf3⟩
instance : TyBytes Tryz.prog 3 8 := ⟨_, Tryz.typeInfo3, rfl⟩
instance : Zero Tryz.prog 3 [(Go.Value.int Go.IntKind.i64 0)] := ⟨_, Tryz.zeroValue3, rfl⟩
instance : Und Tryz.prog 4 Go.TypeDesc.bool := ⟨Tryz.runUnderlying4⟩
instance : IsAgg Tryz.prog 4 false := ⟨Tryz.isAgg4⟩
instance : TySize Tryz.prog 4 1 := ⟨Tryz.sizeOf4⟩
instance : TyBytes Tryz.prog 4 1 := ⟨_, Tryz.typeInfo4, rfl⟩
instance : Zero Tryz.prog 4 [(Go.Value.bool Bool.false)] := ⟨_, Tryz.zeroValue4, rfl⟩
instance : Und Tryz.prog 5 (Go.TypeDesc.int Go.IntKind.u8) := ⟨Tryz.runUnderlying5⟩
instance : IsAgg Tryz.prog 5 false := ⟨Tryz.isAgg5⟩
instance : TySize Tryz.prog 5 1 := ⟨Tryz.sizeOf5⟩
instance : TyBytes Tryz.prog 5 1 := ⟨_, Tryz.typeInfo5, rfl⟩
instance : Zero Tryz.prog 5 [(Go.Value.int Go.IntKind.u8 0)] := ⟨_, Tryz.zeroValue5, rfl⟩
instance : Und Tryz.prog 6 (Go.TypeDesc.int Go.IntKind.u8) := ⟨Tryz.runUnderlying6⟩
instance : IsAgg Tryz.prog 6 false := ⟨Tryz.isAgg6⟩
instance : TySize Tryz.prog 6 1 := ⟨Tryz.sizeOf6⟩
instance : TyBytes Tryz.prog 6 1 := ⟨_, Tryz.typeInfo6, rfl⟩
instance : Zero Tryz.prog 6 [(Go.Value.int Go.IntKind.u8 0)] := ⟨_, Tryz.zeroValue6, rfl⟩
instance : Und Tryz.prog 7 (Go.TypeDesc.struct #[(Go.Field.mk "x" 2 0 Bool.false "" "runtime" 0), (Go.Field.mk "y" 3 1 Bool.false "" "runtime" 8), (Go.Field.mk "signed" 4 2 Bool.false "" "runtime" 16), (Go.Field.mk "code" 6 3 Bool.false "" "runtime" 17)]) := ⟨Tryz.runUnderlying7⟩
instance : IsAgg Tryz.prog 7 true := ⟨Tryz.isAgg7⟩
instance : TySize Tryz.prog 7 4 := ⟨Tryz.sizeOf7⟩
instance : TyBytes Tryz.prog 7 24 := ⟨_, Tryz.typeInfo7, rfl⟩
instance : Zero Tryz.prog 7 [(Go.Value.int Go.IntKind.i64 0), (Go.Value.int Go.IntKind.i64 0), (Go.Value.bool Bool.false), (Go.Value.int Go.IntKind.u8 0)] := ⟨_, Tryz.zeroValue7, rfl⟩
instance : Fld Tryz.prog 7 0 0 := Fld.of (n := 1) ⟨Tryz.runUnderlying7⟩ rfl ⟨Tryz.sizeOf2⟩ (by decide) rfl
instance : Fld Tryz.prog 7 1 1 := Fld.of (n := 1) ⟨Tryz.runUnderlying7⟩ rfl ⟨Tryz.sizeOf3⟩ (by decide) rfl
instance : Fld Tryz.prog 7 2 2 := Fld.of (n := 1) ⟨Tryz.runUnderlying7⟩ rfl ⟨Tryz.sizeOf4⟩ (by decide) rfl
instance : Fld Tryz.prog 7 3 3 := Fld.of (n := 1) ⟨Tryz.runUnderlying7⟩ rfl ⟨Tryz.sizeOf6⟩ (by decide) rfl
instance : Places Tryz.prog 7 (fun i => ([(0, 1), (1, 1), (2, 1), (3, 1)] : List (Nat × Nat))[i]?) := Places.struct ⟨Tryz.runUnderlying7⟩ (.c Tryz.sizeOf2 (.c Tryz.sizeOf3 (.c Tryz.sizeOf4 (.c Tryz.sizeOf6 .n))))
instance : Und Tryz.prog 8 (Go.TypeDesc.struct #[(Go.Field.mk "x" 2 0 Bool.false "" "runtime" 0), (Go.Field.mk "y" 3 1 Bool.false "" "runtime" 8), (Go.Field.mk "signed" 4 2 Bool.false "" "runtime" 16), (Go.Field.mk "code" 6 3 Bool.false "" "runtime" 17)]) := ⟨Tryz.runUnderlying8⟩
instance : IsAgg Tryz.prog 8 true := ⟨Tryz.isAgg8⟩
instance : TySize Tryz.prog 8 4 := ⟨Tryz.sizeOf8⟩
instance : TyBytes Tryz.prog 8 24 := ⟨_, Tryz.typeInfo8, rfl⟩
instance : Zero Tryz.prog 8 [(Go.Value.int Go.IntKind.i64 0), (Go.Value.int Go.IntKind.i64 0), (Go.Value.bool Bool.false), (Go.Value.int Go.IntKind.u8 0)] := ⟨_, Tryz.zeroValue8, rfl⟩
instance : Fld Tryz.prog 8 0 0 := Fld.of (n := 1) ⟨Tryz.runUnderlying8⟩ rfl ⟨Tryz.sizeOf2⟩ (by decide) rfl
instance : Fld Tryz.prog 8 1 1 := Fld.of (n := 1) ⟨Tryz.runUnderlying8⟩ rfl ⟨Tryz.sizeOf3⟩ (by decide) rfl
instance : Fld Tryz.prog 8 2 2 := Fld.of (n := 1) ⟨Tryz.runUnderlying8⟩ rfl ⟨Tryz.sizeOf4⟩ (by decide) rfl
instance : Fld Tryz.prog 8 3 3 := Fld.of (n := 1) ⟨Tryz.runUnderlying8⟩ rfl ⟨Tryz.sizeOf6⟩ (by decide) rfl
instance : Places Tryz.prog 8 (fun i => ([(0, 1), (1, 1), (2, 1), (3, 1)] : List (Nat × Nat))[i]?) := Places.struct ⟨Tryz.runUnderlying8⟩ (.c Tryz.sizeOf2 (.c Tryz.sizeOf3 (.c Tryz.sizeOf4 (.c Tryz.sizeOf6 .n))))
instance : Und Tryz.prog 9 Go.TypeDesc.string := ⟨Tryz.runUnderlying9⟩
instance : IsAgg Tryz.prog 9 false := ⟨Tryz.isAgg9⟩
instance : TySize Tryz.prog 9 1 := ⟨Tryz.sizeOf9⟩
instance : TyBytes Tryz.prog 9 16 := ⟨_, Tryz.typeInfo9, rfl⟩
instance : Zero Tryz.prog 9 [(Go.Value.string (ByteArray.mk #[]))] := ⟨_, Tryz.zeroValue9, rfl⟩
instance : Und Tryz.prog 10 Go.TypeDesc.string := ⟨Tryz.runUnderlying10⟩
instance : IsAgg Tryz.prog 10 false := ⟨Tryz.isAgg10⟩
instance : TySize Tryz.prog 10 1 := ⟨Tryz.sizeOf10⟩
instance : TyBytes Tryz.prog 10 16 := ⟨_, Tryz.typeInfo10, rfl⟩
instance : Zero Tryz.prog 10 [(Go.Value.string (ByteArray.mk #[]))] := ⟨_, Tryz.zeroValue10, rfl⟩
instance : Und Tryz.prog 11 Go.TypeDesc.string := ⟨Tryz.runUnderlying11⟩
instance : IsAgg Tryz.prog 11 false := ⟨Tryz.isAgg11⟩
instance : TySize Tryz.prog 11 1 := ⟨Tryz.sizeOf11⟩
instance : TyBytes Tryz.prog 11 16 := ⟨_, Tryz.typeInfo11, rfl⟩
instance : Zero Tryz.prog 11 [(Go.Value.string (ByteArray.mk #[]))] := ⟨_, Tryz.zeroValue11, rfl⟩
instance : Und Tryz.prog 12 (Go.TypeDesc.int Go.IntKind.u64) := ⟨Tryz.runUnderlying12⟩
instance : IsAgg Tryz.prog 12 false := ⟨Tryz.isAgg12⟩
instance : TySize Tryz.prog 12 1 := ⟨Tryz.sizeOf12⟩
instance : TyBytes Tryz.prog 12 8 := ⟨_, Tryz.typeInfo12, rfl⟩
instance : Zero Tryz.prog 12 [(Go.Value.int Go.IntKind.u64 0)] := ⟨_, Tryz.zeroValue12, rfl⟩
instance : Und Tryz.prog 14 (Go.TypeDesc.struct #[(Go.Field.mk "msg" 9 0 Bool.false "" "runtime" 0), (Go.Field.mk "addr" 12 1 Bool.false "" "runtime" 16)]) := ⟨Tryz.runUnderlying14⟩
instance : IsAgg Tryz.prog 14 true := ⟨Tryz.isAgg14⟩
instance : TySize Tryz.prog 14 2 := ⟨Tryz.sizeOf14⟩
instance : TyBytes Tryz.prog 14 24 := ⟨_, Tryz.typeInfo14, rfl⟩
instance : Zero Tryz.prog 14 [(Go.Value.string (ByteArray.mk #[])), (Go.Value.int Go.IntKind.u64 0)] := ⟨_, Tryz.zeroValue14, rfl⟩
instance : Fld Tryz.prog 14 0 0 := Fld.of (n := 1) ⟨Tryz.runUnderlying14⟩ rfl ⟨Tryz.sizeOf9⟩ (by decide) rfl
instance : Fld Tryz.prog 14 1 1 := Fld.of (n := 1) ⟨Tryz.runUnderlying14⟩ rfl ⟨Tryz.sizeOf12⟩ (by decide) rfl
instance : Places Tryz.prog 14 (fun i => ([(0, 1), (1, 1)] : List (Nat × Nat))[i]?) := Places.struct ⟨Tryz.runUnderlying14⟩ (.c Tryz.sizeOf9 (.c Tryz.sizeOf12 .n))
instance : Und Tryz.prog 22 (Go.TypeDesc.slice 41) := ⟨Tryz.runUnderlying22⟩
instance : IsAgg Tryz.prog 22 false := ⟨Tryz.isAgg22⟩
instance : TySize Tryz.prog 22 1 := ⟨Tryz.sizeOf22⟩
instance : TyBytes Tryz.prog 22 24 := ⟨_, Tryz.typeInfo22, rfl⟩
instance : Zero Tryz.prog 22 [(Go.Value.slice none 0 0)] := ⟨_, Tryz.zeroValue22, rfl⟩
instance : Und Tryz.prog 23 (Go.TypeDesc.slice 43) := ⟨Tryz.runUnderlying23⟩
instance : IsAgg Tryz.prog 23 false := ⟨Tryz.isAgg23⟩
instance : TySize Tryz.prog 23 1 := ⟨Tryz.sizeOf23⟩
instance : TyBytes Tryz.prog 23 24 := ⟨_, Tryz.typeInfo23, rfl⟩
instance : Zero Tryz.prog 23 [(Go.Value.slice none 0 0)] := ⟨_, Tryz.zeroValue23, rfl⟩
instance : Und Tryz.prog 25 (Go.TypeDesc.struct #[(Go.Field.mk "N" 3 0 Bool.false "" "" 0), (Go.Field.mk "D" 3 1 Bool.false "" "" 8)]) := ⟨Tryz.runUnderlying25⟩
instance : IsAgg Tryz.prog 25 true := ⟨Tryz.isAgg25⟩
instance : TySize Tryz.prog 25 2 := ⟨Tryz.sizeOf25⟩
instance : TyBytes Tryz.prog 25 16 := ⟨_, Tryz.typeInfo25, rfl⟩
instance : Zero Tryz.prog 25 [(Go.Value.int Go.IntKind.i64 0), (Go.Value.int Go.IntKind.i64 0)] := ⟨_, Tryz.zeroValue25, rfl⟩
instance : Fld Tryz.prog 25 0 0 := Fld.of (n := 1) ⟨Tryz.runUnderlying25⟩ rfl ⟨Tryz.sizeOf3⟩ (by decide) rfl
instance : Fld Tryz.prog 25 1 1 := Fld.of (n := 1) ⟨Tryz.runUnderlying25⟩ rfl ⟨Tryz.sizeOf3⟩ (by decide) rfl
instance : Places Tryz.prog 25 (fun i => ([(0, 1), (1, 1)] : List (Nat × Nat))[i]?) := Places.struct ⟨Tryz.runUnderlying25⟩ (.c Tryz.sizeOf3 (.c Tryz.sizeOf3 .n))
instance : Und Tryz.prog 27 (Go.TypeDesc.struct #[(Go.Field.mk "Jobs" 22 0 Bool.false "" "" 0), (Go.Field.mk "Racks" 23 1 Bool.false "" "" 24), (Go.Field.mk "Most" 25 2 Bool.false "" "" 48)]) := ⟨Tryz.runUnderlying27⟩
instance : IsAgg Tryz.prog 27 true := ⟨Tryz.isAgg27⟩
instance : TySize Tryz.prog 27 4 := ⟨Tryz.sizeOf27⟩
instance : TyBytes Tryz.prog 27 64 := ⟨_, Tryz.typeInfo27, rfl⟩
instance : Zero Tryz.prog 27 [(Go.Value.slice none 0 0), (Go.Value.slice none 0 0), (Go.Value.int Go.IntKind.i64 0), (Go.Value.int Go.IntKind.i64 0)] := ⟨_, Tryz.zeroValue27, rfl⟩
instance : Fld Tryz.prog 27 0 0 := Fld.of (n := 1) ⟨Tryz.runUnderlying27⟩ rfl ⟨Tryz.sizeOf22⟩ (by decide) rfl
instance : Fld Tryz.prog 27 1 1 := Fld.of (n := 1) ⟨Tryz.runUnderlying27⟩ rfl ⟨Tryz.sizeOf23⟩ (by decide) rfl
instance : Fld Tryz.prog 27 2 2 := Fld.of (n := 2) ⟨Tryz.runUnderlying27⟩ rfl ⟨Tryz.sizeOf25⟩ (by decide) rfl
instance : Places Tryz.prog 27 (fun i => ([(0, 1), (1, 1), (2, 2)] : List (Nat × Nat))[i]?) := Places.struct ⟨Tryz.runUnderlying27⟩ (.c Tryz.sizeOf22 (.c Tryz.sizeOf23 (.c Tryz.sizeOf25 .n)))
instance : Und Tryz.prog 28 (Go.TypeDesc.slice 3) := ⟨Tryz.runUnderlying28⟩
instance : IsAgg Tryz.prog 28 false := ⟨Tryz.isAgg28⟩
instance : TySize Tryz.prog 28 1 := ⟨Tryz.sizeOf28⟩
instance : TyBytes Tryz.prog 28 24 := ⟨_, Tryz.typeInfo28, rfl⟩
instance : Zero Tryz.prog 28 [(Go.Value.slice none 0 0)] := ⟨_, Tryz.zeroValue28, rfl⟩
instance : Und Tryz.prog 29 (Go.TypeDesc.slice 4) := ⟨Tryz.runUnderlying29⟩
instance : IsAgg Tryz.prog 29 false := ⟨Tryz.isAgg29⟩
instance : TySize Tryz.prog 29 1 := ⟨Tryz.sizeOf29⟩
instance : TyBytes Tryz.prog 29 24 := ⟨_, Tryz.typeInfo29, rfl⟩
instance : Zero Tryz.prog 29 [(Go.Value.slice none 0 0)] := ⟨_, Tryz.zeroValue29, rfl⟩
instance : Und Tryz.prog 31 (Go.TypeDesc.struct #[(Go.Field.mk "Where" 28 0 Bool.false "" "" 0), (Go.Field.mk "Worth" 3 1 Bool.false "" "" 24), (Go.Field.mk "Proof" 29 2 Bool.false "" "" 32)]) := ⟨Tryz.runUnderlying31⟩
instance : IsAgg Tryz.prog 31 true := ⟨Tryz.isAgg31⟩
instance : TySize Tryz.prog 31 3 := ⟨Tryz.sizeOf31⟩
instance : TyBytes Tryz.prog 31 56 := ⟨_, Tryz.typeInfo31, rfl⟩
instance : Zero Tryz.prog 31 [(Go.Value.slice none 0 0), (Go.Value.int Go.IntKind.i64 0), (Go.Value.slice none 0 0)] := ⟨_, Tryz.zeroValue31, rfl⟩
instance : Fld Tryz.prog 31 0 0 := Fld.of (n := 1) ⟨Tryz.runUnderlying31⟩ rfl ⟨Tryz.sizeOf28⟩ (by decide) rfl
instance : Fld Tryz.prog 31 1 1 := Fld.of (n := 1) ⟨Tryz.runUnderlying31⟩ rfl ⟨Tryz.sizeOf3⟩ (by decide) rfl
instance : Fld Tryz.prog 31 2 2 := Fld.of (n := 1) ⟨Tryz.runUnderlying31⟩ rfl ⟨Tryz.sizeOf29⟩ (by decide) rfl
instance : Places Tryz.prog 31 (fun i => ([(0, 1), (1, 1), (2, 1)] : List (Nat × Nat))[i]?) := Places.struct ⟨Tryz.runUnderlying31⟩ (.c Tryz.sizeOf28 (.c Tryz.sizeOf3 (.c Tryz.sizeOf29 .n)))
instance : Und Tryz.prog 35 (Go.TypeDesc.slice 25) := ⟨Tryz.runUnderlying35⟩
instance : IsAgg Tryz.prog 35 false := ⟨Tryz.isAgg35⟩
instance : TySize Tryz.prog 35 1 := ⟨Tryz.sizeOf35⟩
instance : TyBytes Tryz.prog 35 24 := ⟨_, Tryz.typeInfo35, rfl⟩
instance : Zero Tryz.prog 35 [(Go.Value.slice none 0 0)] := ⟨_, Tryz.zeroValue35, rfl⟩
instance : Und Tryz.prog 36 (Go.TypeDesc.array 3 3) := ⟨Tryz.runUnderlying36⟩
instance : IsAgg Tryz.prog 36 true := ⟨Tryz.isAgg36⟩
instance : TySize Tryz.prog 36 3 := ⟨Tryz.sizeOf36⟩
instance : TyBytes Tryz.prog 36 24 := ⟨_, Tryz.typeInfo36, rfl⟩
instance : Zero Tryz.prog 36 [(Go.Value.int Go.IntKind.i64 0), (Go.Value.int Go.IntKind.i64 0), (Go.Value.int Go.IntKind.i64 0)] := ⟨_, Tryz.zeroValue36, rfl⟩
instance : Places Tryz.prog 36 (fun i => some (i * 1, 1)) := Places.array ⟨Tryz.runUnderlying36⟩ ⟨Tryz.sizeOf3⟩
instance : Und Tryz.prog 38 (Go.TypeDesc.struct #[(Go.Field.mk "Power" 3 0 Bool.false "" "" 0), (Go.Field.mk "Count" 3 1 Bool.false "" "" 8)]) := ⟨Tryz.runUnderlying38⟩
instance : IsAgg Tryz.prog 38 true := ⟨Tryz.isAgg38⟩
instance : TySize Tryz.prog 38 2 := ⟨Tryz.sizeOf38⟩
instance : TyBytes Tryz.prog 38 16 := ⟨_, Tryz.typeInfo38, rfl⟩
instance : Zero Tryz.prog 38 [(Go.Value.int Go.IntKind.i64 0), (Go.Value.int Go.IntKind.i64 0)] := ⟨_, Tryz.zeroValue38, rfl⟩
instance : Fld Tryz.prog 38 0 0 := Fld.of (n := 1) ⟨Tryz.runUnderlying38⟩ rfl ⟨Tryz.sizeOf3⟩ (by decide) rfl
instance : Fld Tryz.prog 38 1 1 := Fld.of (n := 1) ⟨Tryz.runUnderlying38⟩ rfl ⟨Tryz.sizeOf3⟩ (by decide) rfl
instance : Places Tryz.prog 38 (fun i => ([(0, 1), (1, 1)] : List (Nat × Nat))[i]?) := Places.struct ⟨Tryz.runUnderlying38⟩ (.c Tryz.sizeOf3 (.c Tryz.sizeOf3 .n))
instance : Und Tryz.prog 39 (Go.TypeDesc.slice 38) := ⟨Tryz.runUnderlying39⟩
instance : IsAgg Tryz.prog 39 false := ⟨Tryz.isAgg39⟩
instance : TySize Tryz.prog 39 1 := ⟨Tryz.sizeOf39⟩
instance : TyBytes Tryz.prog 39 24 := ⟨_, Tryz.typeInfo39, rfl⟩
instance : Zero Tryz.prog 39 [(Go.Value.slice none 0 0)] := ⟨_, Tryz.zeroValue39, rfl⟩
instance : Und Tryz.prog 41 (Go.TypeDesc.struct #[(Go.Field.mk "Need" 36 0 Bool.false "" "" 0), (Go.Field.mk "Draws" 39 3 Bool.false "" "" 24), (Go.Field.mk "Group" 3 4 Bool.false "" "" 48), (Go.Field.mk "Worth" 3 5 Bool.false "" "" 56)]) := ⟨Tryz.runUnderlying41⟩
instance : IsAgg Tryz.prog 41 true := ⟨Tryz.isAgg41⟩
instance : TySize Tryz.prog 41 6 := ⟨Tryz.sizeOf41⟩
instance : TyBytes Tryz.prog 41 64 := ⟨_, Tryz.typeInfo41, rfl⟩
instance : Zero Tryz.prog 41 [(Go.Value.int Go.IntKind.i64 0), (Go.Value.int Go.IntKind.i64 0), (Go.Value.int Go.IntKind.i64 0), (Go.Value.slice none 0 0), (Go.Value.int Go.IntKind.i64 0), (Go.Value.int Go.IntKind.i64 0)] := ⟨_, Tryz.zeroValue41, rfl⟩
instance : Fld Tryz.prog 41 0 0 := Fld.of (n := 3) ⟨Tryz.runUnderlying41⟩ rfl ⟨Tryz.sizeOf36⟩ (by decide) rfl
instance : Fld Tryz.prog 41 1 3 := Fld.of (n := 1) ⟨Tryz.runUnderlying41⟩ rfl ⟨Tryz.sizeOf39⟩ (by decide) rfl
instance : Fld Tryz.prog 41 2 4 := Fld.of (n := 1) ⟨Tryz.runUnderlying41⟩ rfl ⟨Tryz.sizeOf3⟩ (by decide) rfl
instance : Fld Tryz.prog 41 3 5 := Fld.of (n := 1) ⟨Tryz.runUnderlying41⟩ rfl ⟨Tryz.sizeOf3⟩ (by decide) rfl
instance : Places Tryz.prog 41 (fun i => ([(0, 3), (3, 1), (4, 1), (5, 1)] : List (Nat × Nat))[i]?) := Places.struct ⟨Tryz.runUnderlying41⟩ (.c Tryz.sizeOf36 (.c Tryz.sizeOf39 (.c Tryz.sizeOf3 (.c Tryz.sizeOf3 .n))))
instance : Und Tryz.prog 43 (Go.TypeDesc.struct #[(Go.Field.mk "Room" 36 0 Bool.false "" "" 0), (Go.Field.mk "Cap" 3 3 Bool.false "" "" 24), (Go.Field.mk "Domain" 3 4 Bool.false "" "" 32)]) := ⟨Tryz.runUnderlying43⟩
instance : IsAgg Tryz.prog 43 true := ⟨Tryz.isAgg43⟩
instance : TySize Tryz.prog 43 5 := ⟨Tryz.sizeOf43⟩
instance : TyBytes Tryz.prog 43 40 := ⟨_, Tryz.typeInfo43, rfl⟩
instance : Zero Tryz.prog 43 [(Go.Value.int Go.IntKind.i64 0), (Go.Value.int Go.IntKind.i64 0), (Go.Value.int Go.IntKind.i64 0), (Go.Value.int Go.IntKind.i64 0), (Go.Value.int Go.IntKind.i64 0)] := ⟨_, Tryz.zeroValue43, rfl⟩
instance : Fld Tryz.prog 43 0 0 := Fld.of (n := 3) ⟨Tryz.runUnderlying43⟩ rfl ⟨Tryz.sizeOf36⟩ (by decide) rfl
instance : Fld Tryz.prog 43 1 3 := Fld.of (n := 1) ⟨Tryz.runUnderlying43⟩ rfl ⟨Tryz.sizeOf3⟩ (by decide) rfl
instance : Fld Tryz.prog 43 2 4 := Fld.of (n := 1) ⟨Tryz.runUnderlying43⟩ rfl ⟨Tryz.sizeOf3⟩ (by decide) rfl
instance : Places Tryz.prog 43 (fun i => ([(0, 3), (3, 1), (4, 1)] : List (Nat × Nat))[i]?) := Places.struct ⟨Tryz.runUnderlying43⟩ (.c Tryz.sizeOf36 (.c Tryz.sizeOf3 (.c Tryz.sizeOf3 .n)))
instance : Und Tryz.prog 44 (Go.TypeDesc.slice 124) := ⟨Tryz.runUnderlying44⟩
instance : IsAgg Tryz.prog 44 false := ⟨Tryz.isAgg44⟩
instance : TySize Tryz.prog 44 1 := ⟨Tryz.sizeOf44⟩
instance : TyBytes Tryz.prog 44 24 := ⟨_, Tryz.typeInfo44, rfl⟩
instance : Zero Tryz.prog 44 [(Go.Value.slice none 0 0)] := ⟨_, Tryz.zeroValue44, rfl⟩
instance : Und Tryz.prog 45 (Go.TypeDesc.slice 98) := ⟨Tryz.runUnderlying45⟩
instance : IsAgg Tryz.prog 45 false := ⟨Tryz.isAgg45⟩
instance : TySize Tryz.prog 45 1 := ⟨Tryz.sizeOf45⟩
instance : TyBytes Tryz.prog 45 24 := ⟨_, Tryz.typeInfo45, rfl⟩
instance : Zero Tryz.prog 45 [(Go.Value.slice none 0 0)] := ⟨_, Tryz.zeroValue45, rfl⟩
instance : Und Tryz.prog 47 (Go.TypeDesc.struct #[(Go.Field.mk "Jobs" 44 0 Bool.false "" "" 0), (Go.Field.mk "Racks" 45 1 Bool.false "" "" 24), (Go.Field.mk "Most" 25 2 Bool.false "" "" 48)]) := ⟨Tryz.runUnderlying47⟩
instance : IsAgg Tryz.prog 47 true := ⟨Tryz.isAgg47⟩
instance : TySize Tryz.prog 47 4 := ⟨Tryz.sizeOf47⟩
instance : TyBytes Tryz.prog 47 64 := ⟨_, Tryz.typeInfo47, rfl⟩
instance : Zero Tryz.prog 47 [(Go.Value.slice none 0 0), (Go.Value.slice none 0 0), (Go.Value.int Go.IntKind.i64 0), (Go.Value.int Go.IntKind.i64 0)] := ⟨_, Tryz.zeroValue47, rfl⟩
instance : Fld Tryz.prog 47 0 0 := Fld.of (n := 1) ⟨Tryz.runUnderlying47⟩ rfl ⟨Tryz.sizeOf44⟩ (by decide) rfl
instance : Fld Tryz.prog 47 1 1 := Fld.of (n := 1) ⟨Tryz.runUnderlying47⟩ rfl ⟨Tryz.sizeOf45⟩ (by decide) rfl
instance : Fld Tryz.prog 47 2 2 := Fld.of (n := 2) ⟨Tryz.runUnderlying47⟩ rfl ⟨Tryz.sizeOf25⟩ (by decide) rfl
instance : Places Tryz.prog 47 (fun i => ([(0, 1), (1, 1), (2, 2)] : List (Nat × Nat))[i]?) := Places.struct ⟨Tryz.runUnderlying47⟩ (.c Tryz.sizeOf44 (.c Tryz.sizeOf45 (.c Tryz.sizeOf25 .n)))
instance : Und Tryz.prog 51 (Go.TypeDesc.pointer 3) := ⟨Tryz.runUnderlying51⟩
instance : IsAgg Tryz.prog 51 false := ⟨Tryz.isAgg51⟩
instance : TySize Tryz.prog 51 1 := ⟨Tryz.sizeOf51⟩
instance : TyBytes Tryz.prog 51 8 := ⟨_, Tryz.typeInfo51, rfl⟩
instance : Zero Tryz.prog 51 [(Go.Value.pointer none)] := ⟨_, Tryz.zeroValue51, rfl⟩
instance : Und Tryz.prog 52 (Go.TypeDesc.slice 51) := ⟨Tryz.runUnderlying52⟩
instance : IsAgg Tryz.prog 52 false := ⟨Tryz.isAgg52⟩
instance : TySize Tryz.prog 52 1 := ⟨Tryz.sizeOf52⟩
instance : TyBytes Tryz.prog 52 24 := ⟨_, Tryz.typeInfo52, rfl⟩
instance : Zero Tryz.prog 52 [(Go.Value.slice none 0 0)] := ⟨_, Tryz.zeroValue52, rfl⟩
instance : Und Tryz.prog 56 (Go.TypeDesc.slice 22) := ⟨Tryz.runUnderlying56⟩
instance : IsAgg Tryz.prog 56 false := ⟨Tryz.isAgg56⟩
instance : TySize Tryz.prog 56 1 := ⟨Tryz.sizeOf56⟩
instance : TyBytes Tryz.prog 56 24 := ⟨_, Tryz.typeInfo56, rfl⟩
instance : Zero Tryz.prog 56 [(Go.Value.slice none 0 0)] := ⟨_, Tryz.zeroValue56, rfl⟩
instance : Und Tryz.prog 63 (Go.TypeDesc.int Go.IntKind.i64) := ⟨Tryz.runUnderlying63⟩
instance : IsAgg Tryz.prog 63 false := ⟨Tryz.isAgg63⟩
instance : TySize Tryz.prog 63 1 := ⟨Tryz.sizeOf63⟩
instance : TyBytes Tryz.prog 63 8 := ⟨_, Tryz.typeInfo63, rfl⟩
instance : Zero Tryz.prog 63 [(Go.Value.int Go.IntKind.i64 0)] := ⟨_, Tryz.zeroValue63, rfl⟩
instance : Und Tryz.prog 69 (Go.TypeDesc.slice 74) := ⟨Tryz.runUnderlying69⟩
instance : IsAgg Tryz.prog 69 false := ⟨Tryz.isAgg69⟩
instance : TySize Tryz.prog 69 1 := ⟨Tryz.sizeOf69⟩
instance : TyBytes Tryz.prog 69 24 := ⟨_, Tryz.typeInfo69, rfl⟩
instance : Zero Tryz.prog 69 [(Go.Value.slice none 0 0)] := ⟨_, Tryz.zeroValue69, rfl⟩
instance : Und Tryz.prog 74 (Go.TypeDesc.array 4 3) := ⟨Tryz.runUnderlying74⟩
instance : IsAgg Tryz.prog 74 true := ⟨Tryz.isAgg74⟩
instance : TySize Tryz.prog 74 4 := ⟨Tryz.sizeOf74⟩
instance : TyBytes Tryz.prog 74 32 := ⟨_, Tryz.typeInfo74, rfl⟩
instance : Zero Tryz.prog 74 [(Go.Value.int Go.IntKind.i64 0), (Go.Value.int Go.IntKind.i64 0), (Go.Value.int Go.IntKind.i64 0), (Go.Value.int Go.IntKind.i64 0)] := ⟨_, Tryz.zeroValue74, rfl⟩
instance : Places Tryz.prog 74 (fun i => some (i * 1, 1)) := Places.array ⟨Tryz.runUnderlying74⟩ ⟨Tryz.sizeOf3⟩
instance : Und Tryz.prog 77 (Go.TypeDesc.struct #[(Go.Field.mk "Where" 28 0 Bool.false "" "" 0), (Go.Field.mk "Worth" 3 1 Bool.false "" "" 24), (Go.Field.mk "Proof" 29 2 Bool.false "" "" 32)]) := ⟨Tryz.runUnderlying77⟩
instance : IsAgg Tryz.prog 77 true := ⟨Tryz.isAgg77⟩
instance : TySize Tryz.prog 77 3 := ⟨Tryz.sizeOf77⟩
instance : TyBytes Tryz.prog 77 56 := ⟨_, Tryz.typeInfo77, rfl⟩
instance : Zero Tryz.prog 77 [(Go.Value.slice none 0 0), (Go.Value.int Go.IntKind.i64 0), (Go.Value.slice none 0 0)] := ⟨_, Tryz.zeroValue77, rfl⟩
instance : Fld Tryz.prog 77 0 0 := Fld.of (n := 1) ⟨Tryz.runUnderlying77⟩ rfl ⟨Tryz.sizeOf28⟩ (by decide) rfl
instance : Fld Tryz.prog 77 1 1 := Fld.of (n := 1) ⟨Tryz.runUnderlying77⟩ rfl ⟨Tryz.sizeOf3⟩ (by decide) rfl
instance : Fld Tryz.prog 77 2 2 := Fld.of (n := 1) ⟨Tryz.runUnderlying77⟩ rfl ⟨Tryz.sizeOf29⟩ (by decide) rfl
instance : Places Tryz.prog 77 (fun i => ([(0, 1), (1, 1), (2, 1)] : List (Nat × Nat))[i]?) := Places.struct ⟨Tryz.runUnderlying77⟩ (.c Tryz.sizeOf28 (.c Tryz.sizeOf3 (.c Tryz.sizeOf29 .n)))
instance : Und Tryz.prog 83 (Go.TypeDesc.slice 31) := ⟨Tryz.runUnderlying83⟩
instance : IsAgg Tryz.prog 83 false := ⟨Tryz.isAgg83⟩
instance : TySize Tryz.prog 83 1 := ⟨Tryz.sizeOf83⟩
instance : TyBytes Tryz.prog 83 24 := ⟨_, Tryz.typeInfo83, rfl⟩
instance : Zero Tryz.prog 83 [(Go.Value.slice none 0 0)] := ⟨_, Tryz.zeroValue83, rfl⟩
instance : Und Tryz.prog 98 (Go.TypeDesc.struct #[(Go.Field.mk "Room" 36 0 Bool.false "" "" 0), (Go.Field.mk "Cap" 3 3 Bool.false "" "" 24), (Go.Field.mk "Domain" 3 4 Bool.false "" "" 32)]) := ⟨Tryz.runUnderlying98⟩
instance : IsAgg Tryz.prog 98 true := ⟨Tryz.isAgg98⟩
instance : TySize Tryz.prog 98 5 := ⟨Tryz.sizeOf98⟩
instance : TyBytes Tryz.prog 98 40 := ⟨_, Tryz.typeInfo98, rfl⟩
instance : Zero Tryz.prog 98 [(Go.Value.int Go.IntKind.i64 0), (Go.Value.int Go.IntKind.i64 0), (Go.Value.int Go.IntKind.i64 0), (Go.Value.int Go.IntKind.i64 0), (Go.Value.int Go.IntKind.i64 0)] := ⟨_, Tryz.zeroValue98, rfl⟩
instance : Fld Tryz.prog 98 0 0 := Fld.of (n := 3) ⟨Tryz.runUnderlying98⟩ rfl ⟨Tryz.sizeOf36⟩ (by decide) rfl
instance : Fld Tryz.prog 98 1 3 := Fld.of (n := 1) ⟨Tryz.runUnderlying98⟩ rfl ⟨Tryz.sizeOf3⟩ (by decide) rfl
instance : Fld Tryz.prog 98 2 4 := Fld.of (n := 1) ⟨Tryz.runUnderlying98⟩ rfl ⟨Tryz.sizeOf3⟩ (by decide) rfl
instance : Places Tryz.prog 98 (fun i => ([(0, 3), (3, 1), (4, 1)] : List (Nat × Nat))[i]?) := Places.struct ⟨Tryz.runUnderlying98⟩ (.c Tryz.sizeOf36 (.c Tryz.sizeOf3 (.c Tryz.sizeOf3 .n)))
instance : Und Tryz.prog 99 (Go.TypeDesc.slice 103) := ⟨Tryz.runUnderlying99⟩
instance : IsAgg Tryz.prog 99 false := ⟨Tryz.isAgg99⟩
instance : TySize Tryz.prog 99 1 := ⟨Tryz.sizeOf99⟩
instance : TyBytes Tryz.prog 99 24 := ⟨_, Tryz.typeInfo99, rfl⟩
instance : Zero Tryz.prog 99 [(Go.Value.slice none 0 0)] := ⟨_, Tryz.zeroValue99, rfl⟩
instance : Und Tryz.prog 103 (Go.TypeDesc.struct #[(Go.Field.mk "Power" 3 0 Bool.false "" "" 0), (Go.Field.mk "Count" 3 1 Bool.false "" "" 8)]) := ⟨Tryz.runUnderlying103⟩
instance : IsAgg Tryz.prog 103 true := ⟨Tryz.isAgg103⟩
instance : TySize Tryz.prog 103 2 := ⟨Tryz.sizeOf103⟩
instance : TyBytes Tryz.prog 103 16 := ⟨_, Tryz.typeInfo103, rfl⟩
instance : Zero Tryz.prog 103 [(Go.Value.int Go.IntKind.i64 0), (Go.Value.int Go.IntKind.i64 0)] := ⟨_, Tryz.zeroValue103, rfl⟩
instance : Fld Tryz.prog 103 0 0 := Fld.of (n := 1) ⟨Tryz.runUnderlying103⟩ rfl ⟨Tryz.sizeOf3⟩ (by decide) rfl
instance : Fld Tryz.prog 103 1 1 := Fld.of (n := 1) ⟨Tryz.runUnderlying103⟩ rfl ⟨Tryz.sizeOf3⟩ (by decide) rfl
instance : Places Tryz.prog 103 (fun i => ([(0, 1), (1, 1)] : List (Nat × Nat))[i]?) := Places.struct ⟨Tryz.runUnderlying103⟩ (.c Tryz.sizeOf3 (.c Tryz.sizeOf3 .n))
instance : Und Tryz.prog 111 (Go.TypeDesc.slice 39) := ⟨Tryz.runUnderlying111⟩
instance : IsAgg Tryz.prog 111 false := ⟨Tryz.isAgg111⟩
instance : TySize Tryz.prog 111 1 := ⟨Tryz.sizeOf111⟩
instance : TyBytes Tryz.prog 111 24 := ⟨_, Tryz.typeInfo111, rfl⟩
instance : Zero Tryz.prog 111 [(Go.Value.slice none 0 0)] := ⟨_, Tryz.zeroValue111, rfl⟩
instance : Und Tryz.prog 113 (Go.TypeDesc.int Go.IntKind.u64) := ⟨Tryz.runUnderlying113⟩
instance : IsAgg Tryz.prog 113 false := ⟨Tryz.isAgg113⟩
instance : TySize Tryz.prog 113 1 := ⟨Tryz.sizeOf113⟩
instance : TyBytes Tryz.prog 113 8 := ⟨_, Tryz.typeInfo113, rfl⟩
instance : Zero Tryz.prog 113 [(Go.Value.int Go.IntKind.u64 0)] := ⟨_, Tryz.zeroValue113, rfl⟩
instance : Und Tryz.prog 124 (Go.TypeDesc.struct #[(Go.Field.mk "Need" 36 0 Bool.false "" "" 0), (Go.Field.mk "Draws" 99 3 Bool.false "" "" 24), (Go.Field.mk "Group" 3 4 Bool.false "" "" 48), (Go.Field.mk "Worth" 3 5 Bool.false "" "" 56)]) := ⟨Tryz.runUnderlying124⟩
instance : IsAgg Tryz.prog 124 true := ⟨Tryz.isAgg124⟩
instance : TySize Tryz.prog 124 6 := ⟨Tryz.sizeOf124⟩
instance : TyBytes Tryz.prog 124 64 := ⟨_, Tryz.typeInfo124, rfl⟩
instance : Zero Tryz.prog 124 [(Go.Value.int Go.IntKind.i64 0), (Go.Value.int Go.IntKind.i64 0), (Go.Value.int Go.IntKind.i64 0), (Go.Value.slice none 0 0), (Go.Value.int Go.IntKind.i64 0), (Go.Value.int Go.IntKind.i64 0)] := ⟨_, Tryz.zeroValue124, rfl⟩
instance : Fld Tryz.prog 124 0 0 := Fld.of (n := 3) ⟨Tryz.runUnderlying124⟩ rfl ⟨Tryz.sizeOf36⟩ (by decide) rfl
instance : Fld Tryz.prog 124 1 3 := Fld.of (n := 1) ⟨Tryz.runUnderlying124⟩ rfl ⟨Tryz.sizeOf99⟩ (by decide) rfl
instance : Fld Tryz.prog 124 2 4 := Fld.of (n := 1) ⟨Tryz.runUnderlying124⟩ rfl ⟨Tryz.sizeOf3⟩ (by decide) rfl
instance : Fld Tryz.prog 124 3 5 := Fld.of (n := 1) ⟨Tryz.runUnderlying124⟩ rfl ⟨Tryz.sizeOf3⟩ (by decide) rfl
instance : Places Tryz.prog 124 (fun i => ([(0, 3), (3, 1), (4, 1), (5, 1)] : List (Nat × Nat))[i]?) := Places.struct ⟨Tryz.runUnderlying124⟩ (.c Tryz.sizeOf36 (.c Tryz.sizeOf99 (.c Tryz.sizeOf3 (.c Tryz.sizeOf3 .n))))
instance : Und Tryz.prog 127 (Go.TypeDesc.func #[28] #[4] Bool.false) := ⟨Tryz.runUnderlying127⟩
instance : IsAgg Tryz.prog 127 false := ⟨Tryz.isAgg127⟩
instance : TySize Tryz.prog 127 1 := ⟨Tryz.sizeOf127⟩
instance : TyBytes Tryz.prog 127 8 := ⟨_, Tryz.typeInfo127, rfl⟩
instance : Zero Tryz.prog 127 [Go.Value.nilFunc] := ⟨_, Tryz.zeroValue127, rfl⟩
instance : Und Tryz.prog 132 (Go.TypeDesc.pointer 135) := ⟨Tryz.runUnderlying132⟩
instance : IsAgg Tryz.prog 132 false := ⟨Tryz.isAgg132⟩
instance : TySize Tryz.prog 132 1 := ⟨Tryz.sizeOf132⟩
instance : TyBytes Tryz.prog 132 8 := ⟨_, Tryz.typeInfo132, rfl⟩
instance : Zero Tryz.prog 132 [(Go.Value.pointer none)] := ⟨_, Tryz.zeroValue132, rfl⟩
instance : Und Tryz.prog 133 (Go.TypeDesc.map 176 4) := ⟨Tryz.runUnderlying133⟩
instance : IsAgg Tryz.prog 133 false := ⟨Tryz.isAgg133⟩
instance : TySize Tryz.prog 133 1 := ⟨Tryz.sizeOf133⟩
instance : TyBytes Tryz.prog 133 8 := ⟨_, Tryz.typeInfo133, rfl⟩
instance : Zero Tryz.prog 133 [(Go.Value.map none)] := ⟨_, Tryz.zeroValue133, rfl⟩
instance : Und Tryz.prog 135 (Go.TypeDesc.struct #[(Go.Field.mk "Task" 27 0 Bool.true "" "" 0), (Go.Field.mk "known" 133 4 Bool.false "" "switchgear/place" 64)]) := ⟨Tryz.runUnderlying135⟩
instance : IsAgg Tryz.prog 135 true := ⟨Tryz.isAgg135⟩
instance : TySize Tryz.prog 135 5 := ⟨Tryz.sizeOf135⟩
instance : TyBytes Tryz.prog 135 72 := ⟨_, Tryz.typeInfo135, rfl⟩
instance : Zero Tryz.prog 135 [(Go.Value.slice none 0 0), (Go.Value.slice none 0 0), (Go.Value.int Go.IntKind.i64 0), (Go.Value.int Go.IntKind.i64 0), (Go.Value.map none)] := ⟨_, Tryz.zeroValue135, rfl⟩
instance : Fld Tryz.prog 135 0 0 := Fld.of (n := 4) ⟨Tryz.runUnderlying135⟩ rfl ⟨Tryz.sizeOf27⟩ (by decide) rfl
instance : Fld Tryz.prog 135 1 4 := Fld.of (n := 1) ⟨Tryz.runUnderlying135⟩ rfl ⟨Tryz.sizeOf133⟩ (by decide) rfl
instance : Places Tryz.prog 135 (fun i => ([(0, 4), (4, 1)] : List (Nat × Nat))[i]?) := Places.struct ⟨Tryz.runUnderlying135⟩ (.c Tryz.sizeOf27 (.c Tryz.sizeOf133 .n))
instance : Und Tryz.prog 136 (Go.TypeDesc.func #[28] #[] Bool.false) := ⟨Tryz.runUnderlying136⟩
instance : IsAgg Tryz.prog 136 false := ⟨Tryz.isAgg136⟩
instance : TySize Tryz.prog 136 1 := ⟨Tryz.sizeOf136⟩
instance : TyBytes Tryz.prog 136 8 := ⟨_, Tryz.typeInfo136, rfl⟩
instance : Zero Tryz.prog 136 [Go.Value.nilFunc] := ⟨_, Tryz.zeroValue136, rfl⟩
instance : Und Tryz.prog 141 (Go.TypeDesc.slice 28) := ⟨Tryz.runUnderlying141⟩
instance : IsAgg Tryz.prog 141 false := ⟨Tryz.isAgg141⟩
instance : TySize Tryz.prog 141 1 := ⟨Tryz.sizeOf141⟩
instance : TyBytes Tryz.prog 141 24 := ⟨_, Tryz.typeInfo141, rfl⟩
instance : Zero Tryz.prog 141 [(Go.Value.slice none 0 0)] := ⟨_, Tryz.zeroValue141, rfl⟩
instance : Und Tryz.prog 150 (Go.TypeDesc.map 3 3) := ⟨Tryz.runUnderlying150⟩
instance : IsAgg Tryz.prog 150 false := ⟨Tryz.isAgg150⟩
instance : TySize Tryz.prog 150 1 := ⟨Tryz.sizeOf150⟩
instance : TyBytes Tryz.prog 150 8 := ⟨_, Tryz.typeInfo150, rfl⟩
instance : Zero Tryz.prog 150 [(Go.Value.map none)] := ⟨_, Tryz.zeroValue150, rfl⟩
instance : Und Tryz.prog 165 (Go.TypeDesc.int Go.IntKind.u32) := ⟨Tryz.runUnderlying165⟩
instance : IsAgg Tryz.prog 165 false := ⟨Tryz.isAgg165⟩
instance : TySize Tryz.prog 165 1 := ⟨Tryz.sizeOf165⟩
instance : TyBytes Tryz.prog 165 4 := ⟨_, Tryz.typeInfo165, rfl⟩
instance : Zero Tryz.prog 165 [(Go.Value.int Go.IntKind.u32 0)] := ⟨_, Tryz.zeroValue165, rfl⟩
instance : Und Tryz.prog 168 (Go.TypeDesc.int Go.IntKind.u64) := ⟨Tryz.runUnderlying168⟩
instance : IsAgg Tryz.prog 168 false := ⟨Tryz.isAgg168⟩
instance : TySize Tryz.prog 168 1 := ⟨Tryz.sizeOf168⟩
instance : TyBytes Tryz.prog 168 8 := ⟨_, Tryz.typeInfo168, rfl⟩
instance : Zero Tryz.prog 168 [(Go.Value.int Go.IntKind.u64 0)] := ⟨_, Tryz.zeroValue168, rfl⟩
instance : Und Tryz.prog 176 (Go.TypeDesc.array 2 3) := ⟨Tryz.runUnderlying176⟩
instance : IsAgg Tryz.prog 176 true := ⟨Tryz.isAgg176⟩
instance : TySize Tryz.prog 176 2 := ⟨Tryz.sizeOf176⟩
instance : TyBytes Tryz.prog 176 16 := ⟨_, Tryz.typeInfo176, rfl⟩
instance : Zero Tryz.prog 176 [(Go.Value.int Go.IntKind.i64 0), (Go.Value.int Go.IntKind.i64 0)] := ⟨_, Tryz.zeroValue176, rfl⟩
instance : Places Tryz.prog 176 (fun i => some (i * 1, 1)) := Places.array ⟨Tryz.runUnderlying176⟩ ⟨Tryz.sizeOf3⟩
instance : Und Tryz.prog 183 (Go.TypeDesc.int Go.IntKind.i64) := ⟨Tryz.runUnderlying183⟩
instance : IsAgg Tryz.prog 183 false := ⟨Tryz.isAgg183⟩
instance : TySize Tryz.prog 183 1 := ⟨Tryz.sizeOf183⟩
instance : TyBytes Tryz.prog 183 8 := ⟨_, Tryz.typeInfo183, rfl⟩
instance : Zero Tryz.prog 183 [(Go.Value.int Go.IntKind.i64 0)] := ⟨_, Tryz.zeroValue183, rfl⟩
instance : Und Tryz.prog 193 (Go.TypeDesc.int Go.IntKind.u64) := ⟨Tryz.runUnderlying193⟩
instance : IsAgg Tryz.prog 193 false := ⟨Tryz.isAgg193⟩
instance : TySize Tryz.prog 193 1 := ⟨Tryz.sizeOf193⟩
instance : TyBytes Tryz.prog 193 8 := ⟨_, Tryz.typeInfo193, rfl⟩
instance : Zero Tryz.prog 193 [(Go.Value.int Go.IntKind.u64 0)] := ⟨_, Tryz.zeroValue193, rfl⟩
theorem _root_.Go.Proofs.Tryz.mixed : Tryz.prog.follows .mixedOrders = true := by kernel_rfl
end Go.X

set_option linter.unusedSimpArgs false
set_option linter.unusedVariables false
set_option maxRecDepth 20000
namespace Go.X
open Go.Proofs
def encDraw (x : PDraw) : List Value := [.int .i64 x.power, .int .i64 x.count]
def encPJ (x : Value × PJob) : List Value := [.int .i64 x.2.n0, .int .i64 x.2.n1, .int .i64 x.2.n2, x.1, .int .i64 x.2.group, .int .i64 x.2.worth]
def encRack (x : PRack) : List Value := [.int .i64 x.r0, .int .i64 x.r1, .int .i64 x.r2, .int .i64 x.cap, .int .i64 x.domain]
/-- The draws of jobs lie in one heap. -/
def JobsK (ms : List (Value × PJob)) (K : PHeap) : Prop := ∀ i, i < ms.length → Arr (ms.getD i default).1 encDraw 2 K (ms.getD i default).2.draws
theorem map_snd_atP (l : List (Value × PJob)) (i : Nat) : (l.map Prod.snd).getD i default = (l.getD i default).2 := by
  rw [List.getD_eq_getElem?_getD, List.getD_eq_getElem?_getD, List.getElem?_map]
  cases l[i]? <;> rfl
theorem indexFuncI (v : Value) (h : PHeap) (xs : List Int) [s : Arr v encI 1 h xs] (gid : FuncId) (cap : List Value) (Hr : List PHeap) (p : Int → Bool)
    (hc : ∀ args w, (callFunc gid args).run Tryz.prog w = .ok (.enter gid args) w) (hS : ∀ x ∈ xs, Spec Tryz.prog gid (.int .i64 x :: cap).toArray [] Hr (fun v hs => v = .bool (p x) ∧ hs = [])) :
    Spec Tryz.prog 114 #[v, .func (.func gid) #[] cap.toArray] [] (h :: Hr) (fun v hs => v = .int .i64 (findFirst p xs) ∧ hs = []) := by
  refine Spec.intro (fn := Tryz.f114) (N := 19) Tryz.func114 rfl Tryz.ntmps114 rfl fun B => ?_
  refine XK.seq ?_
  refine XK.region rfl ?_
  refine XO.q (Q.assign rfl) ?_
  refine XO.done ?_
  refine XK.seq ?_
  refine XK.seq ?_
  refine XK.region rfl ?_
  refine XO.q (Q.move rfl) ?_
  refine XO.len rfl fun l7 => ?_
  refine XO.q (Q.move rfl) ?_
  refine XO.done ?_
  refine XK.block ?_
  refine XK.while (X := Nat) [4, 5, 8, 9, 10, 11, 12, 13, 14, 15, 16, 17, 18] (fun i => [(8, some (.int .i64 (i : Nat)))]) (fun i => []) (fun i => i ≤ xs.length ∧ (xs.take i).any p = false) (fun i => xs.length - i) (0) [] rfl ⟨by omega, rfl⟩ (.c rfl (.base 0 rfl rfl)) ?_
  rintro i ⟨hi, ht⟩ ih0
  dsimp only [List.cons_append, List.nil_append] at ih0 ⊢
  refine XK.seq ?_
  refine XK.region rfl ?_
  refine XO.q (Q.lss rfl rfl) ?_
  refine XO.done ?_
  refine XK.seq ?_
  refine XK.if rfl (fun c0 => ?_) (fun c0 => ?_)
  · have _t0 := True.intro
    refine XK.skip ?_
    refine XK.seq ?_
    refine XK.block ?_
    refine XK.seq ?_
    refine XK.region rfl ?_
    refine XO.q (Q.move rfl) ?_
    refine XO.q (Q.assign rfl) ?_
    refine XO.done ?_
    refine XK.seq ?_
    refine XK.region rfl ?_
    refine XO.q (Q.move rfl) ?_
    refine XO.q (Q.move rfl) ?_
    refine XO.q (Q.move rfl) ?_
    refine XO.ix rfl rfl (by omega) (by omega) fun i14 => ?_
    refine XO.q (Q.ldE rfl (by first | assumption | omega) rfl) ?_
    refine XO.call hc rfl rfl rfl (hS _ (getD_mem (by omega))) fun v16 s16 R16 => ?_
    obtain ⟨rfl, rfl⟩ := R16
    dsimp only [List.cons_append, List.nil_append]
    refine XO.done ?_
    refine XK.if rfl (fun c1 => ?_) (fun c1 => ?_)
    · have _t1 := True.intro
      refine XK.seq ?_
      refine XK.region rfl ?_
      refine XO.q (Q.move rfl) ?_
      refine XO.q (Q.assign rfl) ?_
      refine XO.done ?_
      refine XK.rt [] Tryz.func114 Tryz.results114 (.t rfl .n) ?_
      exact ⟨by rw [findFirst_here ht (by omega) c1], rfl⟩
    · have _t1 := True.intro
      refine XK.skip ?_
      refine XK.inBlock ?_
      refine XK.region rfl ?_
      refine XO.q (Q.add rfl rfl ⟨by omega, by omega⟩) ?_
      refine XO.q (Q.move rfl) ?_
      refine XO.done ?_
      exact ih0 (i + 1) _ _ ⟨by omega, any_step ht (by omega) (Bool.eq_false_iff.2 c1)⟩ (by first | omega | (dsimp only; omega)) (.c rfl (.base 25 rfl rfl)) inferInstance
  · have _t0 := True.intro
    refine XK.exit rfl ?_
    refine XK.seq ?_
    refine XK.region rfl ?_
    refine XO.q (Q.assign rfl) ?_
    refine XO.done ?_
    refine XK.rt [] Tryz.func114 Tryz.results114 (.t rfl .n) ?_
    exact ⟨by rw [findFirst_none ht c0], rfl⟩
theorem containsFuncI (v : Value) (h : PHeap) (xs : List Int) [s : Arr v encI 1 h xs] (gid : FuncId) (cap : List Value) (Hr : List PHeap) (p : Int → Bool)
    (hc : ∀ args w, (callFunc gid args).run Tryz.prog w = .ok (.enter gid args) w) (hS : ∀ x ∈ xs, Spec Tryz.prog gid (.int .i64 x :: cap).toArray [] Hr (fun v hs => v = .bool (p x) ∧ hs = [])) :
    Spec Tryz.prog 103 #[v, .func (.func gid) #[] cap.toArray] [] (h :: Hr) (fun v hs => v = .bool (xs.any p) ∧ hs = []) := by
  refine Spec.intro (fn := Tryz.f103) (N := 9) Tryz.func103 rfl Tryz.ntmps103 rfl fun B => ?_
  refine XK.seq ?_
  refine XK.region rfl ?_
  refine XO.q (Q.assign rfl) ?_
  refine XO.done ?_
  refine XK.seq ?_
  refine XK.region rfl ?_
  refine XO.q (Q.move rfl) ?_
  refine XO.q (Q.move rfl) ?_
  refine XO.call Tryz.call114 rfl rfl rfl (indexFuncI v h xs gid cap Hr p hc hS) fun v7 s7 R7 => ?_
  obtain ⟨rfl, rfl⟩ := R7
  dsimp only [List.cons_append, List.nil_append]
  refine XO.q (Q.geq rfl rfl) ?_
  refine XO.q (Q.assign rfl) ?_
  refine XO.done ?_
  refine XK.rt [] Tryz.func103 Tryz.results103 (.t rfl .n) ?_
  exact ⟨by rw [← findFirst_any], rfl⟩
theorem indexFuncPJ (v : Value) (h : PHeap) (xs : List (Value × PJob)) [s : Arr v encPJ 6 h xs] (gid : FuncId) (cap : List Value) (Hr : List PHeap) (p : (Value × PJob) → Bool)
    (hc : ∀ args w, (callFunc gid args).run Tryz.prog w = .ok (.enter gid args) w) (hS : ∀ x ∈ xs, Spec Tryz.prog gid (.agg #[.int .i64 x.2.n0, .int .i64 x.2.n1, .int .i64 x.2.n2, x.1, .int .i64 x.2.group, .int .i64 x.2.worth] :: cap).toArray [] Hr (fun v hs => v = .bool (p x) ∧ hs = [])) :
    Spec Tryz.prog 53 #[v, .func (.func gid) #[] cap.toArray] [] (h :: Hr) (fun v hs => v = .int .i64 (findFirst p xs) ∧ hs = []) := by
  refine Spec.intro (fn := Tryz.f53) (N := 19) Tryz.func53 rfl Tryz.ntmps53 rfl fun B => ?_
  refine XK.seq ?_
  refine XK.region rfl ?_
  refine XO.q (Q.assign rfl) ?_
  refine XO.done ?_
  refine XK.seq ?_
  refine XK.seq ?_
  refine XK.region rfl ?_
  refine XO.q (Q.move rfl) ?_
  refine XO.len rfl fun l7 => ?_
  refine XO.q (Q.move rfl) ?_
  refine XO.done ?_
  refine XK.block ?_
  refine XK.while (X := Nat) [4, 5, 8, 9, 10, 11, 12, 13, 14, 15, 16, 17, 18] (fun i => [(8, some (.int .i64 (i : Nat)))]) (fun i => []) (fun i => i ≤ xs.length ∧ (xs.take i).any p = false) (fun i => xs.length - i) (0) [] rfl ⟨by omega, rfl⟩ (.c rfl (.base 0 rfl rfl)) ?_
  rintro i ⟨hi, ht⟩ ih0
  dsimp only [List.cons_append, List.nil_append] at ih0 ⊢
  refine XK.seq ?_
  refine XK.region rfl ?_
  refine XO.q (Q.lss rfl rfl) ?_
  refine XO.done ?_
  refine XK.seq ?_
  refine XK.if rfl (fun c0 => ?_) (fun c0 => ?_)
  · have _t0 := True.intro
    refine XK.skip ?_
    refine XK.seq ?_
    refine XK.block ?_
    refine XK.seq ?_
    refine XK.region rfl ?_
    refine XO.q (Q.move rfl) ?_
    refine XO.q (Q.assign rfl) ?_
    refine XO.done ?_
    refine XK.seq ?_
    refine XK.region rfl ?_
    refine XO.q (Q.move rfl) ?_
    refine XO.q (Q.move rfl) ?_
    refine XO.q (Q.move rfl) ?_
    refine XO.ix rfl rfl (by omega) (by omega) fun i14 => ?_
    refine XO.q (Q.ldEA [_, _, _, _, _, _] rfl (by first | assumption | omega) rfl rfl) ?_
    refine XO.call hc rfl rfl rfl (hS _ (getD_mem (by omega))) fun v16 s16 R16 => ?_
    obtain ⟨rfl, rfl⟩ := R16
    dsimp only [List.cons_append, List.nil_append]
    refine XO.done ?_
    refine XK.if rfl (fun c1 => ?_) (fun c1 => ?_)
    · have _t1 := True.intro
      refine XK.seq ?_
      refine XK.region rfl ?_
      refine XO.q (Q.move rfl) ?_
      refine XO.q (Q.assign rfl) ?_
      refine XO.done ?_
      refine XK.rt [] Tryz.func53 Tryz.results53 (.t rfl .n) ?_
      exact ⟨by rw [findFirst_here ht (by omega) c1], rfl⟩
    · have _t1 := True.intro
      refine XK.skip ?_
      refine XK.inBlock ?_
      refine XK.region rfl ?_
      refine XO.q (Q.add rfl rfl ⟨by omega, by omega⟩) ?_
      refine XO.q (Q.move rfl) ?_
      refine XO.done ?_
      exact ih0 (i + 1) _ _ ⟨by omega, any_step ht (by omega) (Bool.eq_false_iff.2 c1)⟩ (by first | omega | (dsimp only; omega)) (.c rfl (.base 25 rfl rfl)) inferInstance
  · have _t0 := True.intro
    refine XK.exit rfl ?_
    refine XK.seq ?_
    refine XK.region rfl ?_
    refine XO.q (Q.assign rfl) ?_
    refine XO.done ?_
    refine XK.rt [] Tryz.func53 Tryz.results53 (.t rfl .n) ?_
    exact ⟨by rw [findFirst_none ht c0], rfl⟩
theorem containsFuncPJ (v : Value) (h : PHeap) (xs : List (Value × PJob)) [s : Arr v encPJ 6 h xs] (gid : FuncId) (cap : List Value) (Hr : List PHeap) (p : (Value × PJob) → Bool)
    (hc : ∀ args w, (callFunc gid args).run Tryz.prog w = .ok (.enter gid args) w) (hS : ∀ x ∈ xs, Spec Tryz.prog gid (.agg #[.int .i64 x.2.n0, .int .i64 x.2.n1, .int .i64 x.2.n2, x.1, .int .i64 x.2.group, .int .i64 x.2.worth] :: cap).toArray [] Hr (fun v hs => v = .bool (p x) ∧ hs = [])) :
    Spec Tryz.prog 15 #[v, .func (.func gid) #[] cap.toArray] [] (h :: Hr) (fun v hs => v = .bool (xs.any p) ∧ hs = []) := by
  refine Spec.intro (fn := Tryz.f15) (N := 9) Tryz.func15 rfl Tryz.ntmps15 rfl fun B => ?_
  refine XK.seq ?_
  refine XK.region rfl ?_
  refine XO.q (Q.assign rfl) ?_
  refine XO.done ?_
  refine XK.seq ?_
  refine XK.region rfl ?_
  refine XO.q (Q.move rfl) ?_
  refine XO.q (Q.move rfl) ?_
  refine XO.call Tryz.call53 rfl rfl rfl (indexFuncPJ v h xs gid cap Hr p hc hS) fun v7 s7 R7 => ?_
  obtain ⟨rfl, rfl⟩ := R7
  dsimp only [List.cons_append, List.nil_append]
  refine XO.q (Q.geq rfl rfl) ?_
  refine XO.q (Q.assign rfl) ?_
  refine XO.done ?_
  refine XK.rt [] Tryz.func15 Tryz.results15 (.t rfl .n) ?_
  exact ⟨by rw [← findFirst_any], rfl⟩
theorem indexFuncPR (v : Value) (h : PHeap) (xs : List PRack) [s : Arr v encRack 5 h xs] (gid : FuncId) (cap : List Value) (Hr : List PHeap) (p : PRack → Bool)
    (hc : ∀ args w, (callFunc gid args).run Tryz.prog w = .ok (.enter gid args) w) (hS : ∀ x ∈ xs, Spec Tryz.prog gid (.agg #[.int .i64 x.r0, .int .i64 x.r1, .int .i64 x.r2, .int .i64 x.cap, .int .i64 x.domain] :: cap).toArray [] Hr (fun v hs => v = .bool (p x) ∧ hs = [])) :
    Spec Tryz.prog 101 #[v, .func (.func gid) #[] cap.toArray] [] (h :: Hr) (fun v hs => v = .int .i64 (findFirst p xs) ∧ hs = []) := by
  refine Spec.intro (fn := Tryz.f101) (N := 19) Tryz.func101 rfl Tryz.ntmps101 rfl fun B => ?_
  refine XK.seq ?_
  refine XK.region rfl ?_
  refine XO.q (Q.assign rfl) ?_
  refine XO.done ?_
  refine XK.seq ?_
  refine XK.seq ?_
  refine XK.region rfl ?_
  refine XO.q (Q.move rfl) ?_
  refine XO.len rfl fun l7 => ?_
  refine XO.q (Q.move rfl) ?_
  refine XO.done ?_
  refine XK.block ?_
  refine XK.while (X := Nat) [4, 5, 8, 9, 10, 11, 12, 13, 14, 15, 16, 17, 18] (fun i => [(8, some (.int .i64 (i : Nat)))]) (fun i => []) (fun i => i ≤ xs.length ∧ (xs.take i).any p = false) (fun i => xs.length - i) (0) [] rfl ⟨by omega, rfl⟩ (.c rfl (.base 0 rfl rfl)) ?_
  rintro i ⟨hi, ht⟩ ih0
  dsimp only [List.cons_append, List.nil_append] at ih0 ⊢
  refine XK.seq ?_
  refine XK.region rfl ?_
  refine XO.q (Q.lss rfl rfl) ?_
  refine XO.done ?_
  refine XK.seq ?_
  refine XK.if rfl (fun c0 => ?_) (fun c0 => ?_)
  · have _t0 := True.intro
    refine XK.skip ?_
    refine XK.seq ?_
    refine XK.block ?_
    refine XK.seq ?_
    refine XK.region rfl ?_
    refine XO.q (Q.move rfl) ?_
    refine XO.q (Q.assign rfl) ?_
    refine XO.done ?_
    refine XK.seq ?_
    refine XK.region rfl ?_
    refine XO.q (Q.move rfl) ?_
    refine XO.q (Q.move rfl) ?_
    refine XO.q (Q.move rfl) ?_
    refine XO.ix rfl rfl (by omega) (by omega) fun i14 => ?_
    refine XO.q (Q.ldEA [_, _, _, _, _] rfl (by first | assumption | omega) rfl rfl) ?_
    refine XO.call hc rfl rfl rfl (hS _ (getD_mem (by omega))) fun v16 s16 R16 => ?_
    obtain ⟨rfl, rfl⟩ := R16
    dsimp only [List.cons_append, List.nil_append]
    refine XO.done ?_
    refine XK.if rfl (fun c1 => ?_) (fun c1 => ?_)
    · have _t1 := True.intro
      refine XK.seq ?_
      refine XK.region rfl ?_
      refine XO.q (Q.move rfl) ?_
      refine XO.q (Q.assign rfl) ?_
      refine XO.done ?_
      refine XK.rt [] Tryz.func101 Tryz.results101 (.t rfl .n) ?_
      exact ⟨by rw [findFirst_here ht (by omega) c1], rfl⟩
    · have _t1 := True.intro
      refine XK.skip ?_
      refine XK.inBlock ?_
      refine XK.region rfl ?_
      refine XO.q (Q.add rfl rfl ⟨by omega, by omega⟩) ?_
      refine XO.q (Q.move rfl) ?_
      refine XO.done ?_
      exact ih0 (i + 1) _ _ ⟨by omega, any_step ht (by omega) (Bool.eq_false_iff.2 c1)⟩ (by first | omega | (dsimp only; omega)) (.c rfl (.base 25 rfl rfl)) inferInstance
  · have _t0 := True.intro
    refine XK.exit rfl ?_
    refine XK.seq ?_
    refine XK.region rfl ?_
    refine XO.q (Q.assign rfl) ?_
    refine XO.done ?_
    refine XK.rt [] Tryz.func101 Tryz.results101 (.t rfl .n) ?_
    exact ⟨by rw [findFirst_none ht c0], rfl⟩
theorem containsFuncPR (v : Value) (h : PHeap) (xs : List PRack) [s : Arr v encRack 5 h xs] (gid : FuncId) (cap : List Value) (Hr : List PHeap) (p : PRack → Bool)
    (hc : ∀ args w, (callFunc gid args).run Tryz.prog w = .ok (.enter gid args) w) (hS : ∀ x ∈ xs, Spec Tryz.prog gid (.agg #[.int .i64 x.r0, .int .i64 x.r1, .int .i64 x.r2, .int .i64 x.cap, .int .i64 x.domain] :: cap).toArray [] Hr (fun v hs => v = .bool (p x) ∧ hs = [])) :
    Spec Tryz.prog 57 #[v, .func (.func gid) #[] cap.toArray] [] (h :: Hr) (fun v hs => v = .bool (xs.any p) ∧ hs = []) := by
  refine Spec.intro (fn := Tryz.f57) (N := 9) Tryz.func57 rfl Tryz.ntmps57 rfl fun B => ?_
  refine XK.seq ?_
  refine XK.region rfl ?_
  refine XO.q (Q.assign rfl) ?_
  refine XO.done ?_
  refine XK.seq ?_
  refine XK.region rfl ?_
  refine XO.q (Q.move rfl) ?_
  refine XO.q (Q.move rfl) ?_
  refine XO.call Tryz.call101 rfl rfl rfl (indexFuncPR v h xs gid cap Hr p hc hS) fun v7 s7 R7 => ?_
  obtain ⟨rfl, rfl⟩ := R7
  dsimp only [List.cons_append, List.nil_append]
  refine XO.q (Q.geq rfl rfl) ?_
  refine XO.q (Q.assign rfl) ?_
  refine XO.done ?_
  refine XK.rt [] Tryz.func57 Tryz.results57 (.t rfl .n) ?_
  exact ⟨by rw [← findFirst_any], rfl⟩
theorem pin1 (b : Nat) (m x : Int) : Spec Tryz.prog 113 #[.int .i64 x, ptr b 0] [] [blk b [.int .i64 m] 3] (fun v hs => v = .bool (pout m x) ∧ hs = []) := by
  refine Spec.intro (fn := Tryz.f113) (N := 11) Tryz.func113 rfl Tryz.ntmps113 rfl fun B => ?_
  refine XK.seq ?_
  refine XK.region rfl ?_
  refine XO.q (Q.assign rfl) ?_
  refine XO.done ?_
  refine XK.seq ?_
  refine XK.region rfl ?_
  refine XO.q (Q.move rfl) ?_
  refine XO.q (Q.lss rfl rfl) ?_
  refine XO.q (Q.move rfl) ?_
  refine XO.q (Quiet.guardF rfl rfl fun g7 p7 => Q.move rfl) ?_
  refine XO.q (Quiet.guardF rfl rfl fun g8 p8 => Q.ld rfl rfl) ?_
  refine XO.q (Quiet.guardF rfl rfl fun g9 p9 => Q.gtr (lzv g9 rfl) (lzv g9 rfl)) ?_
  refine XO.q (Q.or rfl (fun hp => lzv hp rfl)) ?_
  refine XO.q (Q.assign rfl) ?_
  refine XO.done ?_
  refine XK.rt [] Tryz.func113 Tryz.results113 (.t rfl .n) ?_
  exact ⟨rfl, rfl⟩
theorem pin_spec (m : Int) (v : Value) (h : PHeap) (xs : List Int) [s : Arr v encI 1 h xs] : Spec Tryz.prog 100 #[.int .i64 m, v] [] [h] (fun v hs => v = .bool (pin m xs) ∧ hs = []) := by
  refine Spec.intro (fn := Tryz.f100) (N := 9) Tryz.func100 rfl Tryz.ntmps100 rfl fun B => ?_
  refine XK.seq ?_
  refine XK.region rfl ?_
  refine XO.box rfl fun b2 => ?_
  refine XO.q (Q.assign rfl) ?_
  refine XO.done ?_
  refine XK.seq ?_
  refine XK.region rfl ?_
  refine XO.q (Q.move rfl) ?_
  refine XO.q (Q.func (fun _ he => rfl) (fun _ he => evs_rel he rfl)) ?_
  refine XO.call Tryz.call103 rfl rfl rfl (containsFuncI v h xs 113 [ptr b2 0] [blk b2 [.int .i64 m] 3] (pout m) Tryz.call113 (fun x hx => pin1 b2 m x)) fun v7 s7 R7 => ?_
  obtain ⟨rfl, rfl⟩ := R7
  dsimp only [List.cons_append, List.nil_append]
  refine XO.q (Q.not rfl) ?_
  refine XO.q (Q.assign rfl) ?_
  refine XO.done ?_
  refine XK.rt [] Tryz.func100 Tryz.results100 (.t rfl .n) ?_
  exact ⟨rfl, rfl⟩
theorem divisor_spec (a b : Nat) (ha : (a : Int) ≤ 9223372036854775807) (hb : (b : Int) ≤ 9223372036854775807) : Spec Tryz.prog 102 #[.int .i64 (a : Nat), .int .i64 (b : Nat)] [] [] (fun v hs => v = .int .i64 (Nat.gcd a b : Nat) ∧ hs = []) := by
  refine Spec.intro (fn := Tryz.f102) (N := 12) Tryz.func102 rfl Tryz.ntmps102 rfl fun B => ?_
  refine XK.seq ?_
  refine XK.region rfl ?_
  refine XO.q (Q.assign rfl) ?_
  refine XO.done ?_
  refine XK.seq ?_
  refine XK.block ?_
  refine XK.while (X := Nat × Nat) [0, 1, 5, 6, 7, 8, 9, 10] (fun ⟨x, y⟩ => [(0, some (.int .i64 (x : Nat))), (1, some (.int .i64 (y : Nat)))]) (fun ⟨x, y⟩ => []) (fun ⟨x, y⟩ => ((x : Int) ≤ 9223372036854775807 ∧ (y : Int) ≤ 9223372036854775807) ∧ Nat.gcd x y = Nat.gcd a b) (fun ⟨x, y⟩ => y) (a, b) [] rfl ⟨⟨ha, hb⟩, rfl⟩ (.c rfl (.c rfl (.base 0 rfl rfl))) ?_
  rintro ⟨x, y⟩ ⟨⟨hx, hyb⟩, hg⟩ ih0
  dsimp only [List.cons_append, List.nil_append] at ih0 ⊢
  refine XK.seq ?_
  refine XK.seq ?_
  refine XK.region rfl ?_
  refine XO.q (Q.move rfl) ?_
  refine XO.q (Q.neq rfl rfl) ?_
  refine XO.done ?_
  refine XK.if rfl (fun c0 => ?_) (fun c0 => ?_)
  · have _t0 := True.intro
    have hy : 0 < y := by omega
    have hm := Nat.mod_lt x hy
    refine XK.skip ?_
    refine XK.block ?_
    refine XK.drawn [0, 1, 2, 3, 4, 5] [] [] (.q 0 (.q 1 (.q 2 (.q 3 (.q 4 (.q 5 .done)))))) Tryz.mixed rfl (by kernel_rfl) ?_
    refine XT.q rfl rfl (Q.move rfl) ?_
    refine XT.q rfl rfl (Q.move rfl) ?_
    refine XT.q rfl rfl (Q.move rfl) ?_
    refine XT.q rfl rfl (Q.rem rfl rfl (by omega) (by omega)) ?_
    rw [show (x : Int) % (y : Int) = ((x % y : Nat) : Int) from rfl]
    refine XT.q rfl rfl (Q.assign rfl) ?_
    refine XT.q rfl rfl (Q.assign rfl) ?_
    refine XT.done ?_
    refine XK.inBlock ?_
    exact ih0 (y, x % y) _ _ ⟨⟨by dsimp only; omega, by dsimp only; omega⟩, by dsimp only; rw [← hg, Nat.gcd_comm y, ← Nat.gcd_rec, Nat.gcd_comm]⟩ (by first | omega | (dsimp only; omega)) (.c rfl (.c rfl (.base 18 rfl rfl))) inferInstance
  · have _t0 := True.intro
    have hy : y = 0 := by omega
    subst hy
    refine XK.exit rfl ?_
    refine XK.seq ?_
    refine XK.region rfl ?_
    refine XO.q (Q.move rfl) ?_
    refine XO.q (Q.assign rfl) ?_
    refine XO.done ?_
    refine XK.rt [] Tryz.func102 Tryz.results102 (.t rfl .n) ?_
    exact ⟨by rw [← hg, Nat.gcd_zero_right], rfl⟩
theorem chance_spec (r : PRat) : Spec Tryz.prog 60 #[.agg #[.int .i64 r.n, .int .i64 r.d]] [] [] (fun v hs => v = .bool (chanceR r) ∧ hs = []) := by
  refine Spec.intro (fn := Tryz.f60) (N := 27) Tryz.func60 rfl Tryz.ntmps60 rfl fun B => ?_
  refine XK.seq ?_
  refine XK.region rfl ?_
  refine XO.box rfl fun b1 => ?_
  refine XO.q (Q.assign rfl) ?_
  refine XO.done ?_
  refine XK.seq ?_
  refine XK.region rfl ?_
  refine XO.q (Q.fieldAddr rfl) ?_
  refine XO.q (Q.ld rfl rfl) ?_
  refine XO.q (Q.geq rfl rfl) ?_
  refine XO.q (Q.move rfl) ?_
  refine XO.q (Quiet.guardT rfl rfl fun g7 p7 => Q.fieldAddr rfl) ?_
  refine XO.q (Quiet.guardT rfl rfl fun g8 p8 => Q.ld (lzv g8 rfl) rfl) ?_
  refine XO.q (Quiet.guardT rfl rfl fun g9 p9 => Q.leq (lzv g9 rfl) rfl) ?_
  refine XO.q (Q.and rfl (fun hp => lzv hp rfl)) ?_
  refine XO.q (Q.move rfl) ?_
  refine XO.q (Quiet.guardT rfl rfl fun g12 p12 => Q.fieldAddr rfl) ?_
  refine XO.q (Quiet.guardT rfl rfl fun g13 p13 => Q.ld (lzv g13 rfl) rfl) ?_
  refine XO.q (Quiet.guardT rfl rfl fun g14 p14 => Q.fieldAddr rfl) ?_
  refine XO.q (Quiet.guardT rfl rfl fun g15 p15 => Q.ld (lzv g15 rfl) rfl) ?_
  refine XO.lit1 [_] [_] [r.n] encI rfl rfl (by rfl) (by rfl) rfl (by rfl) (fun g16 => by exact .c 0 1 (lzv g16 rfl) rfl rfl (.n _)) (fun _ => rfl) (by rfl) rfl (fun _ => by infer_instance) rfl (fun v16 h16 O16 => ?_)
  refine XO.gcallT rfl rfl Tryz.call100 rfl (fun g17 => .c (lzv g17 rfl) (.c (lzv g17 rfl) .n)) rfl (fun g17 p17 => by haveI := O16 g17; exact pin_spec r.d v16 h16 [r.n]) ?_
  refine XO.q (Q.and rfl (fun hp => lzv hp rfl)) ?_
  refine XO.q (Q.move rfl) ?_
  refine XO.q (Quiet.guardT rfl rfl fun g20 p20 => Q.fieldAddr rfl) ?_
  refine XO.q (Quiet.guardT rfl rfl fun g21 p21 => Q.ld (lzv g21 rfl) rfl) ?_
  refine XO.q (Quiet.guardT rfl rfl fun g22 p22 => Q.fieldAddr rfl) ?_
  refine XO.q (Quiet.guardT rfl rfl fun g23 p23 => Q.ld (lzv g23 rfl) rfl) ?_
  refine XO.gcallT rfl rfl Tryz.call102 rfl (fun g24 => .c (lzv g24 rfl) (.c (lzv g24 rfl) .n)) rfl (fun g24 p24 => (by
    have q := pin_one.1 p24.2
    have e1 : r.n = (r.n.toNat : Int) := by omega
    have e2 : r.d = (r.d.toNat : Int) := by omega
    have s := divisor_spec r.n.toNat r.d.toNat (by omega) (by omega)
    rw [← e1, ← e2] at s
    exact s)) ?_
  refine XO.q (Quiet.guardT rfl rfl fun g25 p25 => Q.eql (lzv g25 rfl) rfl) ?_
  refine XO.q (Q.and rfl (fun hp => lzv hp rfl)) ?_
  refine XO.q (Q.assign rfl) ?_
  refine XO.done ?_
  refine XK.rt [] Tryz.func60 Tryz.results60 (.t rfl .n) ?_
  refine ⟨?_, rfl⟩
  unfold chanceR
  by_cases h : pin r.d [r.n] = true
  · have q := pin_one.1 h
    have e : Int.gcd r.n r.d = r.n.toNat.gcd r.d.toNat := by
      unfold Int.gcd
      rw [show r.n.natAbs = r.n.toNat by omega, show r.d.natAbs = r.d.toNat by omega]
    have e3 : (((r.n.toNat.gcd r.d.toNat : Nat) : Int) = 1) ↔ (r.n.toNat.gcd r.d.toNat = 1) := by omega
    rw [e]
    simp only [e3]
  · rw [Bool.eq_false_iff.2 h]; simp
end Go.X

set_option linter.unusedSimpArgs false
set_option linter.unusedVariables false
set_option maxRecDepth 20000
namespace Go.X
open Go.Proofs
theorem rackR_spec (r : PRack) : Spec Tryz.prog 59 #[.agg #[.int .i64 r.r0, .int .i64 r.r1, .int .i64 r.r2, .int .i64 r.cap, .int .i64 r.domain]] [] [] (fun v hs => v = .bool (rackR r) ∧ hs = []) := by
  refine Spec.intro (fn := Tryz.f59) (N := 18) Tryz.func59 rfl Tryz.ntmps59 rfl fun B => ?_
  refine XK.seq ?_
  refine XK.region rfl ?_
  refine XO.box rfl fun b1 => ?_
  refine XO.q (Q.assign rfl) ?_
  refine XO.done ?_
  refine XK.seq ?_
  refine XK.region rfl ?_
  refine XO.q (Q.fieldAddr rfl) ?_
  refine XO.q (Q.sliceA rfl) ?_
  refine XO.call Tryz.call100 rfl rfl rfl (by haveI := arr3 (b := b1) (a0 := r.r0) (a1 := r.r1) (a2 := r.r2) (rest := [.int .i64 r.cap, .int .i64 r.domain]) (T := 43); exact pin_spec 1000000 (.slice (some ⟨b1, 0, none⟩) 3 3) (blk b1 (.int .i64 r.r0 :: .int .i64 r.r1 :: .int .i64 r.r2 :: [.int .i64 r.cap, .int .i64 r.domain]) 43) [r.r0, r.r1, r.r2]) fun v5 s5 R5 => ?_
  obtain ⟨rfl, rfl⟩ := R5
  dsimp only [List.cons_append, List.nil_append]
  refine XO.q (Q.move rfl) ?_
  refine XO.q (Quiet.guardT rfl rfl fun g7 p7 => Q.fieldAddr rfl) ?_
  refine XO.q (Quiet.guardT rfl rfl fun g8 p8 => Q.ld (lzv g8 rfl) rfl) ?_
  refine XO.lit1 [_] [_] [r.cap] encI rfl rfl (by rfl) (by rfl) rfl (by rfl) (fun g9 => by exact .c 0 1 (lzv g9 rfl) rfl rfl (.n _)) (fun _ => rfl) (by rfl) rfl (fun _ => by infer_instance) rfl (fun v9 h9 O9 => ?_)
  refine XO.gcallT rfl rfl Tryz.call100 rfl (fun g10 => .c rfl (.c (lzv g10 rfl) .n)) rfl (fun g10 p10 => by haveI := O9 g10; exact pin_spec 10000 v9 h9 [r.cap]) ?_
  refine XO.q (Q.and rfl (fun hp => lzv hp rfl)) ?_
  refine XO.q (Q.move rfl) ?_
  refine XO.q (Quiet.guardT rfl rfl fun g13 p13 => Q.fieldAddr rfl) ?_
  refine XO.q (Quiet.guardT rfl rfl fun g14 p14 => Q.ld (lzv g14 rfl) rfl) ?_
  refine XO.lit1 [_] [_] [r.domain] encI rfl rfl (by rfl) (by rfl) rfl (by rfl) (fun g15 => by exact .c 0 1 (lzv g15 rfl) rfl rfl (.n _)) (fun _ => rfl) (by rfl) rfl (fun _ => by infer_instance) rfl (fun v15 h15 O15 => ?_)
  refine XO.gcallT rfl rfl Tryz.call100 rfl (fun g16 => .c rfl (.c (lzv g16 rfl) .n)) rfl (fun g16 p16 => by haveI := O15 g16; exact pin_spec 100 v15 h15 [r.domain]) ?_
  refine XO.q (Q.and rfl (fun hp => lzv hp rfl)) ?_
  refine XO.q (Q.assign rfl) ?_
  refine XO.done ?_
  refine XK.rt [] Tryz.func59 Tryz.results59 (.t rfl .n) ?_
  exact ⟨rfl, rfl⟩
theorem draws_next {j : PJob} {i : Nat} (h : ∀ k, k < i → DrawOk j.draws k) (hi : DrawOk j.draws i) : ∀ k, k < i + 1 → DrawOk j.draws k := fun k hk => by
  by_cases e : k = i
  · subst e; exact hi
  · exact h k (by omega)
theorem jobR_no {j : PJob} (h : (((¬pin 1000000 [j.n0, j.n1, j.n2] = true ∨ ¬pin 100 [j.group] = true) ∨ ¬pin 1000000 [j.worth] = true) ∨ (j.draws.length : Int) < 1) ∨ 8 < (j.draws.length : Int)) : jobR j = false := by
  refine Bool.eq_false_iff.2 fun hc => ?_
  have k := jobR_iff.1 hc
  have := k.few
  rcases h with (((h | h) | h) | h) | h
  · exact h k.need
  · exact h (pin_one.2 k.grp)
  · exact h (pin_one.2 k.wor)
  · omega
  · omega
theorem jobR_yes {j : PJob} (h : ¬ ((((¬pin 1000000 [j.n0, j.n1, j.n2] = true ∨ ¬pin 100 [j.group] = true) ∨ ¬pin 1000000 [j.worth] = true) ∨ (j.draws.length : Int) < 1) ∨ 8 < (j.draws.length : Int))) (hg : ∀ k, k < j.draws.length → DrawOk j.draws k) : jobR j = true := by
  simp only [not_or, Decidable.not_not, pin_one] at h
  obtain ⟨⟨⟨⟨a, b⟩, c⟩, d⟩, e⟩ := h
  exact jobR_iff.2 ⟨a, b, c, ⟨by omega, by omega⟩, hg⟩
theorem drawOk_no {l : List PDraw} {i : Nat} (h : ((¬pin 1000 [(l.getD i default).power] = true ∨ (l.getD i default).count < 1) ∨ 64 < (l.getD i default).count) ∨ 0 < (i : Int) ∧ (l.getD i default).power ≤ (l.getD ((i : Int) - 1).toNat default).power) : ¬ DrawOk l i := fun hd => by
  unfold DrawOk at hd
  rw [pin_one] at h
  rw [show ((i : Int) - 1).toNat = i - 1 by omega] at h
  omega
theorem drawOk_yes {l : List PDraw} {i : Nat} (h : ¬ (((¬pin 1000 [(l.getD i default).power] = true ∨ (l.getD i default).count < 1) ∨ 64 < (l.getD i default).count) ∨ 0 < (i : Int) ∧ (l.getD i default).power ≤ (l.getD ((i : Int) - 1).toNat default).power)) : DrawOk l i := by
  unfold DrawOk
  rw [pin_one] at h
  rw [show ((i : Int) - 1).toNat = i - 1 by omega] at h
  omega
set_option maxHeartbeats 2000000 in
theorem jobR_spec (j : PJob) (vd : Value) (hd : PHeap) [id_ : Arr vd encDraw 2 hd j.draws] : Spec Tryz.prog 56 #[.agg #[.int .i64 j.n0, .int .i64 j.n1, .int .i64 j.n2, vd, .int .i64 j.group, .int .i64 j.worth]] [] [hd] (fun v hs => v = .bool (jobR j) ∧ hs = []) := by
  have ld := id_.le
  refine Spec.intro (fn := Tryz.f56) (N := 75) Tryz.func56 rfl Tryz.ntmps56 rfl fun B => ?_
  refine XK.seq ?_
  refine XK.region rfl ?_
  refine XO.box rfl fun b1 => ?_
  refine XO.q (Q.assign rfl) ?_
  refine XO.done ?_
  refine XK.seq ?_
  refine XK.seq ?_
  refine XK.region rfl ?_
  refine XO.q (Q.fieldAddr rfl) ?_
  refine XO.q (Q.sliceA rfl) ?_
  refine XO.call Tryz.call100 rfl rfl rfl (by haveI := arr3 (b := b1) (a0 := j.n0) (a1 := j.n1) (a2 := j.n2) (rest := [vd, .int .i64 j.group, .int .i64 j.worth]) (T := 41); exact pin_spec 1000000 (.slice (some ⟨b1, 0, none⟩) 3 3) (blk b1 (.int .i64 j.n0 :: .int .i64 j.n1 :: .int .i64 j.n2 :: [vd, .int .i64 j.group, .int .i64 j.worth]) 41) [j.n0, j.n1, j.n2]) fun v7 s7 R7 => ?_
  obtain ⟨rfl, rfl⟩ := R7
  dsimp only [List.cons_append, List.nil_append]
  refine XO.q (Q.not rfl) ?_
  refine XO.q (Q.move rfl) ?_
  refine XO.q (Quiet.guardF rfl rfl fun g10 p10 => Q.fieldAddr rfl) ?_
  refine XO.q (Quiet.guardF rfl rfl fun g11 p11 => Q.ld (lzv g11 rfl) rfl) ?_
  refine XO.lit1 [_] [_] [j.group] encI rfl rfl (by rfl) (by rfl) rfl (by rfl) (fun g12 => by exact .c 0 1 (lzv g12 rfl) rfl rfl (.n _)) (fun _ => rfl) (by rfl) rfl (fun _ => by infer_instance) rfl (fun v12 h12 O12 => ?_)
  refine XO.gcallF rfl rfl Tryz.call100 rfl (fun g13 => .c rfl (.c (lzv g13 rfl) .n)) rfl (fun g13 p13 => by haveI := O12 g13; exact pin_spec 100 v12 h12 [j.group]) ?_
  refine XO.q (Quiet.guardF rfl rfl fun g14 p14 => Q.not (lzv g14 rfl)) ?_
  refine XO.q (Q.or rfl (fun hp => lzv hp rfl)) ?_
  refine XO.q (Q.move rfl) ?_
  refine XO.q (Quiet.guardF rfl rfl fun g17 p17 => Q.fieldAddr rfl) ?_
  refine XO.q (Quiet.guardF rfl rfl fun g18 p18 => Q.ld (lzv g18 rfl) rfl) ?_
  refine XO.lit1 [_] [_] [j.worth] encI rfl rfl (by rfl) (by rfl) rfl (by rfl) (fun g19 => by exact .c 0 1 (lzv g19 rfl) rfl rfl (.n _)) (fun _ => rfl) (by rfl) rfl (fun _ => by infer_instance) rfl (fun v19 h19 O19 => ?_)
  refine XO.gcallF rfl rfl Tryz.call100 rfl (fun g20 => .c rfl (.c (lzv g20 rfl) .n)) rfl (fun g20 p20 => by haveI := O19 g20; exact pin_spec 1000000 v19 h19 [j.worth]) ?_
  refine XO.q (Quiet.guardF rfl rfl fun g21 p21 => Q.not (lzv g21 rfl)) ?_
  refine XO.q (Q.or rfl (fun hp => lzv hp rfl)) ?_
  refine XO.q (Q.move rfl) ?_
  refine XO.q (Quiet.guardF rfl rfl fun g24 p24 => Q.fieldAddr rfl) ?_
  refine XO.q (Quiet.guardF rfl rfl fun g25 p25 => Q.ld (lzv g25 rfl) rfl) ?_
  refine XO.q (Quiet.guardF rfl rfl fun g26 p26 => Q.len (lzv g26 rfl)) ?_
  refine XO.q (Quiet.guardF rfl rfl fun g27 p27 => Q.lss (lzv g27 rfl) rfl) ?_
  refine XO.q (Q.or rfl (fun hp => lzv hp rfl)) ?_
  refine XO.q (Q.move rfl) ?_
  refine XO.q (Quiet.guardF rfl rfl fun g30 p30 => Q.fieldAddr rfl) ?_
  refine XO.q (Quiet.guardF rfl rfl fun g31 p31 => Q.ld (lzv g31 rfl) rfl) ?_
  refine XO.q (Quiet.guardF rfl rfl fun g32 p32 => Q.len (lzv g32 rfl)) ?_
  refine XO.q (Quiet.guardF rfl rfl fun g33 p33 => Q.gtr (lzv g33 rfl) rfl) ?_
  refine XO.q (Q.or rfl (fun hp => lzv hp rfl)) ?_
  refine XO.done ?_
  refine XK.if rfl (fun c0 => ?_) (fun c0 => ?_)
  · have _t0 := True.intro
    refine XK.seq ?_
    refine XK.region rfl ?_
    refine XO.q (Q.assign rfl) ?_
    refine XO.done ?_
    refine XK.rt [] Tryz.func56 Tryz.results56 (.t rfl .n) ?_
    exact ⟨by rw [jobR_no c0], rfl⟩
  · have _t0 := True.intro
    refine XK.skip ?_
    refine XK.seq ?_
    refine XK.seq ?_
    refine XK.region rfl ?_
    refine XO.q (Q.fieldAddr rfl) ?_
    refine XO.q (Q.ld rfl rfl) ?_
    refine XO.len rfl fun l37 => ?_
    refine XO.q (Q.move rfl) ?_
    refine XO.done ?_
    refine XK.block ?_
    refine XK.while (X := Nat) [2, 3, 4, 38, 39, 40, 41, 42, 43, 44, 45, 46, 47, 48, 49, 50, 51, 52, 53, 54, 55, 56, 57, 58, 59, 60, 61, 62, 63, 64, 65, 66, 67, 68, 69, 70, 71, 72, 73, 74] (fun i => [(38, some (.int .i64 (i : Nat)))]) (fun i => []) (fun i => i ≤ j.draws.length ∧ ∀ k, k < i → DrawOk j.draws k) (fun i => j.draws.length - i) (0) [] rfl ⟨by omega, fun k hk => by omega⟩ (.c rfl (.base 0 rfl rfl)) ?_
    rintro i ⟨hi, hg⟩ ih0
    dsimp only [List.cons_append, List.nil_append] at ih0 ⊢
    refine XK.seq ?_
    refine XK.region rfl ?_
    refine XO.q (Q.lss rfl rfl) ?_
    refine XO.done ?_
    refine XK.seq ?_
    refine XK.if rfl (fun c1 => ?_) (fun c1 => ?_)
    · have _t1 := True.intro
      refine XK.skip ?_
      refine XK.seq ?_
      refine XK.block ?_
      refine XK.seq ?_
      refine XK.region rfl ?_
      refine XO.q (Q.move rfl) ?_
      refine XO.ix rfl rfl (by omega) (by omega) fun i41 => ?_
      refine XO.q (Q.ldEA [_, _] rfl (by first | assumption | omega) rfl rfl) ?_
      refine XO.alloc fun b4 => ?_
      refine XO.q (Q.assign rfl) ?_
      refine XO.st rfl rfl rfl ?_
      refine XO.done ?_
      refine XK.seq ?_
      refine XK.drawn [0, 1, 4, 5, 6, 7, 8, 9, 10, 11, 12, 13, 14, 15, 16, 17, 18, 19, 20, 21, 22, 23, 24, 25, 26, 27, 28, 29, 30] [b4, b1] [] (.q 0 (.q 1 (.br 2 true (.br 3 true (.q 4 (.q 5 (.q 6 (.q 7 (.q 8 (.q 9 (.q 10 (.q 11 (.q 12 (.q 13 (.q 14 (.q 15 (.q 16 (.q 17 (.q 18 (.q 19 (.q 20 (.q 21 (.q 22 (.q 23 (.q 24 (.q 25 (.q 26 (.q 27 (.q 28 (.q 29 (.q 30 .done))))))))))))))))))))))))))) .stop) .stop))) Tryz.mixed rfl (by kernel_rfl) ?_
      refine XT.q rfl rfl (Q.fieldAddr rfl) ?_
      refine XT.q rfl rfl (Q.ld rfl rfl) ?_
      refine XT.lit [_] [_] [(j.draws.getD i default).power] encI rfl rfl (by rfl) (by rfl) rfl (by rfl) (by exact .c 0 1 rfl rfl rfl (.n _)) (fun _ => rfl) (by rfl) rfl (by infer_instance) rfl (fun v45 h45 O45 => ⟨inferInstance, ?_⟩) XT.stop
      refine XT.call rfl rfl Tryz.call100 rfl rfl rfl (pin_spec 1000 v45 h45 [(j.draws.getD i default).power]) (fun v46 s46 R46 => ?_) XT.stop
      obtain ⟨rfl, rfl⟩ := R46
      dsimp only [List.cons_append, List.nil_append]
      refine ⟨inferInstance, ?_⟩
      refine XT.q rfl rfl (Q.not rfl) ?_
      refine XT.q rfl rfl (Q.move rfl) ?_
      refine XT.q rfl rfl (Quiet.guardF rfl rfl fun g49 p49 => Q.fieldAddr rfl) ?_
      refine XT.q rfl rfl (Quiet.guardF rfl rfl fun g50 p50 => Q.ld (lzv g50 rfl) rfl) ?_
      refine XT.q rfl rfl (Quiet.guardF rfl rfl fun g51 p51 => Q.lss (lzv g51 rfl) rfl) ?_
      refine XT.q rfl rfl (Q.or rfl (fun hp => lzv hp rfl)) ?_
      refine XT.q rfl rfl (Q.move rfl) ?_
      refine XT.q rfl rfl (Quiet.guardF rfl rfl fun g54 p54 => Q.fieldAddr rfl) ?_
      refine XT.q rfl rfl (Quiet.guardF rfl rfl fun g55 p55 => Q.ld (lzv g55 rfl) rfl) ?_
      refine XT.q rfl rfl (Quiet.guardF rfl rfl fun g56 p56 => Q.gtr (lzv g56 rfl) rfl) ?_
      refine XT.q rfl rfl (Q.or rfl (fun hp => lzv hp rfl)) ?_
      refine XT.q rfl rfl (Q.move rfl) ?_
      refine XT.q rfl rfl (Quiet.guardF rfl rfl fun g59 p59 => Q.move rfl) ?_
      refine XT.q rfl rfl (Quiet.guardF rfl rfl fun g60 p60 => Q.gtr (lzv g60 rfl) rfl) ?_
      refine XT.q rfl rfl (Quiet.guardF rfl rfl fun g61 p61 => Q.move (lzv g61 rfl)) ?_
      refine XT.q rfl rfl (Quiet.guard2 rfl rfl fun g62a g62b => have p62a := bpF g62a; have p62b := bpT g62b; Q.fieldAddr rfl) ?_
      refine XT.q rfl rfl (Quiet.guard2 rfl rfl fun g63a g63b => have p63a := bpF g63a; have p63b := bpT g63b; Q.ld (lzv g63b (lzv g63a rfl)) rfl) ?_
      refine XT.q rfl rfl (Quiet.guard2 rfl rfl fun g64a g64b => have p64a := bpF g64a; have p64b := bpT g64b; Q.fieldAddr rfl) ?_
      refine XT.q rfl rfl (Quiet.guard2 rfl rfl fun g65a g65b => have p65a := bpF g65a; have p65b := bpT g65b; Q.ld (lzv g65b (lzv g65a rfl)) rfl) ?_
      refine XT.q rfl rfl (Quiet.guard2 rfl rfl fun g66a g66b => have p66a := bpF g66a; have p66b := bpT g66b; Q.move rfl) ?_
      refine XT.q rfl rfl (Quiet.guard2 rfl rfl fun g67a g67b => have p67a := bpF g67a; have p67b := bpT g67b; Q.sub (lzv g67b (lzv g67a rfl)) rfl ⟨by omega, by omega⟩) ?_
      refine XT.q rfl rfl (Quiet.guard2 rfl rfl fun g68a g68b => have p68a := bpF g68a; have p68b := bpT g68b; Q.ix (lzv g68b (lzv g68a rfl)) (lzv g68b (lzv g68a rfl)) (by omega) (by omega)) ?_
      refine XT.q rfl rfl (Quiet.guard2 rfl rfl fun g69a g69b => have p69a := bpF g69a; have p69b := bpT g69b; Q.fieldQ (lzv g69b (lzv g69a rfl)) (by first | assumption | omega)) ?_
      refine XT.q rfl rfl (Quiet.guard2 rfl rfl fun g70a g70b => have p70a := bpF g70a; have p70b := bpT g70b; Q.ldE (lzv g70b (lzv g70a rfl)) (by first | assumption | omega) rfl) ?_
      refine XT.q rfl rfl (Quiet.guard2 rfl rfl fun g71a g71b => have p71a := bpF g71a; have p71b := bpT g71b; Q.leq (lzv g71b (lzv g71a rfl)) (lzv g71b (lzv g71a rfl))) ?_
      refine XT.q rfl rfl (Quiet.guardF rfl rfl fun g72 p72 => Q.and (lzv g72 rfl) (fun hp => (lzv hp (lzv g72 rfl)))) ?_
      refine XT.q rfl rfl (Q.or rfl (fun hp => lzv hp rfl)) ?_
      refine XT.done ?_
      refine XK.if rfl (fun c2 => ?_) (fun c2 => ?_)
      · have _t2 := True.intro
        refine XK.seq ?_
        refine XK.region rfl ?_
        refine XO.q (Q.assign rfl) ?_
        refine XO.done ?_
        refine XK.rt [] Tryz.func56 Tryz.results56 (.t rfl .n) ?_
        exact ⟨by rw [Bool.eq_false_iff.2 (fun h => drawOk_no c2 ((jobR_iff.1 h).draw i (by omega)))], rfl⟩
      · have _t2 := True.intro
        refine XK.skip ?_
        refine XK.inBlock ?_
        refine XK.region rfl ?_
        refine XO.q (Q.add rfl rfl ⟨by omega, by omega⟩) ?_
        refine XO.q (Q.move rfl) ?_
        refine XO.done ?_
        exact ih0 (i + 1) _ _ ⟨by omega, draws_next hg (drawOk_yes c2)⟩ (by first | omega | (dsimp only; omega)) (.c rfl (.base 80 rfl rfl)) inferInstance
    · have _t1 := True.intro
      refine XK.exit rfl ?_
      refine XK.seq ?_
      refine XK.region rfl ?_
      refine XO.q (Q.assign rfl) ?_
      refine XO.done ?_
      refine XK.rt [] Tryz.func56 Tryz.results56 (.t rfl .n) ?_
      exact ⟨by rw [jobR_yes c0 (fun k hk => hg k (by omega))], rfl⟩
theorem JobsK.mem {l : List (Value × PJob)} {K : PHeap} (h : JobsK l K) {x : Value × PJob} (hx : x ∈ l) : Arr x.1 encDraw 2 K x.2.draws := by
  obtain ⟨i, hi, rfl⟩ := List.getElem_of_mem hx
  have := h i hi
  rwa [List.getD_eq_getElem?_getD, List.getElem?_eq_getElem hi] at this
theorem check1 (j : PJob) (vd : Value) (hd : PHeap) [id_ : Arr vd encDraw 2 hd j.draws] : Spec Tryz.prog 55 #[.agg #[.int .i64 j.n0, .int .i64 j.n1, .int .i64 j.n2, vd, .int .i64 j.group, .int .i64 j.worth]] [] [hd] (fun v hs => v = .bool (!jobR j) ∧ hs = []) := by
  refine Spec.intro (fn := Tryz.f55) (N := 6) Tryz.func55 rfl Tryz.ntmps55 rfl fun B => ?_
  refine XK.seq ?_
  refine XK.region rfl ?_
  refine XO.box rfl fun b1 => ?_
  refine XO.q (Q.assign rfl) ?_
  refine XO.done ?_
  refine XK.seq ?_
  refine XK.region rfl ?_
  refine XO.q (Q.ldA [_, _, _, _, _, _] rfl rfl rfl) ?_
  refine XO.call Tryz.call56 rfl rfl rfl (jobR_spec j vd hd) fun v4 s4 R4 => ?_
  obtain ⟨rfl, rfl⟩ := R4
  dsimp only [List.cons_append, List.nil_append]
  refine XO.q (Q.not rfl) ?_
  refine XO.q (Q.assign rfl) ?_
  refine XO.done ?_
  refine XK.rt [] Tryz.func55 Tryz.results55 (.t rfl .n) ?_
  exact ⟨rfl, rfl⟩
theorem listed1 (j : PJob) (vd : Value) (hd : PHeap) [id_ : Arr vd encDraw 2 hd j.draws] : Spec Tryz.prog 108 #[.agg #[.int .i64 j.n0, .int .i64 j.n1, .int .i64 j.n2, vd, .int .i64 j.group, .int .i64 j.worth]] [] [hd] (fun v hs => v = .bool (!jobR j) ∧ hs = []) := by
  refine Spec.intro (fn := Tryz.f108) (N := 6) Tryz.func108 rfl Tryz.ntmps108 rfl fun B => ?_
  refine XK.seq ?_
  refine XK.region rfl ?_
  refine XO.box rfl fun b1 => ?_
  refine XO.q (Q.assign rfl) ?_
  refine XO.done ?_
  refine XK.seq ?_
  refine XK.region rfl ?_
  refine XO.q (Q.ldA [_, _, _, _, _, _] rfl rfl rfl) ?_
  refine XO.call Tryz.call56 rfl rfl rfl (jobR_spec j vd hd) fun v4 s4 R4 => ?_
  obtain ⟨rfl, rfl⟩ := R4
  dsimp only [List.cons_append, List.nil_append]
  refine XO.q (Q.not rfl) ?_
  refine XO.q (Q.assign rfl) ?_
  refine XO.done ?_
  refine XK.rt [] Tryz.func108 Tryz.results108 (.t rfl .n) ?_
  exact ⟨rfl, rfl⟩
theorem check2 (r : PRack) : Spec Tryz.prog 58 #[.agg #[.int .i64 r.r0, .int .i64 r.r1, .int .i64 r.r2, .int .i64 r.cap, .int .i64 r.domain]] [] [] (fun v hs => v = .bool (!rackR r) ∧ hs = []) := by
  refine Spec.intro (fn := Tryz.f58) (N := 6) Tryz.func58 rfl Tryz.ntmps58 rfl fun B => ?_
  refine XK.seq ?_
  refine XK.region rfl ?_
  refine XO.box rfl fun b1 => ?_
  refine XO.q (Q.assign rfl) ?_
  refine XO.done ?_
  refine XK.seq ?_
  refine XK.region rfl ?_
  refine XO.q (Q.ldA [_, _, _, _, _] rfl rfl rfl) ?_
  refine XO.call Tryz.call59 rfl rfl rfl (rackR_spec r) fun v4 s4 R4 => ?_
  obtain ⟨rfl, rfl⟩ := R4
  dsimp only [List.cons_append, List.nil_append]
  refine XO.q (Q.not rfl) ?_
  refine XO.q (Q.assign rfl) ?_
  refine XO.done ?_
  refine XK.rt [] Tryz.func58 Tryz.results58 (.t rfl .n) ?_
  exact ⟨rfl, rfl⟩
theorem any_jobs {l : List (Value × PJob)} : (l.any fun x => !jobR x.2) = ((l.map Prod.snd).any fun j => !jobR j) := by rw [List.any_map]; rfl
theorem Check_spec (l : List (Value × PJob)) (vl : Value) (hl K : PHeap) [jl : Arr vl encPJ 6 hl l] (aL : JobsK l K) (rs : List PRack) (vr : Value) (hr : PHeap) [jr : Arr vr encRack 5 hr rs] (m : PRat) : Spec Tryz.prog 19 #[.agg #[vl, vr, .int .i64 m.n, .int .i64 m.d]] [] [hl, K, hr] (fun v hs => v = .int .i64 (pcheck ⟨(l.map Prod.snd), rs, m⟩) ∧ hs = []) := by
  refine Spec.intro (fn := Tryz.f19) (N := 34) Tryz.func19 rfl Tryz.ntmps19 rfl fun B => ?_
  refine XK.seq ?_
  refine XK.region rfl ?_
  refine XO.box rfl fun b1 => ?_
  refine XO.q (Q.assign rfl) ?_
  refine XO.done ?_
  refine XK.seq ?_
  refine XK.block ?_
  refine XK.seq ?_
  refine XK.region rfl ?_
  refine XO.q (Q.fieldAddr rfl) ?_
  refine XO.q (Q.ld rfl rfl) ?_
  refine XO.len rfl fun l6 => ?_
  refine XO.q (Q.gtr rfl rfl) ?_
  refine XO.q (Q.move rfl) ?_
  refine XO.q (Quiet.guardF rfl rfl fun g9 p9 => Q.fieldAddr rfl) ?_
  refine XO.q (Quiet.guardF rfl rfl fun g10 p10 => Q.ld (lzv g10 rfl) rfl) ?_
  refine XO.q (Quiet.guardF rfl rfl fun g11 p11 => Q.len (lzv g11 rfl)) ?_
  refine XO.q (Quiet.guardF rfl rfl fun g12 p12 => Q.lss (lzv g12 rfl) rfl) ?_
  refine XO.q (Q.or rfl (fun hp => lzv hp rfl)) ?_
  refine XO.q (Q.move rfl) ?_
  refine XO.q (Quiet.guardF rfl rfl fun g15 p15 => Q.fieldAddr rfl) ?_
  refine XO.q (Quiet.guardF rfl rfl fun g16 p16 => Q.ld (lzv g16 rfl) rfl) ?_
  refine XO.q (Quiet.guardF rfl rfl fun g17 p17 => Q.len (lzv g17 rfl)) ?_
  refine XO.q (Quiet.guardF rfl rfl fun g18 p18 => Q.gtr (lzv g18 rfl) rfl) ?_
  refine XO.q (Q.or rfl (fun hp => lzv hp rfl)) ?_
  refine XO.q (Q.assign rfl) ?_
  refine XO.done ?_
  refine XK.if rfl (fun c0 => ?_) (fun c0 => ?_)
  · have _t0 := True.intro
    refine XK.seq ?_
    refine XK.region rfl ?_
    refine XO.q (Q.assign rfl) ?_
    refine XO.done ?_
    refine XK.rt [] Tryz.func19 Tryz.results19 (.t rfl .n) ?_
    exact ⟨by rw [pcheck, if_pos (by dsimp only; rw [List.length_map]; omega)], rfl⟩
  · have _t0 := True.intro
    refine XK.seq ?_
    refine XK.region rfl ?_
    refine XO.q (Q.fieldAddr rfl) ?_
    refine XO.q (Q.ld rfl rfl) ?_
    refine XO.call Tryz.call15 rfl rfl rfl (containsFuncPJ vl hl l 55 [] [K] (fun x => !jobR x.2) Tryz.call55 (fun x hx => by haveI := aL.mem hx; exact check1 x.2 x.1 K)) fun v23 s23 R23 => ?_
    obtain ⟨rfl, rfl⟩ := R23
    dsimp only [List.cons_append, List.nil_append]
    rw [any_jobs]
    refine XO.q (Q.move rfl) ?_
    refine XO.q (Quiet.guardF rfl rfl fun g25 p25 => Q.fieldAddr rfl) ?_
    refine XO.q (Quiet.guardF rfl rfl fun g26 p26 => Q.ld (lzv g26 rfl) rfl) ?_
    refine XO.gcallF rfl rfl Tryz.call57 rfl (fun g27 => .c (lzv g27 rfl) (.c rfl .n)) rfl (fun g27 p27 => containsFuncPR vr hr rs 58 [] [] (fun x => !rackR x) Tryz.call58 (fun x hx => check2 x)) ?_
    refine XO.q (Q.or rfl (fun hp => lzv hp rfl)) ?_
    refine XO.q (Q.assign rfl) ?_
    refine XO.done ?_
    refine XK.if rfl (fun c1 => ?_) (fun c1 => ?_)
    · have _t1 := True.intro
      refine XK.seq ?_
      refine XK.region rfl ?_
      refine XO.q (Q.assign rfl) ?_
      refine XO.done ?_
      refine XK.rt [] Tryz.func19 Tryz.results19 (.t rfl .n) ?_
      exact ⟨by rw [pcheck, if_neg (by dsimp only; rw [List.length_map]; omega), if_pos (by dsimp only; rw [Bool.or_eq_true]; exact c1)], rfl⟩
    · have _t1 := True.intro
      refine XK.seq ?_
      refine XK.region rfl ?_
      refine XO.q (Q.fieldAddr rfl) ?_
      refine XO.q (Q.ldA [_, _] rfl rfl rfl) ?_
      refine XO.call Tryz.call60 rfl rfl rfl (chance_spec m) fun v32 s32 R32 => ?_
      obtain ⟨rfl, rfl⟩ := R32
      dsimp only [List.cons_append, List.nil_append]
      refine XO.q (Q.not rfl) ?_
      refine XO.q (Q.assign rfl) ?_
      refine XO.done ?_
      refine XK.if rfl (fun c2 => ?_) (fun c2 => ?_)
      · have _t2 := True.intro
        refine XK.seq ?_
        refine XK.region rfl ?_
        refine XO.q (Q.assign rfl) ?_
        refine XO.done ?_
        refine XK.rt [] Tryz.func19 Tryz.results19 (.t rfl .n) ?_
        exact ⟨by rw [pcheck, if_neg (by dsimp only; rw [List.length_map]; omega), if_neg (by dsimp only; rw [Bool.or_eq_true]; exact c1), if_pos c2], rfl⟩
      · have _t2 := True.intro
        refine XK.skip ?_
        refine XK.inBlock ?_
        refine XK.seq ?_
        refine XK.region rfl ?_
        refine XO.q (Q.assign rfl) ?_
        refine XO.done ?_
        refine XK.rt [] Tryz.func19 Tryz.results19 (.t rfl .n) ?_
        exact ⟨by rw [pcheck, if_neg (by dsimp only; rw [List.length_map]; omega), if_neg (by dsimp only; rw [Bool.or_eq_true]; exact c1), if_neg c2], rfl⟩
end Go.X

set_option linter.unusedSimpArgs false
set_option linter.unusedVariables false
set_option maxRecDepth 20000
namespace Go.X
open Go.Proofs
theorem listed_spec (l : List (Value × PJob)) (vl : Value) (hl K : PHeap) [jl : Arr vl encPJ 6 hl l] (aL : JobsK l K) : Spec Tryz.prog 85 #[vl] [] [hl, K] (fun v hs => v = .tuple #[.int .i64 (listedG (l.map Prod.snd)).1, .int .i64 (listedG (l.map Prod.snd)).2] ∧ hs = []) := by
  have ll := jl.le
  have lm : (l.map Prod.snd).length = l.length := List.length_map ..
  refine Spec.intro (fn := Tryz.f85) (N := 40) Tryz.func85 rfl Tryz.ntmps85 rfl fun B => ?_
  refine XK.seq ?_
  refine XK.region rfl ?_
  refine XO.q (Q.assign rfl) ?_
  refine XO.q (Q.assign rfl) ?_
  refine XO.done ?_
  refine XK.seq ?_
  refine XK.seq ?_
  refine XK.region rfl ?_
  refine XO.q (Q.move rfl) ?_
  refine XO.len rfl fun l11 => ?_
  refine XO.q (Q.gtr rfl rfl) ?_
  refine XO.done ?_
  refine XK.if rfl (fun c0 => ?_) (fun c0 => ?_)
  · have _t0 := True.intro
    refine XK.seq ?_
    refine XK.region rfl ?_
    refine XO.q (Q.assign rfl) ?_
    refine XO.q (Q.assign rfl) ?_
    refine XO.done ?_
    refine XK.rt [] Tryz.func85 Tryz.results85 (.t rfl (.t rfl .n)) ?_
    exact ⟨by rw [listedG, if_pos (by omega)], rfl⟩
  · have _t0 := True.intro
    refine XK.skip ?_
    refine XK.seq ?_
    refine XK.seq ?_
    refine XK.region rfl ?_
    refine XO.q (Q.move rfl) ?_
    refine XO.call Tryz.call15 rfl rfl rfl (containsFuncPJ vl hl l 108 [] [K] (fun x => !jobR x.2) Tryz.call108 (fun x hx => by haveI := aL.mem hx; exact listed1 x.2 x.1 K)) fun v14 s14 R14 => ?_
    obtain ⟨rfl, rfl⟩ := R14
    dsimp only [List.cons_append, List.nil_append]
    rw [any_jobs]
    refine XO.done ?_
    refine XK.if rfl (fun c1 => ?_) (fun c1 => ?_)
    · have _t1 := True.intro
      refine XK.seq ?_
      refine XK.region rfl ?_
      refine XO.q (Q.assign rfl) ?_
      refine XO.q (Q.assign rfl) ?_
      refine XO.done ?_
      refine XK.rt [] Tryz.func85 Tryz.results85 (.t rfl (.t rfl .n)) ?_
      exact ⟨by rw [listedG, if_neg (by omega), if_pos c1], rfl⟩
    · have _t1 := True.intro
      have hJ : ∀ k, k < l.length → PJobOk (l.getD k default).2 := fun k hk => jobR_iff.1 (by
        have := any_false_at (Bool.eq_false_iff.2 c1) (i := k) (by rw [lm]; exact hk)
        rw [map_snd_atP] at this
        simpa using this)
      refine XK.skip ?_
      refine XK.seq ?_
      refine XK.region rfl ?_
      refine XO.q (Q.assign rfl) ?_
      refine XO.done ?_
      refine XK.seq ?_
      refine XK.seq ?_
      refine XK.region rfl ?_
      refine XO.q (Q.move rfl) ?_
      refine XO.len rfl fun l16 => ?_
      refine XO.q (Q.move rfl) ?_
      refine XO.done ?_
      refine XK.block ?_
      refine XK.while (X := Nat) [2, 3, 4, 6, 7, 9, 17, 18, 19, 20, 21, 22, 23, 24, 25, 26, 27, 28, 29, 30, 31, 32, 33, 34, 35, 36, 37, 38] (fun i => [(17, some (.int .i64 (i : Nat))), (4, some (.int .i64 (prodJ (l.map Prod.snd) i)))]) (fun i => []) (fun i => (i ≤ l.length ∧ (1 ≤ prodJ (l.map Prod.snd) i ∧ prodJ (l.map Prod.snd) i ≤ 1099511627776)) ∧ ∀ k, k < i → prodJ (l.map Prod.snd) (k + 1) ≤ 1099511627776) (fun i => l.length - i) (0) [] rfl ⟨⟨by omega, by (try unfold prodJ); omega⟩, fun k hk => by omega⟩ (.c rfl (.c rfl (.base 0 rfl rfl))) ?_
      rintro i ⟨⟨hi, pp⟩, hp⟩ ih0
      dsimp only [List.cons_append, List.nil_append] at ih0 ⊢
      refine XK.seq ?_
      refine XK.region rfl ?_
      refine XO.q (Q.lss rfl rfl) ?_
      refine XO.done ?_
      refine XK.seq ?_
      refine XK.if rfl (fun c2 => ?_) (fun c2 => ?_)
      · have _t2 := True.intro
        have ji := map_snd_atP l i
        have ai := aL i (by omega)
        have jok := hJ i (by omega)
        have pn := prod_next (l := l.map Prod.snd) (i := i) (by omega) (by rw [ji]; exact jok) pp
        rw [ji] at pn
        have jf := jok.few
        refine XK.skip ?_
        refine XK.seq ?_
        refine XK.block ?_
        refine XK.seq ?_
        refine XK.region rfl ?_
        refine XO.ix rfl rfl (by omega) (by omega) fun i19 => ?_
        refine XO.q (Q.ldEA [_, _, _, _, _, _] rfl (by first | assumption | omega) rfl rfl) ?_
        refine XO.alloc fun b6 => ?_
        refine XO.st rfl rfl rfl ?_
        refine XO.done ?_
        refine XK.seq ?_
        refine XK.region rfl ?_
        refine XO.q (Q.assign rfl) ?_
        refine XO.done ?_
        refine XK.seq ?_
        refine XK.seq ?_
        refine XK.region rfl ?_
        refine XO.q (Q.fieldAddr rfl) ?_
        refine XO.q (Q.ld rfl rfl) ?_
        refine XO.len rfl fun l23 => ?_
        refine XO.q (Q.move rfl) ?_
        refine XO.done ?_
        refine XK.block ?_
        refine XK.while (X := Nat) [7, 9, 24, 25, 26, 27, 28, 29, 30, 31, 32] (fun k => [(24, some (.int .i64 (k : Nat))), (7, some (.int .i64 (cntTo (l.getD i default).2 k)))]) (fun k => []) (fun k => k ≤ (l.getD i default).2.draws.length) (fun k => (l.getD i default).2.draws.length - k) (0) [] rfl (by omega) (.c rfl (.c rfl (.base 0 rfl rfl))) ?_
        rintro k hk ih1
        dsimp only [List.cons_append, List.nil_append] at ih1 ⊢
        refine XK.seq ?_
        refine XK.region rfl ?_
        refine XO.q (Q.lss rfl rfl) ?_
        refine XO.done ?_
        refine XK.seq ?_
        refine XK.if rfl (fun c3 => ?_) (fun c3 => ?_)
        · have _t3 := True.intro
          have ct := cntTo_rng jok k (by omega)
          have dk := jok.draw k (by omega)
          unfold DrawOk at dk
          refine XK.skip ?_
          refine XK.seq ?_
          refine XK.block ?_
          refine XK.seq ?_
          refine XK.region rfl ?_
          refine XO.ix rfl rfl (by omega) (by omega) fun i26 => ?_
          refine XO.q (Q.ldEA [_, _] rfl (by first | assumption | omega) rfl rfl) ?_
          refine XO.alloc fun b9 => ?_
          refine XO.st rfl rfl rfl ?_
          refine XO.done ?_
          refine XK.region rfl ?_
          refine XO.q (Q.move rfl) ?_
          refine XO.q (Q.fieldAddr rfl) ?_
          refine XO.q (Q.ld rfl rfl) ?_
          refine XO.q (Q.add rfl rfl ⟨by omega, by omega⟩) ?_
          refine XO.q (Q.assign rfl) ?_
          refine XO.done ?_
          refine XK.inBlock ?_
          refine XK.region rfl ?_
          refine XO.q (Q.add rfl rfl ⟨by omega, by omega⟩) ?_
          refine XO.q (Q.move rfl) ?_
          refine XO.done ?_
          rw [← cntTo_succ (by omega)]
          exact ih1 (k + 1) _ _ (by omega) (by first | omega | (dsimp only; omega)) (.c rfl (.c rfl (.base 24 rfl rfl))) inferInstance
        · have _t3 := True.intro
          have hkl : k = (l.getD i default).2.draws.length := by omega
          subst hkl
          rw [cntTo_all]
          have tr := total_rng jok
          refine XK.exit rfl ?_
          refine XK.seq ?_
          refine XK.region rfl ?_
          refine XO.q (Q.move rfl) ?_
          refine XO.q (Q.move rfl) ?_
          refine XO.q (Q.mul rfl rfl ⟨by omega, by omega⟩) ?_
          refine XO.q (Q.assign rfl) ?_
          refine XO.done ?_
          refine XK.seq ?_
          refine XK.region rfl ?_
          refine XO.q (Q.move rfl) ?_
          refine XO.q (Q.gtr rfl rfl) ?_
          refine XO.done ?_
          refine XK.if rfl (fun c4 => ?_) (fun c4 => ?_)
          · have _t4 := True.intro
            have mt := manyTo_true (l := l.map Prod.snd) (n := (l.map Prod.snd).length) (i := i) (by omega) (by rw [pn.1]; omega)
            refine XK.seq ?_
            refine XK.region rfl ?_
            refine XO.q (Q.assign rfl) ?_
            refine XO.q (Q.assign rfl) ?_
            refine XO.done ?_
            refine XK.rt [] Tryz.func85 Tryz.results85 (.t rfl (.t rfl .n)) ?_
            exact ⟨by rw [listedG, if_neg (by omega), if_neg c1, if_pos mt], rfl⟩
          · have _t4 := True.intro
            refine XK.skip ?_
            refine XK.inBlock ?_
            refine XK.region rfl ?_
            refine XO.q (Q.add rfl rfl ⟨by omega, by omega⟩) ?_
            refine XO.q (Q.move rfl) ?_
            refine XO.done ?_
            rw [← pn.1]
            exact ih0 (i + 1) _ _ ⟨⟨by omega, by rw [pn.1]; omega⟩, fun k hk => by
              by_cases h : k = i
              · subst h; rw [pn.1]; omega
              · exact hp k (by omega)⟩ (by first | omega | (dsimp only; omega)) (.c rfl (.c rfl (.base 61 rfl rfl))) inferInstance
      · have _t2 := True.intro
        refine XK.exit rfl ?_
        refine XK.seq ?_
        refine XK.region rfl ?_
        refine XO.q (Q.move rfl) ?_
        refine XO.q (Q.assign rfl) ?_
        refine XO.q (Q.assign rfl) ?_
        refine XO.done ?_
        refine XK.rt [] Tryz.func85 Tryz.results85 (.t rfl (.t rfl .n)) ?_
        have hil : i = (l.map Prod.snd).length := by omega
        exact ⟨by rw [listedG, if_neg (by omega), if_neg c1, if_neg (by rw [manyTo_false.2 fun k hk => hp k (by omega)]; decide), ← hil], rfl⟩
theorem keyI : KeyT Tryz.prog 3 encK1 := KeyT.int (by kernel_rfl)
set_option maxHeartbeats 2000000 in
theorem sums_spec (l : List (Value × PJob)) (vl : Value) (hl K : PHeap) [jl : Arr vl encPJ 6 hl l] (aL : JobsK l K) (ok : ListOk (l.map Prod.snd)) : Spec Tryz.prog 86 #[vl] [] [hl, K] (fun v hs => ∃ b es, v = .map (some b) ∧ hs = [mapH b encK1 es] ∧ MapIs es (combos (l.map Prod.snd))) := by
  haveI := keyI
  have ll := jl.le
  have lm : (l.map Prod.snd).length = l.length := List.length_map ..
  have few := ok.few
  refine Spec.intro (fn := Tryz.f86) (N := 49) Tryz.func86 rfl Tryz.ntmps86 rfl fun B => ?_
  refine XK.seq ?_
  refine XK.region rfl ?_
  refine XO.q (Q.assign rfl) ?_
  refine XO.done ?_
  refine XK.seq ?_
  refine XK.region rfl ?_
  refine XO.map encK1 fun b11 => ?_
  refine XO.insert (enc := encK1) (0) rfl rfl rfl ?_
  refine XO.q (Q.move rfl) ?_
  refine XO.q (Q.assign rfl) ?_
  refine XO.done ?_
  refine XK.seq ?_
  refine XK.seq ?_
  refine XK.region rfl ?_
  refine XO.q (Q.move rfl) ?_
  refine XO.len rfl fun l14 => ?_
  refine XO.q (Q.move rfl) ?_
  refine XO.done ?_
  refine XK.block ?_
  refine XK.while (X := Nat × Nat × List (Int × Value)) [3, 5, 6, 7, 8, 10, 15, 16, 17, 18, 19, 20, 21, 22, 23, 24, 25, 26, 27, 28, 29, 30, 31, 32, 33, 34, 35, 36, 37, 38, 39, 40, 41, 42, 43, 44, 45, 46, 47] (fun ⟨i, b, es⟩ => [(15, some (.int .i64 (i : Nat))), (3, some (.map (some b)))]) (fun ⟨i, b, es⟩ => [mapH b encK1 es]) (fun ⟨i, b, es⟩ => i ≤ l.length ∧ MapIs es (combos ((l.map Prod.snd).take i))) (fun ⟨i, b, es⟩ => l.length - i) (0, b11, putM 0 (.int .i64 1) []) [mapH b11 encK1 (putM 0 (.int .i64 1) [])] rfl ⟨by omega, MapIs.one⟩ (.c rfl (.c rfl (.base 0 rfl rfl))) ?_
  rintro ⟨i, b, es⟩ ⟨hi, mi⟩ ih0
  dsimp only [List.cons_append, List.nil_append] at ih0 ⊢
  refine XK.seq ?_
  refine XK.region rfl ?_
  refine XO.q (Q.lss rfl rfl) ?_
  refine XO.done ?_
  refine XK.seq ?_
  refine XK.if rfl (fun c0 => ?_) (fun c0 => ?_)
  · have _t0 := True.intro
    have ji := map_snd_atP l i
    have ai := aL i (by omega)
    have sb := step_bound ok (i := i) (by omega)
    rw [ji] at sb
    have jok := ok.job i (by omega)
    rw [ji] at jok
    have jf := jok.few
    refine XK.skip ?_
    refine XK.seq ?_
    refine XK.block ?_
    refine XK.seq ?_
    refine XK.region rfl ?_
    refine XO.ix rfl rfl (by omega) (by omega) fun i17 => ?_
    refine XO.q (Q.ldEA [_, _, _, _, _, _] rfl (by first | assumption | omega) rfl rfl) ?_
    refine XO.alloc fun b5 => ?_
    refine XO.st rfl rfl rfl ?_
    refine XO.done ?_
    refine XK.seq ?_
    refine XK.region rfl ?_
    refine XO.map encK1 fun b19 => ?_
    refine XO.q (Q.assign rfl) ?_
    refine XO.done ?_
    refine XK.seq ?_
    refine XK.seq ?_
    refine XK.region rfl ?_
    refine XO.q (Q.move rfl) ?_
    refine XO.range rfl fun q21 => ?_
    refine XO.done ?_
    refine XK.block ?_
    refine XK.while (X := List Nat × List (Int × Value)) [7, 8, 10, 22, 23, 24, 25, 26, 27, 28, 29, 30, 31, 32, 33, 34, 35, 36, 37, 38, 39, 40, 41, 42, 43, 44, 45] (fun ⟨seen, es2⟩ => []) (fun ⟨seen, es2⟩ => [itH q21 b es.length seen, mapH b19 encK1 es2]) (fun ⟨seen, es2⟩ => seen.Nodup ∧ (∀ i ∈ seen, i < es.length) ∧ MapIs es2 (given es (l.getD i default).2 seen)) (fun ⟨seen, es2⟩ => es.length - seen.length) ([], []) [itH q21 b es.length [], mapH b19 encK1 []] rfl ⟨List.nodup_nil, fun i h => (by cases h), MapIs.nil⟩ (.base 0 rfl rfl) ?_
    rintro ⟨seen, es2⟩ ⟨hnd, hlt, h2⟩ ih1
    dsimp only [List.cons_append, List.nil_append] at ih1 ⊢
    refine XK.seq ?_
    refine XK.region rfl ?_
    refine XO.next rfl rfl fun more22 nl22 seen22 out22 => ?_
    refine XO.q (Q.extract0 rfl) ?_
    refine XO.done ?_
    refine XK.seq ?_
    refine XK.if rfl (fun c1 => ?_) (fun c1 => ?_)
    · have _t1 := True.intro
      obtain ⟨q, hq, hqs, rfl⟩ := (Out.next out22) c1
      have kr := combos_rng ok i (by omega) _ (mi.at hq).2.2
      refine XK.skip ?_
      refine XK.block ?_
      refine XK.seq ?_
      refine XK.region rfl ?_
      refine XO.q (Q.entry (i := q) rfl rfl hq) ?_
      refine XO.q (Q.extract rfl rfl) ?_
      refine XO.q (Q.extract rfl rfl) ?_
      rw [(mi.at hq).1]
      refine XO.q (Q.assign rfl) ?_
      refine XO.q (Q.assign rfl) ?_
      refine XO.done ?_
      refine XK.seq ?_
      refine XK.region rfl ?_
      refine XO.q (Q.fieldAddr rfl) ?_
      refine XO.q (Q.ld rfl rfl) ?_
      refine XO.len rfl fun l29 => ?_
      refine XO.q (Q.move rfl) ?_
      refine XO.done ?_
      refine XK.block ?_
      refine XK.while (X := Nat × List (Int × Value)) [10, 30, 31, 32, 33, 34, 35, 36, 37, 38, 39, 40, 41, 42, 43, 44, 45] (fun ⟨k, es3⟩ => [(30, some (.int .i64 (k : Nat)))]) (fun ⟨k, es3⟩ => [mapH b19 encK1 es3]) (fun ⟨k, es3⟩ => k ≤ (l.getD i default).2.draws.length ∧ MapIs es3 (given es (l.getD i default).2 seen ++ give (l.getD i default).2 k (es.getD q default))) (fun ⟨k, es3⟩ => (l.getD i default).2.draws.length - k) (0, es2) [mapH b19 encK1 es2] rfl ⟨by omega, by (try dsimp only); rw [count_nil_give]; exact h2⟩ (.c rfl (.base 0 rfl rfl)) ?_
      rintro ⟨k, es3⟩ ⟨hk, h4⟩ ih2
      dsimp only [List.cons_append, List.nil_append] at ih2 ⊢
      refine XK.seq ?_
      refine XK.region rfl ?_
      refine XO.q (Q.lss rfl rfl) ?_
      refine XO.done ?_
      refine XK.seq ?_
      refine XK.if rfl (fun c2 => ?_) (fun c2 => ?_)
      · have _t2 := True.intro
        have dk := jok.draw k (by omega)
        unfold DrawOk at dk
        refine XK.skip ?_
        refine XK.seq ?_
        refine XK.block ?_
        refine XK.seq ?_
        refine XK.region rfl ?_
        refine XO.ix rfl rfl (by omega) (by omega) fun i32 => ?_
        refine XO.q (Q.ldEA [_, _] rfl (by first | assumption | omega) rfl rfl) ?_
        refine XO.alloc fun b10 => ?_
        refine XO.st rfl rfl rfl ?_
        refine XO.done ?_
        refine XK.region rfl ?_
        refine XO.q (Q.move rfl) ?_
        refine XO.q (Q.move rfl) ?_
        refine XO.q (Q.fieldAddr rfl) ?_
        refine XO.q (Q.ld rfl rfl) ?_
        refine XO.q (Q.add rfl rfl ⟨by omega, by omega⟩) ?_
        refine XO.q (Q.lookup (enc := encK1) _ Tryz.zeroValue3 ((es.getD q default).1 + ((l.getD i default).2.draws.getD k default).power) rfl rfl) ?_
        rw [h4.get]
        refine XO.q (Q.move rfl) ?_
        refine XO.q (Q.fieldAddr rfl) ?_
        refine XO.q (Q.ld rfl rfl) ?_
        obtain ⟨gv1, gv2, gv3⟩ := mi.give jok h4 hq (by omega) hnd hlt hqs sb.1 sb.2 rfl rfl rfl
        refine XO.q (Q.mul rfl rfl ⟨by omega, by omega⟩) ?_
        refine XO.q (Q.add rfl rfl ⟨by omega, by omega⟩) ?_
        refine XO.mapUpdate (enc := encK1) ((es.getD q default).1 + ((l.getD i default).2.draws.getD k default).power) rfl rfl rfl ?_
        refine XO.done ?_
        refine XK.inBlock ?_
        refine XK.region rfl ?_
        refine XO.q (Q.add rfl rfl ⟨by omega, by omega⟩) ?_
        refine XO.q (Q.move rfl) ?_
        refine XO.done ?_
        exact ih2 (k + 1, _) _ _ ⟨by dsimp only; omega, gv3⟩ (by first | omega | (dsimp only; omega)) (.c rfl (.base 35 rfl rfl)) inferInstance
      · have _t2 := True.intro
        have hkl : k = (l.getD i default).2.draws.length := by omega
        subst hkl
        refine XK.exit rfl ?_
        refine XK.inBlock ?_
        exact ih1 (seen ++ [q], es3) _ _ ⟨nodup_snoc hnd hqs, mem_snoc hlt hq, by dsimp only; rw [given_snoc]; exact h4⟩ (by have := seen_few (nodup_snoc hnd hqs) (mem_snoc hlt hq); rw [List.length_append, List.length_singleton] at this; dsimp only; rw [List.length_append, List.length_singleton]; omega) (.base 57 rfl rfl) inferInstance
    · have _t1 := True.intro
      obtain ⟨rfl, hall⟩ := Out.done out22 (by simpa using c1)
      have h3 := h2.perm (given_all mi hnd hlt hall)
      refine XK.exit rfl ?_
      refine XK.region rfl ?_
      refine XO.q (Q.move rfl) ?_
      refine XO.q (Q.assign rfl) ?_
      refine XO.done ?_
      refine XK.inBlock ?_
      refine XK.region rfl ?_
      refine XO.q (Q.add rfl rfl ⟨by omega, by omega⟩) ?_
      refine XO.q (Q.move rfl) ?_
      refine XO.done ?_
      exact ih0 (i + 1, b19, es2) _ _ ⟨by dsimp only; omega, by dsimp only; rw [combos_succ (by omega), ji]; exact h3⟩ (by first | omega | (dsimp only; omega)) (.c rfl (.c rfl (.base 82 rfl rfl))) inferInstance
  · have _t0 := True.intro
    refine XK.exit rfl ?_
    refine XK.seq ?_
    refine XK.region rfl ?_
    refine XO.q (Q.move rfl) ?_
    refine XO.q (Q.assign rfl) ?_
    refine XO.done ?_
    refine XK.rt [mapH b encK1 es] Tryz.func86 Tryz.results86 (.t rfl .n) ?_
    have hil : i = l.length := by omega
    rw [← lm] at hil
    rw [hil, List.take_length] at mi
    exact ⟨b, es, rfl, rfl, mi⟩
end Go.X
