/- Slices. No condition. -/
import Derived.Test.YtfenlpoaphbfgaaX5
set_option linter.unusedSimpArgs false
set_option linter.unusedVariables false
namespace Go.X

/-! ### an integer that is a natural number -/
class IsNat (n : Int) (i : outParam Nat) : Prop where
  pf : n = i
instance (priority := high) IsNat.cast {i : Nat} : IsNat (i : Int) i := ⟨rfl⟩
instance IsNat.lit {n : Nat} : IsNat (@OfNat.ofNat Int n instOfNat) n := ⟨rfl⟩
instance IsNat.add {m n : Int} {i j : Nat} [a : IsNat m i] [b : IsNat n j] : IsNat (m + n) (i + j) := ⟨by rw [a.pf, b.pf]; rfl⟩
instance IsNat.mul {m n : Int} {i j : Nat} [a : IsNat m i] [b : IsNat n j] : IsNat (m * n) (i * j) := ⟨by rw [a.pf, b.pf]; exact (Int.natCast_mul i j).symm⟩
instance IsNat.div {m n : Int} {i j : Nat} [a : IsNat m i] [b : IsNat n j] : IsNat (m / n) (i / j) := ⟨by rw [a.pf, b.pf]; rfl⟩
instance IsNat.mod {m n : Int} {i j : Nat} [a : IsNat m i] [b : IsNat n j] : IsNat (m % n) (i % j) := ⟨by rw [a.pf, b.pf]; rfl⟩
class Idx (n : Int) (i : outParam Nat) : Prop where
  pf : 0 ≤ n → n = i
instance (priority := high) Idx.nat {n : Int} {i : Nat} [a : IsNat n i] : Idx n i := ⟨fun _ => a.pf⟩
instance (priority := low) Idx.toNat {n : Int} : Idx n n.toNat := ⟨fun h => (Int.toNat_of_nonneg h).symm⟩

/-! ### slices that are read, slices that are owned -/
class Arr (v : Value) {α : outParam Type} (enc : outParam (α → List Value)) (sz : outParam Nat) (h : outParam PHeap) (xs : outParam (List α)) : Prop where
  pf : (∀ x, (enc x).length = sz) ∧ (xs.length ≤ 140737488355328 ∧ ∀ x ∈ xs, ∀ c ∈ enc x, one c = true) ∧ ∃ a c, v = .slice a xs.length c ∧ xs.length ≤ c ∧ (a = none → c = 0) ∧
    (0 < xs.length → ∃ b k cs T fr, a = some ⟨b, k, none⟩ ∧ h b = some (.cells cs T fr) ∧ ∀ i j, i < xs.length → j < sz → cs[k + i * sz + j]? = (xs[i]?.bind fun x => (enc x)[j]?))
class OArr (v : Value) {α : outParam Type} (enc : outParam (α → List Value)) (sz : outParam Nat) (T : outParam TypeId) (h : outParam PHeap) (xs : outParam (List α)) : Prop where
  pf : (∀ x, (enc x).length = sz) ∧ (xs.length ≤ 140737488355328 ∧ ∀ x ∈ xs, ∀ c ∈ enc x, one c = true) ∧ ((v = .slice none 0 0 ∧ xs = [] ∧ h = emp) ∨
    ∃ b c cs, v = .slice (some ⟨b, 0, none⟩) xs.length c ∧ h = blk b cs T ∧ xs.length ≤ c ∧ cs.length = c * sz ∧ cs.take (xs.length * sz) = xs.flatMap enc)
theorem flat_get {α : Type} {enc : α → List Value} {sz : Nat} (he : ∀ x, (enc x).length = sz) : ∀ (xs : List α) (i j : Nat), j < sz →
    (xs.flatMap enc)[i * sz + j]? = xs[i]?.bind fun x => (enc x)[j]?
  | [], i, j, hj => by simp
  | x :: xs, 0, j, hj => by
    simp only [List.flatMap_cons, Nat.zero_mul, Nat.zero_add, List.getElem?_cons_zero, Option.bind_some]
    rw [List.getElem?_append_left (by rw [he]; exact hj)]
  | x :: xs, i + 1, j, hj => by
    simp only [List.flatMap_cons, List.getElem?_cons_succ]
    rw [List.getElem?_append_right (by rw [he, Nat.add_mul]; omega), he, ← flat_get he xs i j hj]
    congr 1
    rw [Nat.add_mul]
    omega
theorem flat_len {α : Type} {enc : α → List Value} {sz : Nat} (he : ∀ x, (enc x).length = sz) : ∀ (xs : List α), (xs.flatMap enc).length = xs.length * sz
  | [] => by simp
  | x :: xs => by rw [List.flatMap_cons, List.length_append, he, flat_len he xs, List.length_cons, Nat.add_mul]; omega
instance OArr.arr {v : Value} {α : Type} {enc : α → List Value} {sz T : Nat} {h : PHeap} {xs : List α} [s : OArr v enc sz T h xs] : Arr v enc sz h xs := ⟨by
  obtain ⟨he, hm, ⟨rfl, rfl, rfl⟩ | ⟨b, c, cs, rfl, rfl, hle, hlen, ht⟩⟩ := s.pf
  · exact ⟨he, hm, none, 0, rfl, by simp, fun _ => rfl, fun h => by simp at h⟩
  · refine ⟨he, hm, _, c, rfl, hle, (fun h => by cases h), fun _ => ⟨b, 0, cs.toArray, T, (0, 0), rfl, sing_self _ _, fun i j hi hj => ?_⟩⟩
    rw [← flat_get he xs i j hj, ← ht]
    have h1 : i * sz + j < xs.length * sz := by
      have : (i + 1) * sz ≤ xs.length * sz := Nat.mul_le_mul_right _ hi
      rw [Nat.add_mul] at this
      omega
    simp [List.getElem?_take, h1]⟩
instance Arr.one {v : Value} {α : Type} {enc : α → List Value} {sz : Nat} {h : PHeap} {xs : List α} [s : Arr v enc sz h xs] : One v := ⟨by
  obtain ⟨_, _, a, c, rfl, _⟩ := s.pf
  exact ⟨rfl, rfl⟩⟩
theorem Arr.le {v : Value} {α : Type} {enc : α → List Value} {sz : Nat} {h : PHeap} {xs : List α} (s : Arr v enc sz h xs) : xs.length ≤ 140737488355328 := s.pf.2.1.1
theorem OArr.nil {α : Type} {enc : α → List Value} {sz T : Nat} (he : ∀ x, (enc x).length = sz) : OArr (.slice none 0 0) enc sz T emp ([] : List α) := ⟨he, by simp, .inl ⟨rfl, rfl, rfl⟩⟩
theorem Arr.nil {α : Type} {enc : α → List Value} {sz : Nat} {h : PHeap} (he : ∀ x, (enc x).length = sz) : Arr (.slice none 0 0) enc sz h ([] : List α) :=
  ⟨he, by simp, none, 0, rfl, by simp, fun _ => rfl, fun h => by simp at h⟩
/-- A larger heap reads the same. -/
def leH (h g : PHeap) : Prop := ∀ b o, h b = some o → g b = some o
theorem Arr.le_heap {v : Value} {α : Type} {enc : α → List Value} {sz : Nat} {h g : PHeap} {xs : List α} (s : Arr v enc sz h xs) (hl : leH h g) : Arr v enc sz g xs := ⟨by
  obtain ⟨he, hm, a, c, hv, hle, hn, hc⟩ := s.pf
  refine ⟨he, hm, a, c, hv, hle, hn, fun hp => ?_⟩
  obtain ⟨b, k, cs, T, fr, ha, hb, hcs⟩ := hc hp
  exact ⟨b, k, cs, T, fr, ha, hl b _ hb, hcs⟩⟩
theorem leH.refl (h : PHeap) : leH h h := fun _ _ h => h

/-! ### what a state may be weakened to -/
class Wk (o o' : List PHeap) : Prop where
  pf : ∃ m l, (List.replicate m emp ++ o).Perm (o' ++ l)
instance (priority := low) Wk.nil (o : List PHeap) : Wk o [] := ⟨0, o, List.Perm.refl _⟩
instance (priority := high) Wk.emp (o o' : List PHeap) [p : Wk o o'] : Wk o (emp :: o') := ⟨let ⟨m, l, h⟩ := p.pf; ⟨m + 1, l, by rw [List.replicate_succ]; exact h.cons X.emp⟩⟩
instance Wk.cons (h : PHeap) (o o1 o' : List PHeap) [t : Take h o o1] [p : Wk o1 o'] : Wk o (h :: o') :=
  ⟨let ⟨m, l, hp⟩ := p.pf
   ⟨m, l, ((t.pf.append_left _).trans List.perm_middle).trans (hp.cons h)⟩⟩
theorem Sep.emp {o r : List PHeap} {w : World} (s : Sep o r w) : ∀ m, Sep (List.replicate m emp ++ o) r w
  | 0 => s
  | m + 1 => by
    have s' := Sep.emp s m
    rw [List.replicate_succ]
    exact ⟨List.pairwise_cons.2 ⟨fun h _ => emp_disj h, s'.pw⟩, fun h hh => by
      rcases List.mem_cons.1 hh with rfl | hh
      · exact fun g _ => emp_disj g
      · exact s'.dr h hh, fun h hh => by
      rcases List.mem_cons.1 hh with rfl | hh
      · intro b o hb; cases hb
      · exact s'.so h hh, s'.sr, fun h hh => by
      rcases List.mem_cons.1 hh with rfl | hh
      · rfl
      · exact s'.no h hh, s'.sm⟩
theorem Wk.sep {o o' r : List PHeap} {w : World} (p : Wk o o') (s : Sep o r w) : Sep o' r w :=
  let ⟨m, _, hp⟩ := p.pf
  ((s.emp m).perm hp).left

theorem Wk.sepD {o o' r : List PHeap} {D : PHeap} {w : World} (p : Wk o o') (s : Sep (D :: o) r w) : Sep (D :: o') r w :=
  let ⟨m, l, hp⟩ := p.pf
  have h1 : (List.replicate m X.emp ++ D :: o).Perm ((D :: o') ++ l) := List.perm_middle.trans (hp.cons D)
  ((s.emp m).perm h1).left
/-! ### the place of an element -/
def pat (v : Value) (sz i off : Nat) : Value := match v with
  | .slice (some a) _ _ => .pointer (some (a.add (i * sz + off)))
  | _ => undef
theorem Arr.at' {v : Value} {α : Type} {enc : α → List Value} {sz : Nat} {h : PHeap} {xs : List α} (s : Arr v enc sz h xs) {i : Nat} (hi : i < xs.length) :
    ∃ b k cs T fr c, v = .slice (some ⟨b, k, none⟩) xs.length c ∧ h b = some (.cells cs T fr) ∧ (∀ off, pat v sz i off = ptr b (k + (i * sz + off))) ∧
      ∀ j, j < sz → cs[k + (i * sz + j)]? = (enc xs[i])[j]? := by
  obtain ⟨he, hm, a, c, rfl, hle, _, hc⟩ := s.pf
  obtain ⟨b, k, cs, T, fr, rfl, hb, hcs⟩ := hc (by omega)
  refine ⟨b, k, cs, T, fr, c, rfl, hb, fun off => by simp [pat, add_none], fun j hj => ?_⟩
  have := hcs i j hi hj
  rw [List.getElem?_eq_getElem hi] at this
  simpa [Nat.add_assoc] using this
theorem getD_of {α : Type} [Inhabited α] {xs : List α} {i : Nat} (hi : i < xs.length) : xs.getD i default = xs[i] := by simp [hi]

section
variable {P : Program} {ops : Array Oper} {e : Env} {o r : List PHeap} {d : Option Tmp} {ty : TypeId} {pos : String} {aft : Array Edge}
variable {α : Type} {enc : α → List Value} {sz : Nat} {h : PHeap} {xs : List α} {v : Value}
theorem Q.len {t : TypeId} {el : TypeId} [u : Und P t (.slice el)] {x : Operand} (hx : ev e x = some v) [s : Arr v enc sz h xs] :
    Quiet P ops ⟨d, .call ⟨.builtin .len, #[x], #[t]⟩, ty, pos, aft, none⟩ e o r (.int .i64 xs.length) := .mk fun a w he _ => by
  obtain ⟨_, _, ad, c, rfl, _⟩ := s.pf
  have hx' := ev_rel he hx
  simp only [execOp, resolve, List.map_toArray, List.map_cons, List.map_nil, hx']
  rw [bind_ok (a := _) (w1 := w) rfl]
  simp only [invoke, builtin]
  refine run_val ?_
  unfold Builtin.len_
  simp only [List.getElem?_toArray, List.getElem?_cons_zero]
  rw [bind_ok (u.pf w)]
  rfl
theorem Q.ix {t el : TypeId} [u : Und P t (.slice el)] [z : TySize P el sz] {x y : Operand} {k : IntKind} {n : Int} {i : Nat} (hx : ev e x = some v) (hy : ev e y = some (.int k n))
    [s : Arr v enc sz h xs] [ix : Idx n i] (h0 : 0 ≤ n) (h1 : n < xs.length) : Quiet P ops ⟨d, .indexAddr t x y, ty, pos, aft, none⟩ e o r (pat v sz i 0) := .mk fun a w he _ => by
  have hn := ix.pf h0
  subst hn
  obtain ⟨b, kk, cs, T, fr, c, hv, _, hp, _⟩ := s.at' (i := i) (by omega)
  rw [hp]
  subst hv
  simp only [execOp, ev_rel he hx, ev_rel he hy]
  refine run_val ?_
  unfold Instr.indexAt
  have e1 : (asIntOf (.int k (i : Int))).run P w = .ok (k, (i : Int)) w := rfl
  rw [bind_ok e1]
  simp only
  rw [bind_ok (u.pf w)]
  simp only
  rw [bind_ok (a := (some (⟨b, kk, none⟩ : Addr), xs.length, el)) (w1 := w) rfl]
  rw [bind_ok (u.pf w)]
  simp only
  rw [if_pos ⟨h0, h1⟩]
  rw [bind_ok (z.pf w)]
  simp [add_none, pure, Sem.run]
theorem Q.fieldP {s' f off n : Nat} [fl : Fld P s' f off] {x : Operand} {i k : Nat} (hx : ev e x = some (pat v sz i k)) [s : Arr v enc sz h xs] (hi : i < xs.length) :
    Quiet P ops ⟨d, .fieldAddr s' x f, ty, pos, aft, none⟩ e o r (pat v sz i (k + off)) := .mk fun a w he _ => by
  obtain ⟨b, kk, cs, T, fr, c, hv, _, hp, _⟩ := s.at' hi
  have hx' := ev_rel he hx
  rw [hp] at hx'
  rw [hp]
  simp only [execOp, hx']
  have := run_val (fl.pf b (kk + (i * sz + k)) w)
  simpa [Nat.add_assoc] using this
theorem Q.ldE [Inhabited α] {t : TypeId} [g : IsAgg P t false] {x : Operand} {i k : Nat} {u : Value} (hx : ev e x = some (pat v sz i k)) [s : Arr v enc sz h xs] [m : InM h o r] (hi : i < xs.length)
    (hu : (enc (xs.getD i default))[k]? = some u) : Quiet P ops ⟨d, .load t x, ty, pos, aft, none⟩ e o r u := .mk fun a w he hr => by
  obtain ⟨b, kk, cs, T, fr, c, hv, hb, hp, hc⟩ := s.at' hi
  have hx' := ev_rel he hx
  rw [hp] at hx'
  simp only [execOp, hx']
  rw [getD_of hi] at hu
  have hk : k < sz := by rw [← s.pf.1 xs[i]]; exact (List.getElem?_eq_some_iff.1 hu).1
  refine run_val (run_loadVar ?_)
  have hh : w.heap[b]? = some (.cells cs T fr) := by
    rcases m.pf with h1 | h1
    · exact hr.1 h h1 b _ hb
    · exact hr.2 h h1 b _ hb
  simp only [World.cell?, hh]
  rw [if_neg (by simp), hc k hk, hu]
theorem Q.ldEA [Inhabited α] {t : TypeId} [g : IsAgg P t true] {n : Nat} [z : TySize P t n] {x : Operand} {i k : Nat} (us : List Value) (hx : ev e x = some (pat v sz i k)) [s : Arr v enc sz h xs] [m : InM h o r]
    (hi : i < xs.length) (hu : ((enc (xs.getD i default)).drop k).take n = us) (hl : us.length = n) : Quiet P ops ⟨d, .load t x, ty, pos, aft, none⟩ e o r (.agg us.toArray) := .mk fun a w he hr => by
  obtain ⟨b, kk, cs, T, fr, c, hv, hb, hp, hc⟩ := s.at' hi
  have hx' := ev_rel he hx
  rw [hp] at hx'
  simp only [execOp, hx']
  rw [getD_of hi] at hu
  refine run_val (run_loadVarA hl ?_)
  have hh : w.heap[b]? = some (.cells cs T fr) := by
    rcases m.pf with h1 | h1
    · exact hr.1 h h1 b _ hb
    · exact hr.2 h h1 b _ hb
  intro j hj
  have hle : k + n ≤ sz := by
    rw [← s.pf.1 xs[i], ← hl, ← hu]
    simp only [List.length_take, List.length_drop]
    by_cases h1 : k ≤ (enc xs[i]).length
    · omega
    · exfalso
      have h2 : us.length = 0 := by rw [← hu]; simp; omega
      omega
  simp only [World.cell?, hh]
  rw [if_neg (by simp)]
  have := hc (k + j) (by omega)
  rw [← hu]
  simp only [List.getElem?_take, List.getElem?_drop, hj, if_true]
  rw [← this]
  congr 1
  omega
end
end Go.X
