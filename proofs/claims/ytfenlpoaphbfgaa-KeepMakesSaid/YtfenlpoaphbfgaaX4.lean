/- Boxes: variables and structs in memory; calls. No condition. -/
import Derived.Test.YtfenlpoaphbfgaaX3
set_option linter.unusedSimpArgs false
set_option linter.unusedVariables false
namespace Go.X

abbrev ptr (b k : Nat) : Value := .pointer (some ⟨b, k, none⟩)
theorem add_none (b k n : Nat) : (⟨b, k, none⟩ : Addr).add n = ⟨b, k + n, none⟩ := by
  unfold Addr.add; split <;> simp_all

/-! ### values of one cell, cells of a value -/
def one : Value → Bool
  | .agg _ | .tuple _ => false
  | _ => true
class One (v : Value) : Prop where
  pf : v.cells = #[v] ∧ one v = true
instance {k n} : One (.int k n) := ⟨rfl, rfl⟩
instance {b} : One (.bool b) := ⟨rfl, rfl⟩
instance {a n c} : One (.slice a n c) := ⟨rfl, rfl⟩
instance {a} : One (.pointer a) := ⟨rfl, rfl⟩
instance {f a b} : One (.func f a b) := ⟨rfl, rfl⟩
instance : One .nilFunc := ⟨rfl, rfl⟩
instance {s} : One (.string s) := ⟨rfl, rfl⟩
instance {s} : One (.map s) := ⟨rfl, rfl⟩
instance {t v} : One (.iface t v) := ⟨rfl, rfl⟩
instance : One .nilIface := ⟨rfl, rfl⟩
class Ones (vs : List Value) : Prop where
  pf : ∀ v ∈ vs, one v = true
instance : Ones [] := ⟨fun _ h => by cases h⟩
instance {v vs} [a : One v] [b : Ones vs] : Ones (v :: vs) := ⟨fun u hu => by
  rcases List.mem_cons.1 hu with rfl | hu
  · exact a.pf.2
  · exact b.pf u hu⟩
class Cells (v : Value) (cs : outParam (List Value)) : Prop where
  pf : v.cells = cs.toArray
instance (priority := high) {cs : List Value} : Cells (.agg cs.toArray) cs := ⟨rfl⟩
instance (priority := low) {v} [a : One v] : Cells v [v] := ⟨a.pf.1⟩

class SetAt (k : Nat) (vs cs : List Value) (cs' : outParam (List Value)) : Prop where
  pf : cs.take k ++ vs ++ cs.drop (k + vs.length) = cs' ∧ k + vs.length ≤ cs.length
instance (priority := high) SetAt.nil {cs : List Value} : SetAt 0 [] cs cs := ⟨by simp⟩
instance SetAt.here {v c : Value} {vs cs cs' : List Value} [t : SetAt 0 vs cs cs'] : SetAt 0 (v :: vs) (c :: cs) (v :: cs') := ⟨by
  have := t.pf
  simp only [List.take_zero, List.nil_append, Nat.zero_add] at this
  simp only [List.take_zero, List.nil_append, Nat.zero_add, List.length_cons, List.drop_succ_cons, List.cons_append, this.1]
  exact ⟨trivial, by omega⟩⟩
instance SetAt.next {k : Nat} {c : Value} {vs cs cs' : List Value} [t : SetAt k vs cs cs'] : SetAt (k + 1) vs (c :: cs) (c :: cs') := ⟨by
  have := t.pf
  rw [show k + 1 + vs.length = k + vs.length + 1 by omega]
  simp only [List.take_succ_cons, List.cons_append, List.drop_succ_cons, List.length_cons, this.1]
  exact ⟨trivial, by omega⟩⟩

/-! ### facts on types, one instance a type -/
class Zero (P : Program) (t : TypeId) (zs : outParam (List Value)) : Prop where
  pf : ∃ z, (∀ w, (zeroValue t).run P w = .ok z w) ∧ z.cells = zs.toArray
class Fld (P : Program) (s i : Nat) (off : outParam Nat) : Prop where
  pf : ∀ b k w, (Instr.fieldAt s (ptr b k) i).run P w = .ok (ptr b (k + off)) w
theorem Fld.of {P : Program} {s i : Nat} {fs : Array Field} {f : Field} {n : Nat} (u : Und P s (.struct fs)) (hf : fs[i]? = some f) (t : TySize P f.type n) (hn : n ≠ 0) {off : Nat} (ho : f.offset = off) : Fld P s i off :=
  ⟨fun b k w => by
    subst ho
    unfold Instr.fieldAt
    rw [bind_ok (u.pf w)]
    simp only [hf]
    have h1 : (Instr.sureAddr (ptr b k)).run P w = .ok ⟨b, k, none⟩ w := rfl
    rw [bind_ok h1]
    have h2 : (fieldPlace ⟨b, k, none⟩ f).run P w = .ok ⟨b, k + f.offset, none⟩ w := by
      unfold fieldPlace
      rw [bind_ok (t.pf w), if_neg hn, add_none]
      rfl
    rw [bind_ok h2]
    rfl⟩
/-- Where the parts of a struct or an array lie: offset and size. -/
class Places (P : Program) (t : TypeId) (pl : outParam (Nat → Option (Nat × Nat))) : Prop where
  pf : ∀ (parts : List (Nat × Value)) (z : Value) (cells : Array Value) (w : World), (∀ w, (zeroValue t).run P w = .ok z w) → Instr.fill pl z.cells parts = some cells →
    (Instr.build t parts.toArray).run P w = .ok (.agg cells) w

/-! ### blocks in the lists -/
class HasL (b : Nat) (o : List PHeap) (cs : outParam (List Value)) (T : outParam TypeId) : Prop where
  pf : blk b cs T ∈ o
instance (priority := high) HasL.head {b cs T o} : HasL b (blk b cs T :: o) cs T := ⟨List.mem_cons_self⟩
instance HasL.tail {b cs T g o} [t : HasL b o cs T] : HasL b (g :: o) cs T := ⟨List.mem_cons_of_mem _ t.pf⟩
class HasB (b : Nat) (o r : List PHeap) (cs : outParam (List Value)) (T : outParam TypeId) : Prop where
  pf : blk b cs T ∈ o ∨ blk b cs T ∈ r
instance HasB.own {b cs T o r} [t : HasL b o cs T] : HasB b o r cs T := ⟨.inl t.pf⟩
instance HasB.read {b cs T o r} [t : HasL b r cs T] : HasB b o r cs T := ⟨.inr t.pf⟩
theorem HasB.heap {b : Nat} {o r : List PHeap} {cs : List Value} {T : TypeId} (t : HasB b o r cs T) {w : World} (h : Rd o r w) : w.heap[b]? = some (.cells cs.toArray T (0, 0)) := by
  rcases t.pf with h1 | h1
  · exact h.1 _ h1 b _ (sing_self _ _)
  · exact h.2 _ h1 b _ (sing_self _ _)
theorem cell_of_heap {w : World} {b k : Nat} {cs : List Value} {T : TypeId} {fr : Nat × Nat} {v : Value} (h : w.heap[b]? = some (.cells cs.toArray T fr)) (hv : cs[k]? = some v) :
    w.cell? ⟨b, k, none⟩ = some v := by simp [World.cell?, h, hv]
theorem run_load {P : Program} {w : World} {a : Addr} {v : Value} (h : w.cell? a = some v) : (load a).run P w = .ok v w := by simp [load, Sem.run, h]
theorem run_loadCellsFrom {P : Program} {w : World} {b k : Nat} : ∀ (n i : Nat) (acc : Array Value) (vs : List Value), vs.length = n →
    (∀ j, j < n → w.cell? ⟨b, k + (i + j), none⟩ = vs[j]?) → (loadCellsFrom ⟨b, k, none⟩ i n acc).run P w = .ok (acc ++ vs.toArray) w
  | 0, i, acc, vs, hl, _ => by
    have : vs = [] := List.length_eq_zero_iff.1 hl
    subst this
    simp [loadCellsFrom, pure, Sem.run]
  | n + 1, i, acc, v :: vs, hl, h => by
    unfold loadCellsFrom
    have h0 := h 0 (by omega)
    simp only [Nat.add_zero, List.getElem?_cons_zero] at h0
    rw [add_none, bind_ok (run_load h0)]
    rw [run_loadCellsFrom n (i + 1) (acc.push v) vs (by simpa using hl) (fun j hj => by
      have := h (j + 1) (by omega)
      simp only [List.getElem?_cons_succ] at this
      rw [← this]
      congr 2
      omega)]
    simp
theorem run_loadVar {P : Program} {w : World} {b k : Nat} {t : TypeId} [g : IsAgg P t false] {v : Value} (h : w.cell? ⟨b, k, none⟩ = some v) :
    (loadVar t ⟨b, k, none⟩).run P w = .ok v w := by
  unfold loadVar
  rw [bind_ok (g.pf w)]
  exact run_load h
theorem run_loadVarA {P : Program} {w : World} {b k : Nat} {t : TypeId} [g : IsAgg P t true] {n : Nat} [s : TySize P t n] {vs : List Value} (hl : vs.length = n)
    (h : ∀ j, j < n → w.cell? ⟨b, k + j, none⟩ = vs[j]?) : (loadVar t ⟨b, k, none⟩).run P w = .ok (.agg vs.toArray) w := by
  unfold loadVar
  rw [bind_ok (g.pf w)]
  simp only [if_true]
  rw [bind_ok (s.pf w)]
  have := run_loadCellsFrom (P := P) (w := w) (b := b) (k := k) n 0 #[] vs hl (fun j hj => by rw [Nat.zero_add]; exact h j hj)
  rw [run_bind]
  unfold loadCells
  rw [this]
  simp [pure, Sem.run]
theorem cells_of_heap {w : World} {b k n : Nat} {cs vs : List Value} {T : TypeId} {fr : Nat × Nat} (h : w.heap[b]? = some (.cells cs.toArray T fr)) (hv : (cs.drop k).take n = vs) (hl : vs.length = n) :
    ∀ j, j < n → w.cell? ⟨b, k + j, none⟩ = vs[j]? := fun j hj => by
  subst hv
  simp [World.cell?, h, hj]

section
variable {P : Program} {ops : Array Oper} {e : Env} {o r : List PHeap} {d : Option Tmp} {ty : TypeId} {pos : String} {aft : Array Edge}
theorem Q.fieldAddr {s i off : Nat} [f : Fld P s i off] {x : Operand} {b k : Nat} (hx : ev e x = some (ptr b k)) :
    Quiet P ops ⟨d, .fieldAddr s x i, ty, pos, aft, none⟩ e o r (ptr b (k + off)) := .mk fun a w he _ => by
  simp only [execOp, ev_rel he hx]
  exact run_val (f.pf b k w)
theorem Q.nilCheck {x : Operand} {b k : Nat} (hx : ev e x = some (ptr b k)) : Quiet P ops ⟨d, .nilCheck x, ty, pos, aft, none⟩ e o r (ptr b k) :=
  .mk fun a w he _ => by simp only [execOp, ev_rel he hx]; rfl
theorem Q.ld {t : TypeId} [g : IsAgg P t false] {x : Operand} {b k : Nat} {cs : List Value} {T : TypeId} {v : Value} (hx : ev e x = some (ptr b k)) [hb : HasB b o r cs T] (hv : cs[k]? = some v) :
    Quiet P ops ⟨d, .load t x, ty, pos, aft, none⟩ e o r v := .mk fun a w he hr => by
  simp only [execOp, ev_rel he hx]
  exact run_val (run_loadVar (cell_of_heap (hb.heap hr) hv))
theorem Q.ldA {t : TypeId} [g : IsAgg P t true] {n : Nat} [s : TySize P t n] {x : Operand} {b k : Nat} {cs : List Value} {T : TypeId} (vs : List Value) (hx : ev e x = some (ptr b k))
    [hb : HasB b o r cs T] (hv : (cs.drop k).take n = vs) (hl : vs.length = n) :
    Quiet P ops ⟨d, .load t x, ty, pos, aft, none⟩ e o r (.agg vs.toArray) := .mk fun a w he hr => by
  simp only [execOp, ev_rel he hx]
  exact run_val (run_loadVarA hl (cells_of_heap (hb.heap hr) hv hl))
theorem ResL.cell {t : TypeId} [g : IsAgg P t true] {n : Nat} [s : TySize P t n] {x : Nat} {l : List ResultVar} {us : List Value} {b k : Nat} {cs : List Value} {T : TypeId} (vs : List Value)
    (hx : find e x = some (ptr b k)) [hb : HasB b o r cs T] (hv : (cs.drop k).take n = vs) (hl : vs.length = n) (h : ResL P o r e l us) : ResL P o r e (.cell x t :: l) (.agg vs.toArray :: us) :=
  ⟨_, _, _, rfl, hx, fun w hr => run_loadVarA hl (cells_of_heap (hb.heap hr) hv hl), h⟩
theorem ResL.cell1 {t : TypeId} [g : IsAgg P t false] {x : Nat} {l : List ResultVar} {us : List Value} {b k : Nat} {cs : List Value} {T : TypeId} {v : Value}
    (hx : find e x = some (ptr b k)) [hb : HasB b o r cs T] (hv : cs[k]? = some v) (h : ResL P o r e l us) : ResL P o r e (.cell x t :: l) (v :: us) :=
  ⟨_, _, _, rfl, hx, fun w hr => run_loadVar (cell_of_heap (hb.heap hr) hv), h⟩
theorem ResL.t {x : Nat} {l : List ResultVar} {us : List Value} {v : Value} (hx : find e x = some v) (h : ResL P o r e l us) : ResL P o r e (.tmp x :: l) (v :: us) := ⟨_, _, rfl, hx, h⟩
theorem ResL.n : ResL P o r e [] [] := rfl
/-- The parts of a literal. -/
inductive Fill (e : Env) (pl : Nat → Option (Nat × Nat)) : List (Nat × Operand) → List Value → List Value → Prop
  | n (cs : List Value) : Fill e pl [] cs cs
  | c {i : Nat} {x : Operand} {rest : List (Nat × Operand)} {cs cs2 : List Value} {v : Value} {us : List Value} (off m : Nat) (hx : ev e x = some v) [hc : Cells v us] (hp : pl i = some (off, m))
    (hm : us.length = m) {cs1 : List Value} [st : SetAt off us cs cs1] (h : Fill e pl rest cs1 cs2) : Fill e pl ((i, x) :: rest) cs cs2
theorem fold_set (us : List Value) : ∀ (cs : List Value) (off i : Nat), off + i + us.length ≤ cs.length →
    (us.zipIdx i).foldl (fun (a : Array Value) (p : Value × Nat) => a.setIfInBounds (off + p.2) p.1) cs.toArray = (cs.take (off + i) ++ us ++ cs.drop (off + i + us.length)).toArray := by
  induction us with
  | nil => intro cs off i h; simp
  | cons u us ih =>
    intro cs off i h
    simp only [List.zipIdx_cons, List.foldl_cons, List.setIfInBounds_toArray]
    rw [ih _ off (i + 1) (by simp at h ⊢; omega)]
    simp only [List.length_cons] at h
    congr 1
    apply List.ext_getElem?
    intro j
    simp only [List.getElem?_append, List.length_append, List.length_take, List.length_set, List.length_cons, List.getElem?_take, List.getElem?_drop, List.getElem?_set]
    have e1 : min (off + (i + 1)) cs.length = off + i + 1 := by omega
    have e2 : min (off + i) cs.length = off + i := by omega
    rw [e1, e2]
    by_cases h1 : j < off + i
    · have h2 : j < off + i + 1 := by omega
      simp only [show j < off + i + 1 + us.length by omega, if_true, h2, show j < off + (i + 1) by omega, show ¬ off + i = j by omega, if_false, show j < off + i + (us.length + 1) by omega, h1]
    · by_cases h2 : j = off + i
      · subst h2
        simp only [show off + i < off + i + 1 + us.length by omega, if_true, show off + i < off + i + 1 by omega, show off + i < off + (i + 1) by omega,
          show off + i < cs.length by omega, show off + i < off + i + (us.length + 1) by omega, Nat.lt_irrefl, if_false, Nat.sub_self, List.getElem?_cons_zero]
      · by_cases h3 : j < off + i + 1 + us.length
        · obtain ⟨m, hm⟩ : ∃ m, j = off + i + 1 + m := ⟨j - (off + i + 1), by omega⟩
          subst hm
          simp only [h3, if_true, show ¬ off + i + 1 + m < off + i + 1 by omega, if_false, show off + i + 1 + m - (off + i + 1) = m by omega,
            show off + i + 1 + m < off + i + (us.length + 1) by omega, show ¬ off + i + 1 + m < off + i by omega, show off + i + 1 + m - (off + i) = m + 1 by omega, List.getElem?_cons_succ]
        · obtain ⟨m, hm⟩ : ∃ m, j = off + i + 1 + us.length + m := ⟨j - (off + i + 1 + us.length), by omega⟩
          subst hm
          simp only [h3, if_false, show ¬ off + i + 1 + us.length + m < off + i + (us.length + 1) by omega,
            show ¬ off + i = off + (i + 1) + us.length + (off + i + 1 + us.length + m - (off + i + 1 + us.length)) by omega]
          congr 1
          omega
theorem Fill.run {pl : Nat → Option (Nat × Nat)} {a : Array Value} (he : ERel e a) : ∀ {l : List (Nat × Operand)} {cs cs2 : List Value}, Fill e pl l cs cs2 →
    Instr.fill pl cs.toArray (l.map fun (i, x) => (i, evA a x)) = some cs2.toArray := by
  intro l cs cs2 h
  induction h with
  | n cs => rfl
  | @c i x rest cs cs2 v us off m hx hc hp hm cs1 st h ih =>
    have hlt : off + m ≤ cs.length := by have := st.pf.2; omega
    have hcs1 := st.pf.1
    rw [hm] at hcs1
    subst hcs1
    simp only [List.map_cons, Instr.fill, hp, ev_rel he hx, hc.pf, List.size_toArray, hm]
    have := fold_set us cs off 0 (by omega)
    simp only [Nat.add_zero, hm] at this
    simp only [ne_eq, not_true_eq_false, gt_iff_lt, Bool.or_eq_true, decide_eq_true_eq, false_or]
    rw [if_neg (by simp; omega)]
    rw [show us.toArray.zipIdx = (us.zipIdx 0).toArray by simp]
    rw [← ih, ← this]
    congr 1
    simp
theorem Q.build {t : TypeId} {zs : List Value} [z : Zero P t zs] {pl : Nat → Option (Nat × Nat)} [p : Places P t pl] {l : List (Nat × Operand)} (cs : List Value) (h : Fill e pl l zs cs) :
    Quiet P ops ⟨d, .build t l.toArray, ty, pos, aft, none⟩ e o r (.agg cs.toArray) := .mk fun a w he _ => by
  simp only [execOp]
  obtain ⟨zv, h1, h2⟩ := z.pf
  have := h.run he
  refine run_val ?_
  simp only [List.map_toArray]
  exact p.pf _ zv _ w h1 (by rw [h2]; exact this)
end
end Go.X
