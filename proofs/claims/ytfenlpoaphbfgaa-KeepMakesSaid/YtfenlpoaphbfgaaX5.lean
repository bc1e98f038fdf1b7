/- New variables, stores into variables, calls. No condition. -/
import Derived.Test.YtfenlpoaphbfgaaX4
set_option linter.unusedSimpArgs false
set_option linter.unusedVariables false
namespace Go.X

/-- Where one heap is replaced by another of the same blocks. -/
theorem Sep.swap {h h' : PHeap} {o r : List PHeap} {w w' : World} (s : Sep (h :: o) r w) (hd : ∀ b, h b = none → h' b = none) (hs : sub h' w')
    (hk : ∀ b, h b = none → w'.heap[b]? = w.heap[b]?) (hn : h'.m = none) (hmt : mt w' = mt w) : Sep (h' :: o) r w' := by
  have key : ∀ g, Disj h g → sub g w → sub g w' := fun g dg sg b ob hb => by
    rw [hk b, sg b ob hb]
    rcases dg b with h1 | h1
    · exact h1
    · rw [h1] at hb; cases hb
  have kd : ∀ g, Disj h g → Disj h' g := fun g dg b => by
    rcases dg b with h1 | h1
    · exact .inl (hd b h1)
    · exact .inr h1
  have hp := List.pairwise_cons.1 s.pw
  refine ⟨List.pairwise_cons.2 ⟨fun g hg => kd g (hp.1 g hg), hp.2⟩, ?_, ?_, ?_, ?_, fun g hg m hm => hmt.trans (s.sm g hg m hm)⟩
  · intro x hx g hg
    rcases List.mem_cons.1 hx with rfl | hx
    · exact kd g (s.dr h List.mem_cons_self g hg)
    · exact s.dr x (List.mem_cons_of_mem _ hx) g hg
  · intro x hx
    rcases List.mem_cons.1 hx with rfl | hx
    · exact hs
    · exact key x (hp.1 x hx) (s.so x (List.mem_cons_of_mem _ hx))
  · exact fun g hg => key g (s.dr h List.mem_cons_self g hg) (s.sr g hg)
  · intro x hx
    rcases List.mem_cons.1 hx with rfl | hx
    · exact hn
    · exact s.no x (List.mem_cons_of_mem _ hx)

/-- One block of the list is turned. -/
class Upd (b k : Nat) (vs : List Value) (o : List PHeap) (o' : outParam (List PHeap)) : Prop where
  pf : ∃ cs T o1, o.Perm (blk b cs T :: o1) ∧ (blk b (cs.take k ++ vs ++ cs.drop (k + vs.length)) T :: o1).Perm o' ∧ k + vs.length ≤ cs.length
instance (priority := high) Upd.head {b k : Nat} {vs cs cs' : List Value} {T : TypeId} {o : List PHeap} [s : SetAt k vs cs cs'] : Upd b k vs (blk b cs T :: o) (blk b cs' T :: o) :=
  ⟨cs, T, o, List.Perm.refl _, by rw [s.pf.1], s.pf.2⟩
instance Upd.tail {b k : Nat} {vs : List Value} {g : PHeap} {o o' : List PHeap} [t : Upd b k vs o o'] : Upd b k vs (g :: o) (g :: o') :=
  ⟨let ⟨cs, T, o1, h1, h2, h3⟩ := t.pf
   ⟨cs, T, g :: o1, (h1.cons g).trans (List.Perm.swap _ _ _), (List.Perm.swap _ _ _).trans (h2.cons g), h3⟩⟩

theorem run_store {P : Program} {w : World} {a : Addr} {v : Value} {x : Value} (ho : one v = true) (hc : w.cell? a = some x) (hf : w.frozen? a = false) :
    (store a v).run P w = .ok () (w.setCell a v) := by
  cases v <;> simp [one] at ho <;> simp [store, Sem.run, hc, hf]
theorem run_storeCells {P : Program} {b k : Nat} {T : TypeId} : ∀ (vs : List Value) (i : Nat) (w : World) (cs : List Value), (∀ v ∈ vs, one v = true) →
    w.heap[b]? = some (.cells cs.toArray T (0, 0)) → k + i + vs.length ≤ cs.length →
    ∃ w', (storeCells ⟨b, k, none⟩ vs i).run P w = .ok () w' ∧ w'.heap[b]? = some (.cells (cs.take (k + i) ++ vs ++ cs.drop (k + i + vs.length)).toArray T (0, 0)) ∧
      (∀ x, x ≠ b → w'.heap[x]? = w.heap[x]?) ∧ mt w' = mt w
  | [], i, w, cs, _, hh, hl => ⟨w, rfl, by simpa using hh, fun _ _ => rfl, rfl⟩
  | v :: vs, i, w, cs, ho, hh, hl => by
    simp only [List.length_cons] at hl
    have hlt : k + i < cs.length := by omega
    have hb : b < w.heap.size := (Array.getElem?_eq_some_iff.1 hh).1
    have hcell : w.cell? ⟨b, k + i, none⟩ = some (cs[k + i]'hlt) := by simp [World.cell?, hh, hlt]
    have hfr : w.frozen? ⟨b, k + i, none⟩ = false := by simp [World.frozen?, hh]
    have hh' : (w.setCell ⟨b, k + i, none⟩ v).heap[b]? = some (.cells (cs.set (k + i) v).toArray T (0, 0)) := by
      simp only [World.setCell, Array.getElem?_modify, hh]
      simp
    have hk' : ∀ x, x ≠ b → (w.setCell ⟨b, k + i, none⟩ v).heap[x]? = w.heap[x]? := fun x hx => by
      simp only [World.setCell, Array.getElem?_modify]
      rw [if_neg (Ne.symm hx)]
    obtain ⟨w', h1, h2, h3, h4⟩ := run_storeCells (b := b) (k := k) (T := T) vs (i + 1) (w.setCell ⟨b, k + i, none⟩ v) (cs.set (k + i) v) (fun u hu => ho u (List.mem_cons_of_mem _ hu)) hh' (by rw [List.length_set]; omega)
    refine ⟨w', ?_, ?_, fun x hx => (h3 x hx).trans (hk' x hx), h4.trans rfl⟩
    · unfold storeCells
      rw [add_none, bind_ok (run_store (ho v List.mem_cons_self) hcell hfr)]
      exact h1
    · rw [h2]
      congr 3
      apply List.ext_getElem?
      intro j
      simp only [List.getElem?_append, List.length_append, List.length_take, List.length_set, List.length_cons, List.getElem?_take, List.getElem?_drop, List.getElem?_set]
      have e1 : min (k + (i + 1)) cs.length = k + i + 1 := by omega
      have e2 : min (k + i) cs.length = k + i := by omega
      rw [e1, e2]
      by_cases c1 : j < k + i
      · simp only [show j < k + i + 1 + vs.length by omega, if_true, show j < k + i + 1 by omega, show j < k + (i + 1) by omega, show ¬ k + i = j by omega, if_false,
          show j < k + i + (vs.length + 1) by omega, c1]
      · by_cases c2 : j = k + i
        · subst c2
          simp only [show k + i < k + i + 1 + vs.length by omega, if_true, show k + i < k + i + 1 by omega, show k + i < k + (i + 1) by omega, hlt,
            show k + i < k + i + (vs.length + 1) by omega, Nat.lt_irrefl, if_false, Nat.sub_self, List.getElem?_cons_zero]
        · by_cases c3 : j < k + i + 1 + vs.length
          · obtain ⟨m, hm⟩ : ∃ m, j = k + i + 1 + m := ⟨j - (k + i + 1), by omega⟩
            subst hm
            simp only [c3, if_true, show ¬ k + i + 1 + m < k + i + 1 by omega, if_false, show k + i + 1 + m - (k + i + 1) = m by omega,
              show k + i + 1 + m < k + i + (vs.length + 1) by omega, show ¬ k + i + 1 + m < k + i by omega, show k + i + 1 + m - (k + i) = m + 1 by omega, List.getElem?_cons_succ]
          · obtain ⟨m, hm⟩ : ∃ m, j = k + i + 1 + vs.length + m := ⟨j - (k + i + 1 + vs.length), by omega⟩
            subst hm
            simp only [c3, if_false, show ¬ k + i + 1 + vs.length + m < k + i + (vs.length + 1) by omega,
              show ¬ k + i = k + (i + 1) + vs.length + (k + i + 1 + vs.length + m - (k + i + 1 + vs.length)) by omega]
            congr 1
            omega

section
variable {P : Program} {ops : Array Oper} {e : Env} {o r : List PHeap} {d : Option Tmp} {ty : TypeId} {pos : String} {aft : Array Edge}
theorem blk_none {b x : Nat} {cs : List Value} {T : TypeId} (h : blk b cs T x = none) : x ≠ b := by
  rintro rfl
  simp [blk, sing] at h
theorem none_blk {b x : Nat} {cs : List Value} {T : TypeId} (h : x ≠ b) : blk b cs T x = none := by simp [blk, sing, h]
theorem Stp0.st {t : TypeId} {n : Nat} [s : TySize P t n] {x y : Operand} {b k : Nat} {v : Value} {vs : List Value} {o' : List PHeap} (hx : ev e x = some (ptr b k)) (hy : ev e y = some v)
    [hc : Cells v vs] [ho : Ones vs] (hl : vs.length = n) [u : Upd b k vs o o'] :
    Stp0 P ops ⟨d, .store t x y, ty, pos, aft, none⟩ e o r (fun v o2 => v = undef ∧ o2 = o') := fun a w he hs => by
  obtain ⟨cs, T, o1, p1, p2, hle⟩ := u.pf
  have hs1 := hs.perm p1
  have hh : w.heap[b]? = some (.cells cs.toArray T (0, 0)) := hs1.so _ List.mem_cons_self b _ (sing_self _ _)
  obtain ⟨w', h1, h2, h3, h4⟩ := run_storeCells (P := P) (b := b) (k := k) vs 0 w cs ho.pf hh (by omega)
  have hrun : (Instr.storeAt t (ptr b k) v).run P w = .ok () w' := by
    unfold Instr.storeAt
    have e1 : (Instr.sureAddr (ptr b k)).run P w = .ok ⟨b, k, none⟩ w := rfl
    rw [bind_ok e1]
    unfold storeVar
    rw [bind_ok (s.pf w), hc.pf, if_neg (by simp [hl])]
    exact h1
  unfold Does
  simp only [Region.wanted, if_true, execOp, ev_rel he hx, ev_rel he hy, run_unit hrun]
  refine ⟨o', ⟨trivial, rfl⟩, (Sep.swap hs1 ?_ ?_ ?_ rfl h4).perm p2⟩
  · exact fun x hx => none_blk (blk_none hx)
  · intro x ob hb
    obtain ⟨rfl, rfl⟩ := sing_some hb
    simpa using h2
  · exact fun x hx => h3 x (blk_none hx)
theorem Stp.st {t : TypeId} {n : Nat} [s : TySize P t n] {x y : Operand} {b k : Nat} {v : Value} {vs : List Value} {o' : List PHeap} (hx : ev e x = some (ptr b k)) (hy : ev e y = some v)
    [hc : Cells v vs] [ho : Ones vs] (hl : vs.length = n) [u : Upd b k vs o o'] :
    Stp P ops ⟨d, .store t x y, ty, pos, aft, none⟩ e o r (fun v o2 => v = undef ∧ o2 = o') := fun D a w he hs =>
  (Stp0.st (o' := D :: o') hx hy hl a w he hs).mono fun v w' ⟨o2, ⟨h1, h2⟩, hs'⟩ => ⟨o2, ⟨o', ⟨h1, rfl⟩, by rw [h2]⟩, hs'⟩
theorem Makes.alloc {t : TypeId} {zs : List Value} [z : Zero P t zs] : Makes P ops ⟨d, .alloc t, ty, pos, aft, none⟩ e (.cells zs.toArray t (0, 0)) (fun b => ptr b 0) := fun a w _ => by
  obtain ⟨zv, h1, h2⟩ := z.pf
  refine ⟨rfl, ?_⟩
  simp only [execOp]
  refine run_val ?_
  unfold Instr.alloc
  rw [bind_ok (h1 w)]
  simp only [newVar, newRow, newObj, h2]
  rfl
theorem Makes.box {t : TypeId} {x : Operand} {v : Value} {cs : List Value} (hx : ev e x = some v) [hc : Cells v cs] :
    Makes P ops ⟨d, .box t x, ty, pos, aft, none⟩ e (.cells cs.toArray t (0, 0)) (fun b => ptr b 0) := fun a w he => by
  refine ⟨rfl, ?_⟩
  simp only [execOp, ev_rel he hx]
  refine run_val ?_
  simp only [Instr.box, newVar, newRow, newObj, hc.pf]
  rfl
/-- A call of a function that is known by its number. -/
theorem Stp0.call {g : FuncId} {x : Operand} {l : List Operand} {tys : Array TypeId} {fst vs cap A : List Value} {Hm Hr : List PHeap} {R : Value → List PHeap → Prop} {o1 : List PHeap}
    (hc : ∀ args w, (callFunc g args).run P w = .ok (.enter g args) w) (hx : ev e x = some (.func (.func g) fst.toArray cap.toArray)) (hl : evs e l = some vs) (hA : fst ++ vs ++ cap = A)
    (hS : Spec P g A.toArray Hm Hr R) [t : Takes Hm o o1] [al : AllIn Hr o1 r] :
    Stp0 P ops ⟨d, .call ⟨.value x, l.toArray, tys⟩, ty, pos, aft, none⟩ e o r (fun v o2 => ∃ hs, R v hs ∧ o2 = hs ++ o1) := fun a w he hs => by
  have hrun : (execOp (evA a) (⟨d, .call ⟨.value x, l.toArray, tys⟩, ty, pos, aft, none⟩ : Oper)).run P w = .ok (.enter g A.toArray) w := by
    simp only [execOp, resolve, ev_rel he hx, List.map_toArray, evs_rel he hl]
    have e1 : (Deferred.ofValue (.func (.func g) fst.toArray cap.toArray) vs.toArray).run P w = .ok { target := .fn (.func g) cap.toArray, args := fst.toArray ++ vs.toArray } w := rfl
    rw [bind_ok e1]
    simp only [invoke]
    rw [hc]
    simp [← hA]
  unfold Does
  simp only [Region.wanted, if_true, hrun]
  refine (hS o1 r w (hs.perm t.pf) al.pf).mono ?_
  rintro e' w' ⟨v, hs', rfl, hR, hS'⟩
  exact ⟨v, rfl, hs' ++ o1, ⟨hs', hR, rfl⟩, hS'⟩
theorem Takes.more {hs o o1 : List PHeap} (t : Takes hs o o1) (D : PHeap) : Takes hs (D :: o) (D :: o1) := ⟨(t.pf.cons D).trans List.perm_middle.symm⟩
theorem AllIn.more {hs o r : List PHeap} (t : AllIn hs o r) (D : PHeap) : AllIn hs (D :: o) r := ⟨fun h hh => orMap (t.pf h hh) (List.mem_cons_of_mem _) id⟩
theorem Stp.call {g : FuncId} {x : Operand} {l : List Operand} {tys : Array TypeId} {fst vs cap A : List Value} {Hm Hr : List PHeap} {R : Value → List PHeap → Prop} {o1 : List PHeap}
    (hc : ∀ args w, (callFunc g args).run P w = .ok (.enter g args) w) (hx : ev e x = some (.func (.func g) fst.toArray cap.toArray)) (hl : evs e l = some vs) (hA : fst ++ vs ++ cap = A)
    (hS : Spec P g A.toArray Hm Hr R) [t : Takes Hm o o1] [al : AllIn Hr o1 r] :
    Stp P ops ⟨d, .call ⟨.value x, l.toArray, tys⟩, ty, pos, aft, none⟩ e o r (fun v o2 => ∃ hs, R v hs ∧ o2 = hs ++ o1) := fun D a w he hs =>
  (Stp0.call (t := t.more D) (al := al.more D) hc hx hl hA hS a w he hs).mono fun v w' ⟨o2, ⟨hs2, h1, h2⟩, hs'⟩ => ⟨o2, ⟨hs2 ++ o1, ⟨hs2, h1, rfl⟩, by rw [h2]; exact List.perm_middle⟩, hs'⟩
end

section
variable {c : Cx} {ops : Array Oper} {rest : List Oper} {k : List Item} {e : Env} {o r : List PHeap} {d : Nat} {dd : Option Tmp} {ty : TypeId} {pos : String} {aft : Array Edge}
theorem XO.st {t : TypeId} {n : Nat} [s : TySize c.P t n] {x y : Operand} {b i : Nat} {v : Value} {vs : List Value} {o' : List PHeap} (hx : ev e x = some (ptr b i)) (hy : ev e y = some v)
    [hc : Cells v vs] [ho : Ones vs] (hl : vs.length = n) [u : Upd b i vs o o'] (h : XO c ops rest k e o' r) :
    XO c ops (⟨none, .store t x y, ty, pos, aft, none⟩ :: rest) k e o r := XO.s0 (Stp.st hx hy hl) fun _ _ ⟨_, h2⟩ => by subst h2; exact h
theorem XO.alloc {t : TypeId} {zs : List Value} [z : Zero c.P t zs] (h : ∀ b, XO c ops rest k ((d, some (ptr b 0)) :: e) (blk b zs t :: o) r) :
    XO c ops (⟨some d, .alloc t, ty, pos, aft, none⟩ :: rest) k e o r := XO.m Makes.alloc h
theorem XO.box {t : TypeId} {x : Operand} {v : Value} {cs : List Value} (hx : ev e x = some v) [hc : Cells v cs] (h : ∀ b, XO c ops rest k ((d, some (ptr b 0)) :: e) (blk b cs t :: o) r) :
    XO c ops (⟨some d, .box t x, ty, pos, aft, none⟩ :: rest) k e o r := XO.m (Makes.box hx) h
/-- A call. -/
theorem XO.call {g : FuncId} {x : Operand} {l : List Operand} {tys : Array TypeId} {fst vs cap A : List Value} {Hm Hr : List PHeap} {R : Value → List PHeap → Prop} {o1 : List PHeap}
    (hc : ∀ args w, (callFunc g args).run c.P w = .ok (.enter g args) w) (hx : ev e x = some (.func (.func g) fst.toArray cap.toArray)) (hl : evs e l = some vs) (hA : fst ++ vs ++ cap = A)
    (hS : Spec c.P g A.toArray Hm Hr R) [t : Takes Hm o o1] [al : AllIn Hr o1 (c.B :: r)] (h : ∀ v hs, R v hs → XO c ops rest k ((d, some v) :: e) (hs ++ o1) r) :
    XO c ops (⟨some d, .call ⟨.value x, l.toArray, tys⟩, ty, pos, aft, none⟩ :: rest) k e o r := XO.s (Stp.call hc hx hl hA hS) fun v o2 ⟨hs, hR, h2⟩ => by subst h2; exact h v hs hR
end
/-- A call of a function without results has no temporary. -/
theorem XO.call0 {c : Cx} {ops : Array Oper} {rest : List Oper} {k : List Item} {e : Env} {o r : List PHeap} {ty : TypeId} {pos : String} {aft : Array Edge}
    {g : FuncId} {x : Operand} {l : List Operand} {tys : Array TypeId} {fst vs cap A : List Value} {Hm Hr : List PHeap} {R : Value → List PHeap → Prop} {o1 : List PHeap}
    (hc : ∀ args w, (callFunc g args).run c.P w = .ok (.enter g args) w) (hx : ev e x = some (.func (.func g) fst.toArray cap.toArray)) (hl : evs e l = some vs) (hA : fst ++ vs ++ cap = A)
    (hS : Spec c.P g A.toArray Hm Hr R) [t : Takes Hm o o1] [al : AllIn Hr o1 (c.B :: r)] (h : ∀ v hs, R v hs → XO c ops rest k e (hs ++ o1) r) :
    XO c ops (⟨none, .call ⟨.value x, l.toArray, tys⟩, ty, pos, aft, none⟩ :: rest) k e o r := XO.s0 (Stp.call hc hx hl hA hS) fun v o2 ⟨hs, hR, h2⟩ => by subst h2; exact h v hs hR
end Go.X
