/- Guarded calls that only compute; guards as propositions. No condition. -/
import Derived.Test.YtfenlpoaphbfgaaX12
set_option linter.unusedSimpArgs false
set_option linter.unusedVariables false
namespace Go.X
inductive EvL (e : Env) : List Operand → List Value → Prop
  | n : EvL e [] []
  | c {x : Operand} {l : List Operand} {v : Value} {vs : List Value} (h : ev e x = some v) (r : EvL e l vs) : EvL e (x :: l) (v :: vs)
theorem EvL.rel {e : Env} {a : Array Value} (he : ERel e a) {l : List Operand} {vs : List Value} (h : EvL e l vs) : l.map (evA a) = vs := by
  induction h with
  | n => rfl
  | c h r ih => rw [List.map_cons, ev_rel he h, ih]
section
variable {P : Program} {ops : Array Oper} {e : Env} {o r : List PHeap} {d : Option Tmp} {ty : TypeId} {pos : String} {aft : Array Edge}
theorem Quiet.guardT {op : Op} {v : Value} {j : Nat} {b : Bool} {g : Nat} {p : Prop} (hj : (ops[j]?).bind (·.dst) = some g) (hg : find e g = some (.bool b)) [t : BoolP b p]
    (h : b = true → p → Quiet P ops ⟨d, op, ty, pos, aft, none⟩ e o r v) : Quiet P ops ⟨d, op, ty, pos, aft, some (j, true)⟩ e o r (lz b true v) :=
  Quiet.guard hj hg fun hb => h hb (t.pf.1 hb)
theorem Quiet.guardF {op : Op} {v : Value} {j : Nat} {b : Bool} {g : Nat} {p : Prop} (hj : (ops[j]?).bind (·.dst) = some g) (hg : find e g = some (.bool b)) [t : BoolP b p]
    (h : b = false → ¬ p → Quiet P ops ⟨d, op, ty, pos, aft, none⟩ e o r v) : Quiet P ops ⟨d, op, ty, pos, aft, some (j, false)⟩ e o r (lz b false v) :=
  Quiet.guard hj hg fun hb => h hb (fun hp => by rw [t.pf.2 hp] at hb; cases hb)
theorem wanted_guard {j : Nat} {want b : Bool} {g : Nat} {a : Array Value} {op : Op} (hj : (ops[j]?).bind (·.dst) = some g) (hv : a.getD g undef = .bool b) :
    Region.wanted ⟨d, op, ty, pos, aft, some (j, want)⟩ (yielded ops a) = (b == want) := by
  have hy : yielded ops a j = some b := by
    unfold yielded
    rw [hj]
    simp only [Option.bind_some]
    have hlt : g < a.size := by
      rcases Nat.lt_or_ge g a.size with h' | h'
      · exact h'
      · simp [Array.getElem?_eq_none h', undef] at hv
    simp only [Array.getElem?_eq_getElem hlt]
    have : a[g] = .bool b := by simpa [hlt] using hv
    rw [this]
  simp [Region.wanted, hy]
/-- A call that only computes, under a guard. -/
theorem Stp.gcall {g : FuncId} {x : Operand} {l : List Operand} {tys : Array TypeId} {fst vs cap A : List Value} {Hr : List PHeap} {u : Value} {j gt : Nat} {want b : Bool} (hj : (ops[j]?).bind (·.dst) = some gt) (hg : find e gt = some (.bool b))
    (hc : ∀ args w, (callFunc g args).run P w = .ok (.enter g args) w) (hx : ev e x = some (.func (.func g) fst.toArray cap.toArray)) (hl : b = want → EvL e l vs) (hA : fst ++ vs ++ cap = A)
    (hS : b = want → Spec P g A.toArray [] Hr (fun v hs => v = u ∧ hs = [])) [al : AllIn Hr o r] :
    Stp P ops ⟨d, .call ⟨.value x, l.toArray, tys⟩, ty, pos, aft, some (j, want)⟩ e o r (fun v o2 => v = lz b want u ∧ o2 = o) := fun D a w he hs => by
  have hw := wanted_guard (d := d) (ty := ty) (pos := pos) (aft := aft) (want := want) (op := .call ⟨.value x, l.toArray, tys⟩) hj (he gt _ hg)
  by_cases hb : b = want
  · have hrun : (execOp (evA a) (⟨d, .call ⟨.value x, l.toArray, tys⟩, ty, pos, aft, some (j, want)⟩ : Oper)).run P w = .ok (.enter g A.toArray) w := by
      simp only [execOp, resolve, ev_rel he hx, List.map_toArray, (hl hb).rel he]
      have e1 : (Deferred.ofValue (.func (.func g) fst.toArray cap.toArray) vs.toArray).run P w = .ok { target := .fn (.func g) cap.toArray, args := fst.toArray ++ vs.toArray } w := rfl
      rw [bind_ok e1]
      simp only [invoke]
      rw [hc]
      simp [← hA]
    unfold Does
    rw [hw, if_pos (by simp [hb]), hrun]
    simp only
    refine (hS hb (D :: o) r w hs (fun h hh => orMap (al.pf h hh) (List.mem_cons_of_mem _) (fun h => h))).mono ?_
    rintro e' w' ⟨v, hs', rfl, ⟨rfl, rfl⟩, hS'⟩
    exact ⟨v, rfl, D :: o, ⟨o, ⟨by simp [lz, hb], rfl⟩, List.Perm.refl _⟩, hS'⟩
  · unfold Does
    rw [hw, if_neg (by simpa using hb)]
    exact ⟨D :: o, ⟨o, ⟨by simp [lz, hb], rfl⟩, List.Perm.refl _⟩, hs⟩
end
section
variable {c : Cx} {ops : Array Oper} {rest : List Oper} {k : List Item} {e : Env} {o r : List PHeap} {d : Nat} {ty : TypeId} {pos : String} {aft : Array Edge}
theorem XO.gcallT {g : FuncId} {x : Operand} {l : List Operand} {tys : Array TypeId} {fst vs cap A : List Value} {Hr : List PHeap} {u : Value} {j gt : Nat} {b : Bool} {p : Prop} (hj : (ops[j]?).bind (·.dst) = some gt) (hg : find e gt = some (.bool b)) [t : BoolP b p]
    (hc : ∀ args w, (callFunc g args).run c.P w = .ok (.enter g args) w) (hx : ev e x = some (.func (.func g) fst.toArray cap.toArray)) (hl : b = true → EvL e l vs) (hA : fst ++ vs ++ cap = A)
    (hS : b = true → p → Spec c.P g A.toArray [] Hr (fun v hs => v = u ∧ hs = [])) [al : AllIn Hr o (c.B :: r)] (h : XO c ops rest k ((d, some (lz b true u)) :: e) o r) :
    XO c ops (⟨some d, .call ⟨.value x, l.toArray, tys⟩, ty, pos, aft, some (j, true)⟩ :: rest) k e o r :=
  XO.s (Stp.gcall hj hg hc hx hl hA (fun hb => hS hb (t.pf.1 hb))) fun v o2 ⟨h1, h2⟩ => by subst h1 h2; exact h
theorem XO.gcallF {g : FuncId} {x : Operand} {l : List Operand} {tys : Array TypeId} {fst vs cap A : List Value} {Hr : List PHeap} {u : Value} {j gt : Nat} {b : Bool} {p : Prop} (hj : (ops[j]?).bind (·.dst) = some gt) (hg : find e gt = some (.bool b)) [t : BoolP b p]
    (hc : ∀ args w, (callFunc g args).run c.P w = .ok (.enter g args) w) (hx : ev e x = some (.func (.func g) fst.toArray cap.toArray)) (hl : b = false → EvL e l vs) (hA : fst ++ vs ++ cap = A)
    (hS : b = false → ¬ p → Spec c.P g A.toArray [] Hr (fun v hs => v = u ∧ hs = [])) [al : AllIn Hr o (c.B :: r)] (h : XO c ops rest k ((d, some (lz b false u)) :: e) o r) :
    XO c ops (⟨some d, .call ⟨.value x, l.toArray, tys⟩, ty, pos, aft, some (j, false)⟩ :: rest) k e o r :=
  XO.s (Stp.gcall hj hg hc hx hl hA (fun hb => hS hb (fun hp => by rw [t.pf.2 hp] at hb; cases hb))) fun v o2 ⟨h1, h2⟩ => by subst h1 h2; exact h
/-- A guard that is known. -/
theorem XO.gT {op : Op} {j gt : Nat} {want b : Bool} (hj : (ops[j]?).bind (·.dst) = some gt) (hg : find e gt = some (.bool b)) (hb : b = want) (h : XO c ops (⟨some d, op, ty, pos, aft, none⟩ :: rest) k e o r)
    : True := trivial
variable {fl : List Nat} {f : List PHeap} {i0 : Nat} {bb : Bool} {tt uu : Plan}
theorem XT.gcallT {g : FuncId} {x : Operand} {l : List Operand} {tys : Array TypeId} {fst vs cap A : List Value} {Hr : List PHeap} {u : Value} {j gt : Nat} {b : Bool} {p : Prop}
    (hi : ops[i0]? = some ⟨some d, .call ⟨.value x, l.toArray, tys⟩, ty, pos, aft, some (j, true)⟩) (hok : okOper c.N ⟨some d, .call ⟨.value x, l.toArray, tys⟩, ty, pos, aft, some (j, true)⟩ = true)
    (hj : (ops[j]?).bind (·.dst) = some gt) (hg : find e gt = some (.bool b)) [t : BoolP b p]
    (hc : ∀ args w, (callFunc g args).run c.P w = .ok (.enter g args) w) (hx : ev e x = some (.func (.func g) fst.toArray cap.toArray)) (hl : b = true → EvL e l vs) (hA : fst ++ vs ++ cap = A)
    (hS : b = true → p → Spec c.P g A.toArray [] Hr (fun v hs => v = u ∧ hs = [])) [al : AllIn Hr o (c.B :: r)] (h : Keeps bb f o ∧ XT c ops fl f k r tt ((d, some (lz b true u)) :: e) o) (hu : XT c ops fl f k r uu e o) :
    XT c ops fl f k r (.br i0 bb tt uu) e o :=
  XT.s hi hok (Stp.gcall hj hg hc hx hl hA (fun hb => hS hb (t.pf.1 hb))) (fun v o2 ⟨h1, h2⟩ => by subst h1 h2; exact h) hu
theorem XT.gcallF {g : FuncId} {x : Operand} {l : List Operand} {tys : Array TypeId} {fst vs cap A : List Value} {Hr : List PHeap} {u : Value} {j gt : Nat} {b : Bool} {p : Prop}
    (hi : ops[i0]? = some ⟨some d, .call ⟨.value x, l.toArray, tys⟩, ty, pos, aft, some (j, false)⟩) (hok : okOper c.N ⟨some d, .call ⟨.value x, l.toArray, tys⟩, ty, pos, aft, some (j, false)⟩ = true)
    (hj : (ops[j]?).bind (·.dst) = some gt) (hg : find e gt = some (.bool b)) [t : BoolP b p]
    (hc : ∀ args w, (callFunc g args).run c.P w = .ok (.enter g args) w) (hx : ev e x = some (.func (.func g) fst.toArray cap.toArray)) (hl : b = false → EvL e l vs) (hA : fst ++ vs ++ cap = A)
    (hS : b = false → ¬ p → Spec c.P g A.toArray [] Hr (fun v hs => v = u ∧ hs = [])) [al : AllIn Hr o (c.B :: r)] (h : Keeps bb f o ∧ XT c ops fl f k r tt ((d, some (lz b false u)) :: e) o) (hu : XT c ops fl f k r uu e o) :
    XT c ops fl f k r (.br i0 bb tt uu) e o :=
  XT.s hi hok (Stp.gcall hj hg hc hx hl hA (fun hb => hS hb (fun hp => by rw [t.pf.2 hp] at hb; cases hb))) (fun v o2 ⟨h1, h2⟩ => by subst h1 h2; exact h) hu
end
end Go.X
