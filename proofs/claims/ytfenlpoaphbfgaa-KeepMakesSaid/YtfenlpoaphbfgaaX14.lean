/- Calls of function values; loops over functions. No condition. -/
import Derived.Test.YtfenlpoaphbfgaaX13
import Derived.RangeFuncRecord
set_option linter.unusedSimpArgs false
set_option linter.unusedVariables false
namespace Go.X

/-! ### several heaps as one -/
def join : List PHeap → PHeap
  | [] => emp
  | h :: t => ⟨fun b => (h b).or (join t b), none⟩
theorem join_none {hs : List PHeap} {b : Nat} : join hs b = none ↔ ∀ h ∈ hs, h b = none := by
  induction hs with
  | nil => simp [join, emp]
  | cons h t ih => simp [join, ih]
theorem join_mem {hs : List PHeap} {b : Nat} {ob : Obj} (h : join hs b = some ob) : ∃ g ∈ hs, g b = some ob := by
  induction hs with
  | nil => cases h
  | cons g t ih =>
    simp only [join] at h
    cases hg : g b with
    | some x =>
      rw [hg] at h
      exact ⟨g, List.mem_cons_self, by rw [hg]; simpa using h⟩
    | none =>
      rw [hg] at h
      obtain ⟨g', h1, h2⟩ := ih (by simpa using h)
      exact ⟨g', List.mem_cons_of_mem _ h1, h2⟩
theorem mem_join {hs : List PHeap} {b : Nat} {ob : Obj} (hp : hs.Pairwise Disj) {g : PHeap} (hg : g ∈ hs) (h : g b = some ob) : join hs b = some ob := by
  induction hs with
  | nil => cases hg
  | cons x t ih =>
    simp only [join]
    rcases List.mem_cons.1 hg with rfl | hg
    · rw [h]; rfl
    · have h1 := (List.pairwise_cons.1 hp).1 g hg b
      rw [h] at h1
      rw [h1.resolve_right (by simp)]
      simpa using ih (List.pairwise_cons.1 hp).2 hg
theorem join_disj {hs : List PHeap} {g : PHeap} : Disj (join hs) g ↔ ∀ h ∈ hs, Disj h g := by
  constructor
  · intro h x hx b
    rcases h b with h1 | h1
    · exact .inl (join_none.1 h1 x hx)
    · exact .inr h1
  · intro h b
    by_cases hg : g b = none
    · exact .inr hg
    · left
      exact join_none.2 fun x hx => (h x hx b).resolve_right hg
theorem join_m (hs : List PHeap) : (join hs).m = none := by cases hs <;> rfl
theorem Sep.join {hs o r : List PHeap} {w : World} (s : Sep (hs ++ o) r w) : Sep (X.join hs :: o) r w where
  pw := List.pairwise_cons.2 ⟨fun g hg => join_disj.2 fun h hh => (List.pairwise_append.1 s.pw).2.2 h hh g hg, s.right.pw⟩
  dr := fun h hh g hg => by
    rcases List.mem_cons.1 hh with rfl | hh
    · exact join_disj.2 fun x hx => s.dr x (List.mem_append_left _ hx) g hg
    · exact s.dr h (List.mem_append_right _ hh) g hg
  so := fun h hh => by
    rcases List.mem_cons.1 hh with rfl | hh
    · intro b ob hb
      obtain ⟨g, h1, h2⟩ := join_mem hb
      exact s.so g (List.mem_append_left _ h1) b ob h2
    · exact s.so h (List.mem_append_right _ hh)
  sr := s.sr
  no := fun h hh => by
    rcases List.mem_cons.1 hh with rfl | hh
    · exact join_m hs
    · exact s.no h (List.mem_append_right _ hh)
  sm := s.sm
def PD (hs : List PHeap) : Prop := hs.Pairwise Disj ∧ ∀ h ∈ hs, h.m = none
theorem Sep.split {hs o r : List PHeap} {w : World} (hpd : PD hs) (s : Sep (X.join hs :: o) r w) : Sep (hs ++ o) r w where
  pw := List.pairwise_append.2 ⟨hpd.1, (List.pairwise_cons.1 s.pw).2, fun h hh g hg => join_disj.1 ((List.pairwise_cons.1 s.pw).1 g hg) h hh⟩
  dr := fun h hh g hg => by
    rcases List.mem_append.1 hh with hh | hh
    · exact join_disj.1 (s.dr _ List.mem_cons_self g hg) h hh
    · exact s.dr h (List.mem_cons_of_mem _ hh) g hg
  so := fun h hh => by
    rcases List.mem_append.1 hh with hh | hh
    · exact fun b ob hb => s.so _ List.mem_cons_self b ob (mem_join hpd.1 hh hb)
    · exact s.so h (List.mem_cons_of_mem _ hh)
  sr := s.sr
  no := fun h hh => by
    rcases List.mem_append.1 hh with hh | hh
    · exact hpd.2 h hh
    · exact s.no h (List.mem_cons_of_mem _ hh)
  sm := s.sm

/-! ### the frame of a call -/
theorem frame_in {Hm Hr o r : List PHeap} {w : World} (hs : Sep (Hm ++ o) r w) (hr : ∀ h ∈ Hr, h ∈ o ∨ h ∈ r) : Sep Hm (hole w Hm :: Hr) w := by
  have hdis : ∀ h ∈ Hr, ∀ g ∈ Hm, Disj g h := fun h hh g hg => by
    rcases hr h hh with h1 | h1
    · exact (List.pairwise_append.1 hs.pw).2.2 g hg h h1
    · exact hs.dr g (List.mem_append_left _ hg) h h1
  have hsub : ∀ h ∈ Hr, sub h w := fun h hh => by
    rcases hr h hh with h1 | h1
    · exact hs.so h (List.mem_append_right _ h1)
    · exact hs.sr h h1
  refine ⟨hs.left.pw, ?_, hs.left.so, ?_, hs.left.no, ?_⟩
  · intro g hg x hx
    rcases List.mem_cons.1 hx with rfl | hx
    · intro b
      by_cases hn : g b = none
      · exact .inl hn
      · right
        unfold hole; dsimp only
        rw [if_pos ⟨g, hg, hn⟩]
    · exact hdis x hx g hg
  · intro x hx
    rcases List.mem_cons.1 hx with rfl | hx
    · intro b ob hb
      unfold hole at hb; dsimp only at hb
      split at hb
      · cases hb
      · exact hb
    · exact hsub x hx
  · intro x hx m hm
    rcases List.mem_cons.1 hx with rfl | hx
    · exact Option.some.inj hm
    · rcases hr x hx with h1 | h1
      · rw [hs.right.no x h1] at hm; cases hm
      · exact hs.sm x h1 m hm
theorem frame_out {Hm hs' o r : List PHeap} {w w' : World} (hs : Sep (Hm ++ o) r w) (hS' : Sep hs' [hole w Hm] w') : Sep (hs' ++ o) r w' := by
  have hBw : ∀ b ob, hole w Hm b = some ob → w'.heap[b]? = some ob := hS'.sr (hole w Hm) List.mem_cons_self
  have hfr : ∀ h, sub h w → (∀ g ∈ Hm, Disj g h) → sub h w' ∧ ∀ x ∈ hs', Disj x h := fun h h1 h2 =>
    ⟨fun b ob hb => hBw b ob (le_hole h1 h2 hb), fun x hx b => by
      rcases hS'.dr x hx (hole w Hm) List.mem_cons_self b with h3 | h3
      · exact .inl h3
      · right
        cases hh : h b with
        | none => rfl
        | some ob => rw [le_hole h1 h2 hh] at h3; cases h3⟩
  have ho : ∀ h ∈ o, sub h w ∧ ∀ g ∈ Hm, Disj g h := fun h hh => ⟨hs.right.so h hh, fun g hg => (List.pairwise_append.1 hs.pw).2.2 g hg h hh⟩
  have hrr : ∀ h ∈ r, sub h w ∧ ∀ g ∈ Hm, Disj g h := fun h hh => ⟨hs.sr h hh, fun g hg => hs.dr g (List.mem_append_left _ hg) h hh⟩
  have hmt : mt w' = mt w := hS'.sm _ List.mem_cons_self _ rfl
  refine ⟨List.pairwise_append.2 ⟨hS'.pw, hs.right.pw, fun x hx h hh => (hfr h (ho h hh).1 (ho h hh).2).2 x hx⟩, ?_, ?_, ?_, ?_, fun g hg m hm => hmt.trans (hs.sm g hg m hm)⟩
  · intro x hx g hg
    rcases List.mem_append.1 hx with hx | hx
    · exact (hfr g (hrr g hg).1 (hrr g hg).2).2 x hx
    · exact hs.right.dr x hx g hg
  · intro x hx
    rcases List.mem_append.1 hx with hx | hx
    · exact hS'.so x hx
    · exact (hfr x (ho x hx).1 (ho x hx).2).1
  · exact fun g hg => (hfr g (hrr g hg).1 (hrr g hg).2).1
  · intro x hx
    rcases List.mem_append.1 hx with hx | hx
    · exact hS'.no x hx
    · exact hs.right.no x hx

/-! ### function values -/
def NDoes (P : Program) (s : Sem Next) (w : World) (Post : Value → World → Prop) : Prop :=
  match s.run P w with
  | .ok (.enter g args) w' => Calls P g args w' fun e w'' => ∃ v, e = .returned v ∧ Post v w''
  | .ok (.round l g tmps assign body) w' => Rounds P l g tmps assign body w' Post
  | _ => False
def callv (y : Value) (args : Array Value) : Sem Next := do
  let d ← Deferred.ofValue y args
  invoke d.target d.args
/-- A call of the function value y. -/
def VSpec (P : Program) (y : Value) (args : List Value) (Hm Hr : List PHeap) (R : Value → List PHeap → Prop) : Prop :=
  ∀ o r w, Sep (Hm ++ o) r w → (∀ h ∈ Hr, h ∈ o ∨ h ∈ r) → NDoes P (callv y args.toArray) w fun v w' => ∃ hs, R v hs ∧ Sep (hs ++ o) r w'
theorem VSpec.fn {P : Program} {g : FuncId} {fst vs cap A : List Value} {Hm Hr : List PHeap} {R : Value → List PHeap → Prop}
    (hc : ∀ args w, (callFunc g args).run P w = .ok (.enter g args) w) (hA : fst ++ vs ++ cap = A) (hS : Spec P g A.toArray Hm Hr R) :
    VSpec P (.func (.func g) fst.toArray cap.toArray) vs Hm Hr R := fun o r w hs hr => by
  unfold NDoes
  have hrun : (callv (.func (.func g) fst.toArray cap.toArray) vs.toArray).run P w = .ok (.enter g A.toArray) w := by
    unfold callv
    have e1 : (Deferred.ofValue (.func (.func g) fst.toArray cap.toArray) vs.toArray).run P w = .ok { target := .fn (.func g) cap.toArray, args := fst.toArray ++ vs.toArray } w := rfl
    rw [bind_ok e1]
    simp only [invoke]
    rw [hc]
    simp [← hA]
  rw [hrun]
  refine (hS o r w hs hr).mono ?_
  rintro e w' ⟨v, hs', rfl, hR, hS'⟩
  exact ⟨v, rfl, hs', hR, hS'⟩
section
variable {P : Program} {ops : Array Oper} {e : Env} {o r : List PHeap} {d : Option Tmp} {ty : TypeId} {pos : String} {aft : Array Edge}
theorem NDoes.does {x : Operand} {l : List Operand} {tys : Array TypeId} {y : Value} {vs : List Value} {a : Array Value} {w : World} (he : ERel e a) (hx : ev e x = some y) (hl : evs e l = some vs)
    {g : Option (Nat × Bool)} (hg : Region.wanted (⟨d, .call ⟨.value x, l.toArray, tys⟩, ty, pos, aft, g⟩ : Oper) (yielded ops a) = true)
    {Post : Value → World → Prop} (h : NDoes P (callv y vs.toArray) w Post) : Does P ops ⟨d, .call ⟨.value x, l.toArray, tys⟩, ty, pos, aft, g⟩ a w Post := by
  have hx' : (execOp (evA a) (⟨d, .call ⟨.value x, l.toArray, tys⟩, ty, pos, aft, g⟩ : Oper)) = callv y vs.toArray := by
    simp only [execOp, resolve, ev_rel he hx, List.map_toArray, evs_rel he hl, callv]
  unfold Does
  rw [hg, if_pos rfl, hx']
  unfold NDoes at h
  split at h <;> rename_i heq
  · rw [heq]; exact h
  · rw [heq]; exact h
  · exact h.elim
theorem Stp.vcall {x : Operand} {l : List Operand} {tys : Array TypeId} {y : Value} {vs : List Value} {Hm Hr : List PHeap} {R : Value → List PHeap → Prop} {o1 : List PHeap}
    (hx : ev e x = some y) (hl : evs e l = some vs) (hS : VSpec P y vs Hm Hr R) [t : Takes Hm o o1] [al : AllIn Hr o1 r] :
    Stp P ops ⟨d, .call ⟨.value x, l.toArray, tys⟩, ty, pos, aft, none⟩ e o r (fun v o2 => ∃ hs, R v hs ∧ o2 = hs ++ o1) := fun D a w he hs => by
  refine NDoes.does he hx hl (by simp [Region.wanted]) ?_
  have h := hS (D :: o1) r w (hs.perm (t.more D).pf) (al.more D).pf
  unfold NDoes at *
  split at h <;> rename_i heq
  · refine h.mono ?_
    rintro e' w' ⟨v, rfl, hs', hR, hS'⟩
    exact ⟨v, rfl, hs' ++ D :: o1, ⟨hs' ++ o1, ⟨hs', hR, rfl⟩, List.perm_middle⟩, hS'⟩
  · intro c0 cs
    obtain ⟨v, w', ⟨hs', hR, hS'⟩, st⟩ := h c0 cs
    exact ⟨v, w', ⟨hs' ++ D :: o1, ⟨hs' ++ o1, ⟨hs', hR, rfl⟩, List.perm_middle⟩, hS'⟩, st⟩
  · exact h.elim
/-- Under a guard: it is called, or not. -/
theorem Stp.gvcall {x : Operand} {l : List Operand} {tys : Array TypeId} {y : Value} {vs : List Value} {Hm Hr : List PHeap} {R : Value → List PHeap → Prop} {o1 : List PHeap} {j gt : Nat} {want b : Bool}
    (hj : (ops[j]?).bind (·.dst) = some gt) (hg : find e gt = some (.bool b)) (hx : b = want → ev e x = some y) (hl : b = want → EvL e l vs) (hS : b = want → VSpec P y vs Hm Hr R) [t : Takes Hm o o1] [al : AllIn Hr o1 r] :
    Stp P ops ⟨d, .call ⟨.value x, l.toArray, tys⟩, ty, pos, aft, some (j, want)⟩ e o r
      (fun v o2 => (b = want ∧ ∃ hs, R v hs ∧ o2 = hs ++ o1) ∨ (b ≠ want ∧ v = undef ∧ o2 = o)) := fun D a w he hs => by
  have hw := wanted_guard (d := d) (ty := ty) (pos := pos) (aft := aft) (want := want) (op := .call ⟨.value x, l.toArray, tys⟩) hj (he gt _ hg)
  by_cases hb : b = want
  · have hw' : Region.wanted (⟨d, .call ⟨.value x, l.toArray, tys⟩, ty, pos, aft, some (j, want)⟩ : Oper) (yielded ops a) = true := by rw [hw]; simp [hb]
    have hx' : (execOp (evA a) (⟨d, .call ⟨.value x, l.toArray, tys⟩, ty, pos, aft, some (j, want)⟩ : Oper)) = callv y vs.toArray := by
      simp only [execOp, resolve, ev_rel he (hx hb), List.map_toArray, (hl hb).rel he, callv]
    have h := hS hb (D :: o1) r w (hs.perm (t.more D).pf) (al.more D).pf
    unfold Does
    rw [hw', if_pos rfl, hx']
    unfold NDoes at h
    split at h <;> rename_i heq
    · rw [heq]
      refine h.mono ?_
      rintro e' w' ⟨v, rfl, hs', hR, hS'⟩
      exact ⟨v, rfl, hs' ++ D :: o1, ⟨hs' ++ o1, .inl ⟨hb, hs', hR, rfl⟩, List.perm_middle⟩, hS'⟩
    · rw [heq]
      intro c0 cs
      obtain ⟨v, w', ⟨hs', hR, hS'⟩, st⟩ := h c0 cs
      exact ⟨v, w', ⟨hs' ++ D :: o1, ⟨hs' ++ o1, .inl ⟨hb, hs', hR, rfl⟩, List.perm_middle⟩, hS'⟩, st⟩
    · exact h.elim
  · unfold Does
    rw [hw, if_neg (by simpa using hb)]
    exact ⟨D :: o, ⟨o, .inr ⟨hb, rfl, rfl⟩, List.Perm.refl _⟩, hs⟩
end
section
variable {c : Cx} {ops : Array Oper} {rest : List Oper} {k : List Item} {e : Env} {o r : List PHeap} {d : Nat} {ty : TypeId} {pos : String} {aft : Array Edge}
theorem XO.vcall {x : Operand} {l : List Operand} {tys : Array TypeId} {y : Value} {vs : List Value} {Hm Hr : List PHeap} {R : Value → List PHeap → Prop} {o1 : List PHeap}
    (hx : ev e x = some y) (hl : evs e l = some vs) (hS : VSpec c.P y vs Hm Hr R) [t : Takes Hm o o1] [al : AllIn Hr o1 (c.B :: r)] (h : ∀ v hs, R v hs → XO c ops rest k ((d, some v) :: e) (hs ++ o1) r) :
    XO c ops (⟨some d, .call ⟨.value x, l.toArray, tys⟩, ty, pos, aft, none⟩ :: rest) k e o r := XO.s (Stp.vcall hx hl hS) fun v o2 ⟨hs, hR, h2⟩ => by subst h2; exact h v hs hR
theorem XO.gvcall {x : Operand} {l : List Operand} {tys : Array TypeId} {y : Value} {vs : List Value} {Hm Hr : List PHeap} {R : Value → List PHeap → Prop} {o1 : List PHeap} {j gt : Nat} {want b : Bool}
    (hj : (ops[j]?).bind (·.dst) = some gt) (hg : find e gt = some (.bool b)) (hx : b = want → ev e x = some y) (hl : b = want → EvL e l vs) (hS : b = want → VSpec c.P y vs Hm Hr R) [t : Takes Hm o o1] [al : AllIn Hr o1 (c.B :: r)]
    (h : b = want → ∀ v hs, R v hs → XO c ops rest k ((d, some v) :: e) (hs ++ o1) r) (h' : b ≠ want → XO c ops rest k ((d, some undef) :: e) o r) :
    XO c ops (⟨some d, .call ⟨.value x, l.toArray, tys⟩, ty, pos, aft, some (j, want)⟩ :: rest) k e o r :=
  XO.s (Stp.gvcall hj hg hx hl hS) fun v o2 hh => by
    rcases hh with ⟨hb, hs, hR, h2⟩ | ⟨hb, rfl, rfl⟩
    · subst h2; exact h hb v hs hR
    · exact h' hb
end
end Go.X
