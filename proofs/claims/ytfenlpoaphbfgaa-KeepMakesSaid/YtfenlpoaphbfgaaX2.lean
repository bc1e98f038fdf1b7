/- Contracts, calls, returns; the operations that only compute. No condition. -/
import Derived.Test.YtfenlpoaphbfgaaX1
import Derived.Laws.Sem
import Derived.Laws.World
namespace Go.X

/-! ### lists of heaps: taking one out, finding one -/
class Take (h : PHeap) (o : List PHeap) (o1 : outParam (List PHeap)) : Prop where
  pf : o.Perm (h :: o1)
instance (priority := high) Take.head (h : PHeap) (o : List PHeap) : Take h (h :: o) o := ⟨List.Perm.refl _⟩
instance Take.tail (h g : PHeap) (o o1 : List PHeap) [t : Take h o o1] : Take h (g :: o) (g :: o1) := ⟨(t.pf.cons g).trans (List.Perm.swap _ _ _)⟩
class Takes (hs : List PHeap) (o : List PHeap) (o1 : outParam (List PHeap)) : Prop where
  pf : o.Perm (hs ++ o1)
instance Takes.nil (o : List PHeap) : Takes [] o o := ⟨List.Perm.refl _⟩
instance Takes.cons (h : PHeap) (hs o o1 o2 : List PHeap) [t : Take h o o1] [t2 : Takes hs o1 o2] : Takes (h :: hs) o o2 := ⟨t.pf.trans (t2.pf.cons h)⟩
class InL (h : PHeap) (o : List PHeap) : Prop where
  pf : h ∈ o
instance (priority := high) InL.head (h : PHeap) (o : List PHeap) : InL h (h :: o) := ⟨List.mem_cons_self⟩
instance InL.tail (h g : PHeap) (o : List PHeap) [t : InL h o] : InL h (g :: o) := ⟨List.mem_cons_of_mem _ t.pf⟩
class InM (h : PHeap) (o r : List PHeap) : Prop where
  pf : h ∈ o ∨ h ∈ r
instance InM.own (h : PHeap) (o r : List PHeap) [t : InL h o] : InM h o r := ⟨.inl t.pf⟩
instance InM.read (h : PHeap) (o r : List PHeap) [t : InL h r] : InM h o r := ⟨.inr t.pf⟩
class AllIn (hs o r : List PHeap) : Prop where
  pf : ∀ h ∈ hs, h ∈ o ∨ h ∈ r
instance AllIn.nil (o r : List PHeap) : AllIn [] o r := ⟨fun _ h => by cases h⟩
instance AllIn.cons (h : PHeap) (hs o r : List PHeap) [t : InM h o r] [t2 : AllIn hs o r] : AllIn (h :: hs) o r :=
  ⟨fun g hg => by
    rcases List.mem_cons.1 hg with rfl | hg
    · exact t.pf
    · exact t2.pf g hg⟩
instance (priority := low) AllIn.same (hs o : List PHeap) : AllIn hs o hs := ⟨fun _ h => .inr h⟩
instance (priority := low) AllIn.skip (h : PHeap) (hs o r : List PHeap) [t : AllIn hs o r] : AllIn hs o (h :: r) := ⟨fun g hg => orMap (t.pf g hg) id (List.mem_cons_of_mem _)⟩
theorem Sep.left {o1 o2 r : List PHeap} {w : World} (s : Sep (o1 ++ o2) r w) : Sep o1 r w where
  pw := (List.pairwise_append.1 s.pw).1
  dr := fun h hh => s.dr h (List.mem_append_left _ hh)
  so := fun h hh => s.so h (List.mem_append_left _ hh)
  sr := s.sr
  no := fun h hh => s.no h (List.mem_append_left _ hh)
  sm := s.sm
theorem Sep.right {o1 o2 r : List PHeap} {w : World} (s : Sep (o1 ++ o2) r w) : Sep o2 r w where
  pw := (List.pairwise_append.1 s.pw).2.1
  dr := fun h hh => s.dr h (List.mem_append_right _ hh)
  so := fun h hh => s.so h (List.mem_append_right _ hh)
  sr := s.sr
  no := fun h hh => s.no h (List.mem_append_right _ hh)
  sm := s.sm
theorem Sep.reads {o r r' : List PHeap} {w : World} (s : Sep o r w) (h : ∀ g ∈ r', g ∈ r) : Sep o r' w :=
  ⟨s.pw, fun a ha g hg => s.dr a ha g (h g hg), s.so, fun g hg => s.sr g (h g hg), s.no, fun g hg => s.sm g (h g hg)⟩

/-! ### a contract -/
/-- Called in a world in which the heaps 'Hm' (its own to change) and 'Hr' (to read) are there: it returns v; in the place of Hm there are the heaps hs; nothing else has turned. -/
def Spec (P : Program) (f : FuncId) (args : Array Value) (Hm Hr : List PHeap) (R : Value → List PHeap → Prop) : Prop :=
  ∀ o r w, Sep (Hm ++ o) r w → (∀ h ∈ Hr, h ∈ o ∨ h ∈ r) → Calls P f args w fun e w' => ∃ v hs, e = .returned v ∧ R v hs ∧ Sep (hs ++ o) r w'
theorem Spec.mono {P : Program} {f : FuncId} {args : Array Value} {Hm Hr : List PHeap} {R R' : Value → List PHeap → Prop} (h : Spec P f args Hm Hr R)
    (m : ∀ v hs, R v hs → R' v hs) : Spec P f args Hm Hr R' :=
  fun o r w hs hr => (h o r w hs hr).mono fun _ _ ⟨v, hs, he, hR, hS⟩ => ⟨v, hs, he, m v hs hR, hS⟩
def hole (w : World) (Hm : List PHeap) : PHeap := ⟨fun b => open Classical in if ∃ h ∈ Hm, h b ≠ none then none else w.heap[b]?, some (mt w)⟩
theorem le_hole {w : World} {Hm : List PHeap} {h : PHeap} (hs : sub h w) (hd : ∀ g ∈ Hm, Disj g h) {b : Nat} {ob : Obj} (hb : h b = some ob) : hole w Hm b = some ob := by
  unfold hole; dsimp only
  rw [if_neg, hs b ob hb]
  rintro ⟨g, hg, hn⟩
  rcases hd g hg b with h1 | h1
  · exact hn h1
  · rw [h1] at hb; cases hb
def envArgs : Nat → List Value → Env
  | _, [] => []
  | i, v :: vs => (i, some v) :: envArgs (i + 1) vs
theorem find_envArgs {vs : List Value} {i t : Nat} {v : Value} (h : find (envArgs i vs) t = some v) : i ≤ t ∧ vs[t - i]? = some v := by
  induction vs generalizing i with
  | nil => cases h
  | cons u us ih =>
    simp only [envArgs, find] at h
    split at h
    · rename_i hb
      have := Nat.eq_of_beq_eq_true hb
      subst this
      simp at h
      simp [h]
    · rename_i hb
      obtain ⟨h1, h2⟩ := ih h
      have hne : t ≠ i := by rintro rfl; simp [Nat.beq_refl] at hb
      obtain ⟨m, hm⟩ : ∃ m, t - i = m + 1 := ⟨t - i - 1, by omega⟩
      refine ⟨by omega, ?_⟩
      rw [hm, List.getElem?_cons_succ]
      rw [show t - (i + 1) = m by omega] at h2
      exact h2
abbrev cx (P : Program) (f : FuncId) (N : Nat) (B : PHeap) (R : Value → List PHeap → Prop) : Cx :=
  { P, f, rd := none, N, B, E := fun fr w' => ∃ v hs, fr.fn = f ∧ fr.leaving P w' (.returned v) ∧ R v hs ∧ Sep hs [B] w' }
/-- A contract by its body. -/
theorem Spec.intro {P : Program} {f : FuncId} {fn : Func} {N : Nat} {code : Code} {args : List Value} {Hm Hr : List PHeap} {R : Value → List PHeap → Prop}
    (hf : P.funcs[f]? = some fn) (hb : fn.body = some code) (hN : fn.ntmps = N) (hlen : Nat.ble args.length N = true)
    (h : ∀ B, XK (cx P f N B R) [.code code] (envArgs 0 args) Hm Hr) : Spec P f args.toArray Hm Hr R := by
  intro o r w hs hr cs
  have hle := Nat.le_of_ble_eq_true hlen
  have henter : Frame.enter P f args.toArray .normal = mk f none (args.toArray ++ Array.replicate (N - args.length) undef) [] [.code code] := by
    simp [Frame.enter, mk, hf, hb, hN]
  have hdis : ∀ h ∈ Hr, ∀ g ∈ Hm, Disj g h := fun h hh g hg => by
    rcases hr h hh with h1 | h1
    · exact (List.pairwise_append.1 hs.pw).2.2 g hg h h1
    · exact hs.dr g (List.mem_append_left _ hg) h h1
  have hsub : ∀ h ∈ Hr, sub h w := fun h hh => by
    rcases hr h hh with h1 | h1
    · exact hs.so h (List.mem_append_right _ h1)
    · exact hs.sr h h1
  have hS : Sep Hm ((cx P f N (hole w Hm) R).B :: Hr) w := by
    refine ⟨hs.left.pw, ?_, hs.left.so, ?_, hs.left.no, ?_⟩
    · intro g hg x hx
      rcases List.mem_cons.1 hx with rfl | hx
      · intro b
        by_cases hn : g b = none
        · exact .inl hn
        · right
          change hole w Hm b = none
          unfold hole; dsimp only
          rw [if_pos ⟨g, hg, hn⟩]
      · exact hdis x hx g hg
    · intro x hx
      rcases List.mem_cons.1 hx with rfl | hx
      · intro b ob hb
        change hole w Hm b = some ob at hb
        unfold hole at hb; dsimp only at hb
        split at hb
        · cases hb
        · exact hb
      · exact hsub x hx
    · intro x hx m hm
      rcases List.mem_cons.1 hx with rfl | hx
      · exact Option.some.inj hm
      · rcases hr x hx with h1 | h1
        · rw [hs.right.no x h1] at hm; cases hm
        · exact hs.sm x h1 m hm
  obtain ⟨fr, w', ⟨v, hs', hfn, hlv, hR, hS'⟩, st⟩ := h (hole w Hm) emp [] (args.toArray ++ Array.replicate (N - args.length) undef) w cs
    (by simp; omega)
    (by
      intro t v hv
      obtain ⟨_, h2⟩ := find_envArgs hv
      simp only [Nat.sub_zero] at h2
      have hlt : t < args.length := (List.getElem?_eq_some_iff.1 h2).1
      have h3 := (List.getElem?_eq_some_iff.1 h2).2
      simp [Array.getElem?_append, hlt, h3]) ⟨List.nodup_nil, fun b => by simp [emp]⟩ hS.empC
  rw [henter]
  have hBw : ∀ b ob, hole w Hm b = some ob → w'.heap[b]? = some ob := hS'.sr (hole w Hm) List.mem_cons_self
  have hfr : ∀ h, sub h w → (∀ g ∈ Hm, Disj g h) → sub h w' ∧ ∀ x ∈ hs', Disj x h := fun h h1 h2 =>
    ⟨fun b ob hb => hBw b ob (le_hole h1 h2 hb), fun x hx b => by
      rcases hS'.dr x hx (hole w Hm) List.mem_cons_self b with h3 | h3
      · exact .inl h3
      · right
        cases hh : h b with
        | none => rfl
        | some ob => rw [le_hole h1 h2 hh] at h3; cases h3⟩
  have ho : ∀ h ∈ o, sub h w ∧ ∀ g ∈ Hm, Disj g h := fun h hh => ⟨hs.right.so h hh, fun g hg => (List.pairwise_append.1 hs.pw).2.2 g hg h hh⟩
  have hrr : ∀ h ∈ r, sub h w ∧ ∀ g ∈ Hm, Disj g h := fun h hh => ⟨hs.sr h hh, fun g hg => hs.dr g (List.mem_append_left _ hg) h hh⟩
  refine ⟨.returned v, w', fr, ⟨v, hs', rfl, hR, ?_⟩, st, hfn, hlv⟩
  have hmt : mt w' = mt w := hS'.sm _ List.mem_cons_self _ rfl
  refine ⟨List.pairwise_append.2 ⟨hS'.pw, hs.right.pw, fun x hx h hh => (hfr h (ho h hh).1 (ho h hh).2).2 x hx⟩, ?_, ?_, ?_, ?_, fun g hg m hm => hmt.trans (hs.sm g hg m hm)⟩
  · intro x hx g hg
    rcases List.mem_append.1 hx with hx | hx
    · exact (hfr g (hrr g hg).1 (hrr g hg).2).2 x hx
    · exact hs.right.dr x hx g hg
  · intro x hx
    rcases List.mem_append.1 hx with hx | hx
    · exact hS'.so x hx
    · exact (hfr x (ho x hx).1 (ho x hx).2).1
  · exact fun g hg => (hfr g (hrr g hg).1 (hrr g hg).2).1
  · intro x hx
    rcases List.mem_append.1 hx with hx | hx
    · exact hS'.no x hx
    · exact hs.right.no x hx

/-! ### return -/
def QSem {α : Type} (P : Program) (s : Sem α) (o r : List PHeap) (v : α) : Prop := ∀ w, Rd o r w → s.run P w = .ok v w
def ResL (P : Program) (o r : List PHeap) (e : Env) : List ResultVar → List Value → Prop
  | [], vs => vs = []
  | .tmp t :: l, vs => ∃ v us, vs = v :: us ∧ find e t = some v ∧ ResL P o r e l us
  | .cell t ty :: l, vs => ∃ v us ad, vs = v :: us ∧ find e t = some (.pointer (some ad)) ∧ QSem P (loadVar ty ad) o r v ∧ ResL P o r e l us
theorem run_bind {α β : Type} (P : Program) (s : Sem α) (g : α → Sem β) (w : World) :
    (s >>= g).run P w = match s.run P w with
      | .ok v w' => (g v).run P w'
      | .halt h w' => .halt h w' := Sem.run_bind ..
def packed (vs : List Value) : Value := match vs with
  | [v] => v
  | vs => .tuple vs.toArray
def resGet (a : Array Value) : ResultVar → Sem Value
  | .tmp t => pure (a.getD t undef)
  | .cell d t => do loadVar t (← asAddr (a.getD d undef))
theorem run_resGet {P : Program} {o r : List PHeap} {e : Env} {a : Array Value} {w : World} (he : ERel e a) (hr : Rd o r w) :
    ∀ (l : List ResultVar) (vs : List Value), ResL P o r e l vs → (l.mapM (resGet a)).run P w = .ok vs w := by
  intro l
  induction l with
  | nil => intro vs h; simp only [ResL] at h; subst h; rfl
  | cons x l ih =>
    intro vs h
    cases x with
    | tmp t =>
      obtain ⟨v, us, rfl, hv, hl⟩ := h
      have := ih us hl
      have hv' := he t v hv
      rw [List.mapM_cons, run_bind]
      have h1 : (resGet a (.tmp t)).run P w = .ok v w := by simp only [resGet, hv']; rfl
      rw [h1]
      simp only [run_bind]
      rw [this]
      rfl
    | cell t ty =>
      obtain ⟨v, us, ad, rfl, hv, hq, hl⟩ := h
      have := ih us hl
      have hv' := he t _ hv
      rw [List.mapM_cons, run_bind]
      have h1 : (resGet a (.cell t ty)).run P w = .ok v w := by
        simp only [resGet, hv', run_bind]
        exact hq w hr
      rw [h1]
      simp only [run_bind]
      rw [this]
      rfl
theorem run_results {P : Program} {o r : List PHeap} {e : Env} {fn : Func} {l : List ResultVar} {vs : List Value} (hl : fn.results = l.toArray) (h : ResL P o r e l vs)
    {a : Array Value} {w : World} (he : ERel e a) (hr : Rd o r w) : (results fn a).run P w = .ok (packed vs) w := by
  have hk := run_resGet he hr l vs h
  have hd : results fn a = (do
      let vs ← fn.results.mapM (resGet a)
      pure (if h : vs.size = 1 then vs[0] else .tuple vs)) := by
    unfold results
    congr 1
  rw [hd, hl, List.mapM_toArray, run_bind]
  have h2 : (Functor.map List.toArray (List.mapM (resGet a) l)).run P w = .ok vs.toArray w := by
    rw [map_eq_pure_bind, run_bind, hk]
    rfl
  rw [h2]
  match vs with
  | [] => rfl
  | [v] => rfl
  | v :: u :: us => simp [packed, pure]
/-- What a function hands back, out of its owned heaps. -/
theorem Sep.cons {h : PHeap} {o o' r : List PHeap} {w : World} (s : Sep (h :: o) r w) (s' : Sep o' r w) (hd : ∀ g ∈ o', Disj h g) : Sep (h :: o') r w where
  pw := List.pairwise_cons.2 ⟨hd, s'.pw⟩
  dr := fun g hg => by
    rcases List.mem_cons.1 hg with rfl | hg
    · exact s.dr g List.mem_cons_self
    · exact s'.dr g hg
  so := fun g hg => by
    rcases List.mem_cons.1 hg with rfl | hg
    · exact s.so g List.mem_cons_self
    · exact s'.so g hg
  sr := s.sr
  no := fun g hg => by
    rcases List.mem_cons.1 hg with rfl | hg
    · exact s.no g List.mem_cons_self
    · exact s'.no g hg
  sm := s.sm
end Go.X
