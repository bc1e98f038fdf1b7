/- A part of the proof: a small program logic, plain laws and contracts of functions, each proved by a walk through its operations. No condition but those that stand in each theorem. -/
import Derived.Test.YtbeieafhcephmaaGreatA2
import Derived.KernelRfl
import Derived.Test.YtbeieafhcephmaaGreatProg
/- A region that draws its order over operations that have nothing to do with each other: each part is proved alone. No condition. -/
set_option linter.unusedSimpArgs false
set_option linter.unusedVariables false
namespace Go.X
def depsOf (ops : Array Oper) (i : Nat) : List Nat := match ops[i]? with
  | some x => (x.after.toList.filter fun e => Region.binds .any e).map (·.on)
  | none => []
def rdyC (ops : Array Oper) (L0 : Array Bool) (dn : List Nat) (i : Nat) : Bool := !dn.contains i && (depsOf ops i).all fun j => L0.getD j false || dn.contains j
def okC (ops : Array Oper) (L0 : Array Bool) (C : List Nat) : Plan → List Nat → List Nat → Bool
  | .done, dn, _ => C.all dn.contains
  | .q _ _, _, _ => false
  | .br i _ t u, dn, acc => C.contains i && rdyC ops L0 dn i && okC ops L0 C t (i :: dn) [] && okC ops L0 C u dn (i :: acc)
  | .stop, dn, acc => !acc.isEmpty && C.all fun i => !rdyC ops L0 dn i || acc.contains i
def alts : Plan → List (Nat × Plan)
  | .br i _ t u => (i, t) :: alts u
  | _ => []
def cdepth : Plan → Nat
  | .br _ _ t u => max (cdepth t + 1) (cdepth u)
  | _ => 0
theorem okC_alts {ops : Array Oper} {L0 : Array Bool} {C : List Nat} : ∀ (p : Plan) (dn acc : List Nat), okC ops L0 C p dn acc = true → (∀ i ∈ acc, rdyC ops L0 dn i = true) →
    (p = .done ∧ ∀ i ∈ C, i ∈ dn) ∨ ((∀ i ∈ C, rdyC ops L0 dn i = true → i ∈ acc ∨ ∃ t, (i, t) ∈ alts p) ∧ (∀ i t, (i, t) ∈ alts p → i ∈ C ∧ rdyC ops L0 dn i = true ∧ okC ops L0 C t (i :: dn) [] = true ∧ cdepth t + 1 ≤ cdepth p) ∧ (acc = [] → alts p ≠ []))
  | .done, dn, acc, h, _ => .inl ⟨rfl, fun i hi => by
    simp only [okC, List.all_eq_true] at h
    simpa using h i hi⟩
  | .q _ _, dn, acc, h, _ => by simp [okC] at h
  | .stop, dn, acc, h, _ => by
    simp only [okC, Bool.and_eq_true, List.all_eq_true] at h
    refine .inr ⟨fun i hi hr => ?_, fun i t hm => absurd hm List.not_mem_nil, fun ha => ?_⟩
    · have := h.2 i hi
      rw [hr] at this
      exact .inl (by simpa using this)
    · subst ha
      simp at h
  | .br i b t u, dn, acc, h, hacc => by
    simp only [okC, Bool.and_eq_true] at h
    obtain ⟨⟨⟨h1, h2⟩, h3⟩, h4⟩ := h
    rcases okC_alts u dn (i :: acc) h4 (fun j hj => by
      rcases List.mem_cons.1 hj with rfl | hj
      · exact h2
      · exact hacc j hj) with ⟨rfl, hall⟩ | ⟨a1, a2, a3⟩
    · exfalso
      have hi := hall i (by simpa using h1)
      unfold rdyC at h2
      rw [Bool.and_eq_true] at h2
      have := h2.1
      simp [hi] at this
    · refine .inr ⟨fun j hj hr => ?_, fun j tt hm => ?_, fun _ => by simp [alts]⟩
      · rcases a1 j hj hr with h | ⟨tt, h⟩
        · rcases List.mem_cons.1 h with rfl | h
          · exact .inr ⟨t, List.mem_cons_self⟩
          · exact .inl h
        · exact .inr ⟨tt, List.mem_cons_of_mem _ h⟩
      · rcases List.mem_cons.1 hm with h | h
        · cases h
          exact ⟨by simpa using h1, h2, h3, by rw [cdepth]; omega⟩
        · obtain ⟨b1, b2, b3, b4⟩ := a2 j tt h
          exact ⟨b1, b2, b3, by rw [cdepth]; omega⟩
/-! ### the parts -/
def CT (c : Cx) (ops : Array Oper) (e : Env) (r : List PHeap) (post : Env → List PHeap → Prop) : Plan → Env → List PHeap → Prop
  | .done, el, ol => post el ol
  | .q _ _, _, _ => False
  | .br i _ t u, el, ol => (∃ x Ψ, ops[i]? = some x ∧ okOper c.N x = true ∧ Stp c.P ops x (el ++ e) ol (c.B :: r) Ψ ∧ ∀ v o', Ψ v o' → CT c ops e r post t (puts el x.dst v) o') ∧ CT c ops e r post u el ol
  | .stop, _, _ => True
theorem CT.alt {c : Cx} {ops : Array Oper} {e : Env} {r : List PHeap} {post : Env → List PHeap → Prop} {el : Env} {ol : List PHeap} {i : Nat} {t : Plan} : ∀ {p : Plan}, CT c ops e r post p el ol → (i, t) ∈ alts p →
    ∃ x Ψ, ops[i]? = some x ∧ okOper c.N x = true ∧ Stp c.P ops x (el ++ e) ol (c.B :: r) Ψ ∧ ∀ v o', Ψ v o' → CT c ops e r post t (puts el x.dst v) o'
  | .done, _, hm => by cases hm
  | .q _ _, _, hm => by cases hm
  | .stop, _, hm => by cases hm
  | .br j b tt u, h, hm => by
    rcases List.mem_cons.1 hm with hm | hm
    · cases hm; exact h.1
    · exact CT.alt h.2 hm
/-- A part: its operations, the last one, what it may do still, what is done, what it knows and owns. -/
structure CS where
  C : List Nat
  z : Nat
  p : Plan
  dn : List Nat
  el : Env
  ol : List PHeap
  post : Env → List PHeap → Prop
def dstO (ops : Array Oper) (i : Nat) : Option Tmp := (ops[i]?).bind (·.dst)
def dstsOf (ops : Array Oper) (C : List Nat) : List Nat := C.filterMap (dstO ops)
def clo (ops : Array Oper) (C : List Nat) : Nat → List Nat → List Nat
  | 0, s => s
  | k + 1, s => clo ops C k (s ++ (s.flatMap (depsOf ops)).filter (fun j => C.contains j))
theorem clo_in {ops : Array Oper} {L0 : Array Bool} {C dn : List Nat} (hC : ∀ j ∈ C, L0.getD j false = false) (hcl : ∀ i ∈ dn, ∀ j ∈ depsOf ops i, L0.getD j false = true ∨ j ∈ dn) : ∀ (k : Nat) (s : List Nat), (∀ j ∈ s, j ∈ dn) → ∀ j ∈ clo ops C k s, j ∈ dn
  | 0, s, h, j, hj => h j hj
  | k + 1, s, h, j, hj => clo_in hC hcl k _ (fun i hi => by
    rcases List.mem_append.1 hi with hi | hi
    · exact h i hi
    · obtain ⟨h1, h2⟩ := List.mem_filter.1 hi
      obtain ⟨q, hq, hqi⟩ := List.mem_flatMap.1 h1
      rcases hcl q (h q hq) i hqi with h3 | h3
      · rw [hC i (by simpa using h2)] at h3; cases h3
      · exact h3) j hj
def usesC (ops : Array Oper) (L0 : Array Bool) (C : List Nat) (z : Nat) : Bool := C.contains z && C.all fun i => Nat.blt i ops.size && !L0.getD i true && (clo ops C C.length [z]).contains i && (depsOf ops i).all fun j => L0.getD j false || C.contains j
def nodupB : List Nat → Bool
  | [] => true
  | a :: l => !l.contains a && nodupB l
theorem nodupB_iff : ∀ {l : List Nat}, nodupB l = true → l.Nodup
  | [], _ => List.nodup_nil
  | a :: l, h => by
    simp only [nodupB, Bool.and_eq_true] at h
    exact List.nodup_cons.2 ⟨by simpa using h.1, nodupB_iff h.2⟩
def netOk (ops : Array Oper) (L0 : Array Bool) (cs : List (List Nat × Nat × Plan)) : Bool :=
  (cs.all fun s => okC ops L0 s.1 s.2.2 [] [] && usesC ops L0 s.1 s.2.1) && nodupB (cs.flatMap (·.1)) && nodupB (dstsOf ops (cs.flatMap (·.1))) &&
  (List.range ops.size).all fun i => L0.getD i true || (cs.flatMap (·.1)).contains i || (depsOf ops i).any (fun j => !L0.getD j false && !(cs.flatMap (·.1)).contains j) || cs.all fun s => (depsOf ops i).contains s.2.1
/-- What holds of a part while the parts are run. -/
structure CSOk (c : Cx) (ops : Array Oper) (L0 : Array Bool) (U : List Nat) (e : Env) (r : List PHeap) (s : CS) : Prop where
  ok : okC ops L0 s.C s.p s.dn [] = true
  uses : usesC ops L0 s.C s.z = true
  sub : ∀ i ∈ s.dn, i ∈ s.C
  closed : ∀ i ∈ s.dn, ∀ j ∈ depsOf ops i, L0.getD j false = true ∨ j ∈ s.dn
  ct : CT c ops e r s.post s.p s.el s.ol
  far : ∀ d ∈ dstsOf ops U, d ∉ dstsOf ops s.C → find (s.el ++ e) d = none
theorem mem_depsOf {ops : Array Oper} {i j : Nat} {x : Oper} (hx : ops[i]? = some x) : j ∈ depsOf ops i ↔ ∃ e ∈ x.after, Region.binds .any e = true ∧ e.on = j := by
  unfold depsOf
  rw [hx]
  simp only [List.mem_map, List.mem_filter, Array.mem_toList_iff]
  constructor
  · rintro ⟨e, ⟨h1, h2⟩, h3⟩; exact ⟨e, h1, h2, h3⟩
  · rintro ⟨e, h1, h2, h3⟩; exact ⟨e, ⟨h1, h2⟩, h3⟩
theorem find_app {A B : Env} {t : Nat} {v : Value} (h : find (A ++ B) t = some v) : find A t = some v ∨ find B t = some v := by
  induction A with
  | nil => exact .inr h
  | cons p A ih =>
    obtain ⟨k, u⟩ := p
    simp only [List.cons_append, find] at h ⊢
    split at h
    · rename_i hb; exact .inl h
    · exact ih h
theorem find_left {A B : Env} {t : Nat} {v : Value} (h : find A t = some v) : find (A ++ B) t = some v := by
  induction A with
  | nil => cases h
  | cons p A ih =>
    obtain ⟨k, u⟩ := p
    simp only [List.cons_append, find] at h ⊢
    split at h
    · exact h
    · exact ih h
theorem ERel.far {e : Env} {a : Array Value} {d : Option Tmp} {v : Value} (h : ERel e a) (hf : ∀ t, d = some t → find e t = none) : ERel e (X.put a d v) := by
  cases d with
  | none => exact h
  | some d =>
    intro t u hu
    have hne : d ≠ t := by
      rintro rfl
      rw [hf d rfl] at hu; cases hu
    have := h t u hu
    simpa [X.put, Array.getElem?_setIfInBounds_ne hne] using this
def FinAll : List (Env → List PHeap → Prop) → (Env → List PHeap → Prop) → Prop
  | [], K => K [] []
  | p :: ps, K => ∀ el ol, p el ol → FinAll ps (fun e2 o2 => K (el ++ e2) (ol ++ o2))
theorem FinAll.app : ∀ (cs : List CS) (K : Env → List PHeap → Prop), (∀ s ∈ cs, s.post s.el s.ol) → FinAll (cs.map (·.post)) K → K (cs.flatMap (·.el)) (cs.flatMap (·.ol))
  | [], K, _, h => h
  | s :: cs, K, hp, h => by
    have := FinAll.app cs _ (fun x hx => hp x (List.mem_cons_of_mem _ hx)) (h s.el s.ol (hp s List.mem_cons_self))
    simpa using this
theorem split_mid {α β : Type} (f : α → List β) {cs : List α} {s : α} {pre suf : List α} (h : cs = pre ++ s :: suf) : cs.flatMap f = pre.flatMap f ++ (f s ++ suf.flatMap f) := by
  rw [h, List.flatMap_append, List.flatMap_cons]

theorem mem_flat {cs : List CS} {i : Nat} : i ∈ cs.flatMap (·.C) ↔ ∃ s ∈ cs, i ∈ s.C := List.mem_flatMap
/-- Where two operations of a list without repeats write one variable, they are one. -/
theorem dst_one {ops : Array Oper} : ∀ {U : List Nat}, (dstsOf ops U).Nodup → ∀ {i j d : Nat}, i ∈ U → j ∈ U → dstO ops i = some d → dstO ops j = some d → i = j
  | [], _, _, _, _, hi, _, _, _ => by cases hi
  | a :: U, hn, i, j, d, hi, hj, h1, h2 => by
    have key : ∀ x, x ∈ U → dstO ops x = some d → dstO ops a = some d → False := fun x hx hx2 ha => by
      unfold dstsOf at hn
      rw [List.filterMap_cons_some ha] at hn
      exact (List.nodup_cons.1 hn).1 (List.mem_filterMap.2 ⟨x, hx, hx2⟩)
    have hn' : (dstsOf ops U).Nodup := by
      unfold dstsOf at hn ⊢
      cases ha : dstO ops a with
      | none => rwa [List.filterMap_cons_none ha] at hn
      | some y => rw [List.filterMap_cons_some ha] at hn; exact (List.nodup_cons.1 hn).2
    rcases List.mem_cons.1 hi with h3 | h3
    · rcases List.mem_cons.1 hj with h4 | h4
      · rw [h3, h4]
      · rw [h3] at h1; exact (key j h4 h2 h1).elim
    · rcases List.mem_cons.1 hj with h4 | h4
      · rw [h4] at h2; exact (key i h3 h1 h2).elim
      · exact dst_one hn' h3 h4 h1 h2
theorem nodup_mid {pre suf : List CS} {s s2 : CS} {i : Nat} (hn : ((pre ++ s :: suf).flatMap (·.C)).Nodup) (h1 : i ∈ s.C) (h2 : s2 ∈ pre ∨ s2 ∈ suf) : i ∉ s2.C := fun hc => by
  rw [List.flatMap_append, List.flatMap_cons, List.nodup_append] at hn
  obtain ⟨_, hb, hx⟩ := hn
  rw [List.nodup_append] at hb
  rcases h2 with h2 | h2
  · exact hx i (mem_flat.2 ⟨s2, h2, hc⟩) i (List.mem_append_left _ h1) rfl
  · exact hb.2.2 i h1 i (mem_flat.2 ⟨s2, h2, hc⟩) rfl
section
variable {c : Cx} {ops : Array Oper} {L0 : Array Bool} {e : Env} {o f r : List PHeap} {fl : List Nat} {D : PHeap}
/-- What is listed is what was at the start and what the parts have done. -/
def Lst (L0 : Array Bool) (cs : List CS) (l : Array Bool) (n : Nat) : Prop := l.size = n ∧ ∀ j, l.getD j false = true ↔ (L0.getD j false = true ∨ ∃ s ∈ cs, j ∈ s.dn)
theorem getD_lt {l : Array Bool} {j : Nat} (h : j < l.size) : l.getD j true = l.getD j false := by
  simp [h]
theorem net_ready {U : List Nat} {cs : List CS} (hcs : ∀ s ∈ cs, CSOk c ops L0 U e (o ++ r) s) (hU : U = cs.flatMap (·.C)) (hn : U.Nodup)
    (hrest : ∀ i, i < ops.size → L0.getD i true = true ∨ i ∈ U ∨ (∃ j ∈ depsOf ops i, L0.getD j false = false ∧ j ∉ U) ∨ ∀ s ∈ cs, s.z ∈ depsOf ops i)
    {l : Array Bool} (hl : Lst L0 cs l ops.size) (hsz : L0.size = ops.size) {i : Nat} (hi : i ∈ Region.ready .any ops l) (hinc : ∃ s ∈ cs, s.p ≠ .done) :
    ∃ pre s suf, cs = pre ++ s :: suf ∧ i ∈ s.C ∧ rdyC ops L0 s.dn i = true := by
  obtain ⟨h0, x, hx, hall⟩ := mem_ready.1 hi
  have hlt : i < ops.size := (Array.getElem?_eq_some_iff.1 hx).1
  have hun : l.getD i false = false := by rw [← getD_lt (by rw [hl.1]; exact hlt)]; exact h0
  have hdep : ∀ j ∈ depsOf ops i, l.getD j false = true := fun j hj => by
    obtain ⟨ed, he, hb, rfl⟩ := (mem_depsOf hx).1 hj
    exact hall ed he hb
  have hL : L0.getD i true = false := by
    rw [getD_lt (by rw [hsz]; exact hlt)]
    cases hc : L0.getD i false with
    | false => rfl
    | true => rw [(hl.2 i).2 (.inl hc)] at hun; cases hun
  rcases hrest i hlt with h | h | ⟨j, hj, hj0, hjU⟩ | h
  · rw [h] at hL; cases hL
  · rw [hU] at h
    obtain ⟨s, hs, hiC⟩ := mem_flat.1 h
    obtain ⟨pre, suf, hcs2⟩ := List.append_of_mem hs
    refine ⟨pre, s, suf, hcs2, hiC, ?_⟩
    have so := hcs s hs
    have us := so.uses
    simp only [usesC, Bool.and_eq_true, List.all_eq_true] at us
    have hA := (us.2 i hiC).2
    unfold rdyC
    simp only [Bool.and_eq_true, List.all_eq_true, Bool.not_eq_true', Bool.or_eq_true] at hA ⊢
    refine ⟨?_, fun j hj => ?_⟩
    · cases hc : s.dn.contains i with
      | false => rfl
      | true => rw [(hl.2 i).2 (.inr ⟨s, hs, by simpa using hc⟩)] at hun; cases hun
    · rcases (hl.2 j).1 (hdep j hj) with h1 | ⟨s2, hs2, hd⟩
      · exact .inl h1
      · rcases hA j hj with h1 | h1
        · exact .inl h1
        · have hjC : j ∈ s.C := by simpa using h1
          have hj2 := (hcs s2 hs2).sub j hd
          rw [hcs2] at hs2
          rcases List.mem_append.1 hs2 with h2 | h2
          · exact absurd hj2 (nodup_mid (by rw [← hcs2, ← hU]; exact hn) hjC (.inl h2))
          · rcases List.mem_cons.1 h2 with rfl | h2
            · right; simpa using hd
            · exact absurd hj2 (nodup_mid (by rw [← hcs2, ← hU]; exact hn) hjC (.inr h2))
  · exfalso
    have := hdep j hj
    rcases (hl.2 j).1 this with h1 | ⟨s, hs, hd⟩
    · rw [h1] at hj0; cases hj0
    · exact hjU (by rw [hU]; exact mem_flat.2 ⟨s, hs, (hcs s hs).sub j hd⟩)
  · exfalso
    obtain ⟨s, hs, hne⟩ := hinc
    have so := hcs s hs
    have us := so.uses
    simp only [usesC, Bool.and_eq_true, List.all_eq_true] at us
    have hzC : s.z ∈ s.C := by simpa using us.1
    have hz := hdep s.z (h s hs)
    have hz0 : L0.getD s.z false = false := by
      have h1 := (us.2 s.z hzC).1.1.2
      have h2 := (us.2 s.z hzC).1.1.1
      rw [Nat.blt_eq] at h2
      rw [← getD_lt (by rw [hsz]; exact h2)]
      simpa using h1
    have hzd : s.z ∈ s.dn := by
      rcases (hl.2 s.z).1 hz with h1 | ⟨s2, hs2, hd⟩
      · rw [h1] at hz0; cases hz0
      · obtain ⟨pre, suf, hcs2⟩ := List.append_of_mem hs
        have hj2 := (hcs s2 hs2).sub s.z hd
        rw [hcs2] at hs2
        rcases List.mem_append.1 hs2 with h2 | h2
        · exact absurd hj2 (nodup_mid (by rw [← hcs2, ← hU]; exact hn) hzC (.inl h2))
        · rcases List.mem_cons.1 h2 with rfl | h2
          · exact hd
          · exact absurd hj2 (nodup_mid (by rw [← hcs2, ← hU]; exact hn) hzC (.inr h2))
    have hC0 : ∀ k ∈ s.C, L0.getD k false = false := fun k hk => by
      have h3 := (us.2 k hk).1.1.2
      have h4 := (us.2 k hk).1.1.1
      rw [Nat.blt_eq] at h4
      rw [← getD_lt (by rw [hsz]; exact h4)]
      simpa using h3
    have hfull : ∀ k ∈ s.C, k ∈ s.dn := fun k hk =>
      clo_in hC0 so.closed _ [s.z] (fun j hj => by rw [List.mem_singleton] at hj; rw [hj]; exact hzd) k (by simpa using (us.2 k hk).1.2)
    rcases okC_alts s.p s.dn [] so.ok (fun i hi => by cases hi) with ⟨hp, _⟩ | ⟨_, h2, h3⟩
    · exact hne hp
    · have h4 := h3 rfl
      cases ha : alts s.p with
      | nil => exact h4 ha
      | cons q qs =>
        obtain ⟨k, t⟩ := q
        obtain ⟨b1, b2, _⟩ := h2 k t (by rw [ha]; exact List.mem_cons_self)
        have := hfull k b1
        unfold rdyC at b2
        rw [Bool.and_eq_true] at b2
        have b3 := b2.1
        simp [this] at b3

theorem Sep.toRead {D : PHeap} {ol o r : List PHeap} {B : PHeap} {w : World} (s : Sep (D :: (ol ++ o)) (B :: r) w) : Sep (D :: ol) (B :: (o ++ r)) w where
  pw := by
    have h := List.pairwise_cons.1 s.pw
    exact List.pairwise_cons.2 ⟨fun g hg => h.1 g (List.mem_append_left _ hg), (List.pairwise_append.1 h.2).1⟩
  dr := fun h hh g hg => by
    have hp := List.pairwise_cons.1 s.pw
    rcases List.mem_cons.1 hg with rfl | hg
    · refine s.dr h ?_ g List.mem_cons_self
      rcases List.mem_cons.1 hh with rfl | hh
      · exact List.mem_cons_self
      · exact List.mem_cons_of_mem _ (List.mem_append_left _ hh)
    · rcases List.mem_append.1 hg with hg | hg
      · rcases List.mem_cons.1 hh with rfl | hh
        · exact hp.1 g (List.mem_append_right _ hg)
        · exact (List.pairwise_append.1 hp.2).2.2 h hh g hg
      · refine s.dr h ?_ g (List.mem_cons_of_mem _ hg)
        rcases List.mem_cons.1 hh with rfl | hh
        · exact List.mem_cons_self
        · exact List.mem_cons_of_mem _ (List.mem_append_left _ hh)
  so := fun h hh => s.so h (by
    rcases List.mem_cons.1 hh with rfl | hh
    · exact List.mem_cons_self
    · exact List.mem_cons_of_mem _ (List.mem_append_left _ hh))
  sr := fun g hg => by
    rcases List.mem_cons.1 hg with rfl | hg
    · exact s.sr g List.mem_cons_self
    · rcases List.mem_append.1 hg with hg | hg
      · exact s.so g (List.mem_cons_of_mem _ (List.mem_append_right _ hg))
      · exact s.sr g (List.mem_cons_of_mem _ hg)
  no := fun h hh => s.no h (by
    rcases List.mem_cons.1 hh with rfl | hh
    · exact List.mem_cons_self
    · exact List.mem_cons_of_mem _ (List.mem_append_left _ hh))
  sm := fun g hg m hm => by
    rcases List.mem_cons.1 hg with rfl | hg
    · exact s.sm g List.mem_cons_self m hm
    · rcases List.mem_append.1 hg with hg | hg
      · rw [s.no g (List.mem_cons_of_mem _ (List.mem_append_right _ hg))] at hm; cases hm
      · exact s.sm g (List.mem_cons_of_mem _ hg) m hm
theorem Sep.toOwn {D : PHeap} {ol o r : List PHeap} {B : PHeap} {w : World} (s : Sep (D :: ol) (B :: (o ++ r)) w) (hpw : (D :: o).Pairwise Disj) (hno : ∀ h ∈ o, h.m = none) (hdr : ∀ h ∈ o, ∀ g ∈ B :: r, Disj h g) : Sep (D :: (ol ++ o)) (B :: r) w where
  pw := by
    have h := List.pairwise_cons.1 s.pw
    have h2 := List.pairwise_cons.1 hpw
    refine List.pairwise_cons.2 ⟨fun g hg => ?_, List.pairwise_append.2 ⟨h.2, h2.2, fun a ha b hb => s.dr a (List.mem_cons_of_mem _ ha) b (List.mem_cons_of_mem _ (List.mem_append_left _ hb))⟩⟩
    rcases List.mem_append.1 hg with hg | hg
    · exact h.1 g hg
    · exact h2.1 g hg
  dr := fun h hh g hg => by
    have hg' : g ∈ B :: (o ++ r) := by
      rcases List.mem_cons.1 hg with rfl | hg
      · exact List.mem_cons_self
      · exact List.mem_cons_of_mem _ (List.mem_append_right _ hg)
    rcases List.mem_cons.1 hh with rfl | hh
    · exact s.dr h List.mem_cons_self g hg'
    · rcases List.mem_append.1 hh with hh | hh
      · exact s.dr h (List.mem_cons_of_mem _ hh) g hg'
      · exact hdr h hh g hg
  so := fun h hh => by
    rcases List.mem_cons.1 hh with rfl | hh
    · exact s.so h List.mem_cons_self
    · rcases List.mem_append.1 hh with hh | hh
      · exact s.so h (List.mem_cons_of_mem _ hh)
      · exact s.sr h (List.mem_cons_of_mem _ (List.mem_append_left _ hh))
  sr := fun g hg => s.sr g (by
    rcases List.mem_cons.1 hg with rfl | hg
    · exact List.mem_cons_self
    · exact List.mem_cons_of_mem _ (List.mem_append_right _ hg))
  no := fun h hh => by
    rcases List.mem_cons.1 hh with rfl | hh
    · exact s.no h List.mem_cons_self
    · rcases List.mem_append.1 hh with hh | hh
      · exact s.no h (List.mem_cons_of_mem _ hh)
      · exact hno h hh
  sm := fun g hg => s.sm g (by
    rcases List.mem_cons.1 hg with rfl | hg
    · exact List.mem_cons_self
    · exact List.mem_cons_of_mem _ (List.mem_append_right _ hg))
theorem Stp.away {P : Program} {x : Oper} {e : Env} {ol r : List PHeap} {Ψ : Value → List PHeap → Prop} (s : Stp P ops x e ol r Ψ) {oth : List PHeap} {a : Array Value} {w : World} (he : ERel e a) (hs : Sep (oth ++ ol) r w) :
    Does P ops x a w fun v w' => ∃ o', Ψ v o' ∧ Sep (oth ++ o') r w' := by
  have pd : PD oth := ⟨(List.pairwise_append.1 hs.pw).1, fun h hh => hs.no h (List.mem_append_left _ hh)⟩
  have hj : Sep (X.join oth :: ol) r w := Sep.join hs
  refine (s (X.join oth) a w he hj).mono fun v w' ⟨o2, ⟨o', hΨ, hp⟩, h2⟩ => ⟨o', hΨ, Sep.split pd (h2.perm hp)⟩
def cdepths (cs : List CS) : Nat := (cs.map fun s => cdepth s.p).sum
theorem cdepths_mid {pre suf : List CS} {s : CS} : cdepths (pre ++ s :: suf) = cdepths pre + (cdepth s.p + cdepths suf) := by
  unfold cdepths
  rw [List.map_append, List.map_cons, List.sum_append, List.sum_cons]
theorem net_alt {cs : List CS} {U : List Nat} (hcs : ∀ s ∈ cs, CSOk c ops L0 U e (o ++ r) s) {s : CS} (hs : s ∈ cs) (hne : s.p ≠ .done) : ∃ k t, (k, t) ∈ alts s.p ∧ k ∈ s.C ∧ rdyC ops L0 s.dn k = true ∧ cdepth t + 1 ≤ cdepth s.p := by
  have so := hcs s hs
  rcases okC_alts s.p s.dn [] so.ok (fun i hi => by cases hi) with ⟨hp, _⟩ | ⟨_, h2, h3⟩
  · exact absurd hp hne
  · cases ha : alts s.p with
    | nil => exact absurd ha (h3 rfl)
    | cons q qs =>
      obtain ⟨k, t⟩ := q
      obtain ⟨b1, b2, _, b4⟩ := h2 k t (by rw [ha]; exact List.mem_cons_self)
      exact ⟨k, t, List.mem_cons_self, b1, b2, b4⟩
theorem net_more {cs : List CS} {U : List Nat} (hcs : ∀ s ∈ cs, CSOk c ops L0 U e (o ++ r) s) {s : CS} (hs : s ∈ cs) (hne : s.p ≠ .done) : 1 ≤ cdepths cs := by
  obtain ⟨k, t, _, _, _, h⟩ := net_alt hcs hs hne
  obtain ⟨pre, suf, hcs2⟩ := List.append_of_mem hs
  rw [hcs2, cdepths_mid]; omega
theorem net_some {cs : List CS} {U : List Nat} (hcs : ∀ s ∈ cs, CSOk c ops L0 U e (o ++ r) s) (hU : U = cs.flatMap (·.C)) (hn : U.Nodup) {l : Array Bool} (hl : Lst L0 cs l ops.size) (hsz : L0.size = ops.size) {s : CS} (hs : s ∈ cs) (hne : s.p ≠ .done) :
    ∃ k, k ∈ Region.ready .any ops l := by
  obtain ⟨k, t, hm, hkC, hrd, _⟩ := net_alt hcs hs hne
  have so := hcs s hs
  obtain ⟨x, Ψ, hx, _⟩ := so.ct.alt hm
  have hlt : k < ops.size := (Array.getElem?_eq_some_iff.1 hx).1
  have us := so.uses
  simp only [usesC, Bool.and_eq_true, List.all_eq_true] at us
  have hk0 := (us.2 k hkC).1.1.2
  unfold rdyC at hrd
  simp only [Bool.and_eq_true, List.all_eq_true, Bool.or_eq_true] at hrd
  refine ⟨k, mem_ready.2 ⟨?_, x, hx, fun ed he hb => ?_⟩⟩
  · rw [getD_lt (by rw [hl.1]; exact hlt)]
    cases hc : l.getD k false with
    | false => rfl
    | true =>
      exfalso
      rcases (hl.2 k).1 hc with h1 | ⟨s2, hs2, hd⟩
      · rw [getD_lt (by rw [hsz]; exact hlt), h1] at hk0; cases hk0
      · have hk2 := (hcs s2 hs2).sub k hd
        obtain ⟨pre, suf, hcs2⟩ := List.append_of_mem hs
        rw [hcs2] at hs2
        rcases List.mem_append.1 hs2 with h2 | h2
        · exact nodup_mid (by rw [← hcs2, ← hU]; exact hn) hkC (.inl h2) hk2
        · rcases List.mem_cons.1 h2 with rfl | h2
          · have b3 := hrd.1
            simp [hd] at b3
          · exact nodup_mid (by rw [← hcs2, ← hU]; exact hn) hkC (.inr h2) hk2
  · refine (hl.2 _).2 ?_
    rcases hrd.2 ed.on ((mem_depsOf hx).2 ⟨ed, he, hb, rfl⟩) with h1 | h1
    · exact .inl h1
    · exact .inr ⟨s, hs, by simpa using h1⟩
theorem ERel.flat {cs : List CS} {a : Array Value} (hes : ∀ s ∈ cs, ERel (s.el ++ e) a) (he : ERel e a) : ERel (cs.flatMap (·.el) ++ e) a := by
  induction cs with
  | nil => exact he
  | cons s cs ih =>
    intro t v h
    rw [List.flatMap_cons, List.append_assoc] at h
    rcases find_app h with h1 | h1
    · exact hes s List.mem_cons_self t v (find_left h1)
    · exact ih (fun x hx => hes x (List.mem_cons_of_mem _ hx)) t v h1
theorem net_end {U : List Nat} {Q : Array Value → World → Prop} {K : Env → List PHeap → Prop} {posts : List (Env → List PHeap → Prop)} {T n : Nat} {cs : List CS} {l : Array Bool} {a : Array Value} {w : World} (hcs : ∀ s ∈ cs, CSOk c ops L0 U e (o ++ r) s) (hU : cs.flatMap (·.C) = U) (hp : cs.map (·.post) = posts)
    (hl : Lst L0 cs l ops.size) (ha : a.size = c.N) (hes : ∀ s ∈ cs, ERel (s.el ++ e) a) (he : ERel e a) (hs : Sep (D :: cs.flatMap (·.ol)) (c.B :: (o ++ r)) w) (hT : cdepths cs + T ≤ n) (hall : ∀ s ∈ cs, s.p = .done)
    (hpw : (D :: o).Pairwise Disj) (hno : ∀ h ∈ o, h.m = none) (hdr : ∀ h ∈ o, ∀ g ∈ c.B :: r, Disj h g) (hK : FinAll posts K)
    (hfin : ∀ n l a w el ol, K el ol → T ≤ n → l.size = ops.size → (∀ j, l.getD j false = true ↔ (L0.getD j false = true ∨ j ∈ U)) → a.size = c.N → ERel (el ++ e) a → Sep (D :: (ol ++ o)) (c.B :: r) w → Any c.P ops (Sf f (c.B :: r)) fl Q n l a w) :
    Any c.P ops (Sf f (c.B :: r)) fl Q n l a w := by
  have hposts : ∀ s ∈ cs, s.post s.el s.ol := fun s hs => by
    have := (hcs s hs).ct
    rw [hall s hs] at this
    exact this
  have hk := FinAll.app cs K hposts (by rw [hp]; exact hK)
  refine hfin n l a w _ _ hk (by omega) hl.1 (fun j => ?_) ha (ERel.flat hes he) (hs.toOwn hpw hno hdr)
  rw [hl.2 j]
  constructor
  · rintro (h | ⟨s, hs, hj⟩)
    · exact .inl h
    · exact .inr (by rw [← hU]; exact mem_flat.2 ⟨s, hs, (hcs s hs).sub j hj⟩)
  · rintro (h | h)
    · exact .inl h
    · right
      rw [← hU] at h
      obtain ⟨s, hs, hj⟩ := mem_flat.1 h
      refine ⟨s, hs, ?_⟩
      rcases okC_alts s.p s.dn [] (hcs s hs).ok (fun i hi => by cases hi) with ⟨_, hf⟩ | ⟨_, _, h3⟩
      · exact hf j hj
      · exact absurd (by rw [hall s hs]; rfl) (h3 rfl)
theorem net_sound {U zs : List Nat} {Q : Array Value → World → Prop} {K : Env → List PHeap → Prop} {posts : List (Env → List PHeap → Prop)} {T : Nat} (hn : U.Nodup) (hdn : (dstsOf ops U).Nodup) (hkill : ∀ d ∈ dstsOf ops U, find e d = none) (hsz : L0.size = ops.size)
    (hrest : ∀ i, i < ops.size → L0.getD i true = true ∨ i ∈ U ∨ (∃ j ∈ depsOf ops i, L0.getD j false = false ∧ j ∉ U) ∨ ∀ z ∈ zs, z ∈ depsOf ops i)
    (hf : ∀ h ∈ f, h ∈ o) (hpw : (D :: o).Pairwise Disj) (hno : ∀ h ∈ o, h.m = none) (hdr : ∀ h ∈ o, ∀ g ∈ c.B :: r, Disj h g) (hK : FinAll posts K)
    (hfin : ∀ n l a w el ol, K el ol → T ≤ n → l.size = ops.size → (∀ j, l.getD j false = true ↔ (L0.getD j false = true ∨ j ∈ U)) → a.size = c.N → ERel (el ++ e) a → Sep (D :: (ol ++ o)) (c.B :: r) w → Any c.P ops (Sf f (c.B :: r)) fl Q n l a w) :
    ∀ (n : Nat) (cs : List CS) (l : Array Bool) (a : Array Value) (w : World), (∀ s ∈ cs, CSOk c ops L0 U e (o ++ r) s) → cs.flatMap (·.C) = U → cs.map (·.z) = zs → cs.map (·.post) = posts → Lst L0 cs l ops.size → a.size = c.N →
      (∀ s ∈ cs, ERel (s.el ++ e) a) → ERel e a → Sep (D :: cs.flatMap (·.ol)) (c.B :: (o ++ r)) w → cdepths cs + T ≤ n → Any c.P ops (Sf f (c.B :: r)) fl Q n l a w := by
  intro n
  induction n with
  | zero =>
    intro cs l a w hcs hU hz hp hl ha hes he hs hT
    by_cases hall : ∀ s ∈ cs, s.p = .done
    · exact net_end hcs hU hp hl ha hes he hs hT hall hpw hno hdr hK hfin
    · exfalso
      simp only [Classical.not_forall] at hall
      obtain ⟨s, hs1, hne⟩ := hall
      have := net_more hcs hs1 hne
      omega
  | succ n ih =>
    intro cs l a w hcs hU hz hp hl ha hes he hs hT
    by_cases hall : ∀ s ∈ cs, s.p = .done
    · exact net_end hcs hU hp hl ha hes he hs hT hall hpw hno hdr hK hfin
    · simp only [Classical.not_forall] at hall
      obtain ⟨s0, hs0, hne0⟩ := hall
      refine ⟨fun hnil => ?_, fun i hi x hx => ?_⟩
      · exfalso
        obtain ⟨k, hk⟩ := net_some hcs hU.symm hn hl hsz hs0 hne0
        rw [hnil] at hk; cases hk
      · obtain ⟨pre, s, suf, hcs2, hiC, hrd⟩ := net_ready hcs hU.symm hn (fun i hi => by
          rcases hrest i hi with h | h | h | h
          · exact .inl h
          · exact .inr (.inl h)
          · exact .inr (.inr (.inl h))
          · exact .inr (.inr (.inr fun s hs => h s.z (by rw [← hz]; exact List.mem_map.2 ⟨s, hs, rfl⟩)))) hl hsz hi ⟨s0, hs0, hne0⟩
        have hsm : s ∈ cs := by rw [hcs2]; simp
        have so := hcs s hsm
        rcases okC_alts s.p s.dn [] so.ok (fun i hi => by cases hi) with ⟨hpd, hfull⟩ | ⟨h1, h2, _⟩
        · exfalso
          have := hfull i hiC
          unfold rdyC at hrd
          rw [Bool.and_eq_true] at hrd
          have b3 := hrd.1
          simp [this] at b3
        · obtain ⟨t, ht⟩ := (h1 i hiC hrd).resolve_left (fun h => by cases h)
          obtain ⟨_, _, hokt, hcd⟩ := h2 i t ht
          obtain ⟨x', Ψ, hx', hko, hst, hnx⟩ := so.ct.alt ht
          rw [hx] at hx'; cases hx'
          have hperm : (D :: cs.flatMap (·.ol)).Perm ((D :: (pre.flatMap (·.ol) ++ suf.flatMap (·.ol))) ++ s.ol) := by
            rw [split_mid _ hcs2]
            show (D :: (pre.flatMap (·.ol) ++ (s.ol ++ suf.flatMap (·.ol)))).Perm (D :: ((pre.flatMap (·.ol) ++ suf.flatMap (·.ol)) ++ s.ol))
            refine List.Perm.cons _ ?_
            rw [List.append_assoc]
            exact List.Perm.append_left _ List.perm_append_comm
          refine (hst.away (he := hes s hsm) (hs.perm hperm)).mono fun v w' ⟨o', hΨ, hs'⟩ => ⟨fun _ => ⟨fun h hh => hs'.sr h (List.mem_cons_of_mem _ (List.mem_append_left _ (hf h hh))), fun h hh => hs'.sr h (by
            rcases List.mem_cons.1 hh with rfl | hh
            · exact List.mem_cons_self
            · exact List.mem_cons_of_mem _ (List.mem_append_right _ hh))⟩, ?_⟩
          have hUi : i ∈ U := by rw [← hU]; exact mem_flat.2 ⟨s, hsm, hiC⟩
          have hdi : ∀ d, x.dst = some d → dstO ops i = some d := fun d hd => by unfold dstO; rw [hx]; exact hd
          have hCsub : ∀ k ∈ s.C, k ∈ U := fun k hk => by rw [← hU]; exact mem_flat.2 ⟨s, hsm, hk⟩
          -- another part knows nothing of this operation's variable
          have hother : ∀ s2, s2 ∈ pre ∨ s2 ∈ suf → ∀ d, x.dst = some d → find (s2.el ++ e) d = none := fun s2 hs2 d hd => by
            have hs2m : s2 ∈ cs := by rw [hcs2]; rcases hs2 with h | h <;> simp [h]
            refine (hcs s2 hs2m).far d (List.mem_filterMap.2 ⟨i, hUi, hdi d hd⟩) fun hc => ?_
            obtain ⟨j, hj, hjd⟩ := List.mem_filterMap.1 hc
            have hjU : j ∈ U := by rw [← hU]; exact mem_flat.2 ⟨s2, hs2m, hj⟩
            have := dst_one hdn hUi hjU (hdi d hd) hjd
            subst this
            exact nodup_mid (by rw [← hcs2, hU]; exact hn) hiC hs2 hj
          refine ih (pre ++ { s with p := t, dn := i :: s.dn, el := puts s.el x.dst v, ol := o' } :: suf) (l.setIfInBounds i true) (X.put a x.dst v) w' ?_ ?_ ?_ ?_ ?_ ?_ ?_ ?_ ?_ ?_
          · intro s2 hs2
            rcases List.mem_append.1 hs2 with h | h
            · exact hcs s2 (by rw [hcs2]; simp [h])
            · rcases List.mem_cons.1 h with rfl | h
              · refine ⟨hokt, so.uses, fun k hk => ?_, fun k hk j hj => ?_, hnx v o' hΨ, fun d hdU hdC => ?_⟩
                · rcases List.mem_cons.1 hk with rfl | hk
                  · exact hiC
                  · exact so.sub k hk
                · rcases List.mem_cons.1 hk with rfl | hk
                  · unfold rdyC at hrd
                    simp only [Bool.and_eq_true, List.all_eq_true, Bool.or_eq_true] at hrd
                    rcases hrd.2 j hj with h5 | h5
                    · exact .inl h5
                    · exact .inr (List.mem_cons_of_mem _ (by simpa using h5))
                  · rcases so.closed k hk j hj with h5 | h5
                    · exact .inl h5
                    · exact .inr (List.mem_cons_of_mem _ h5)
                · have h0 := so.far d hdU hdC
                  cases hxd : x.dst with
                  | none => exact h0
                  | some d2 =>
                    have hne : d ≠ d2 := by
                      rintro rfl
                      exact hdC (List.mem_filterMap.2 ⟨i, hiC, hdi d hxd⟩)
                    show find ((d2, some v) :: (s.el ++ e)) d = none
                    rw [find]
                    have : Nat.beq d d2 = false := by
                      cases hb : Nat.beq d d2 with
                      | false => rfl
                      | true => exact absurd (Nat.eq_of_beq_eq_true hb) hne
                    rw [this]; exact h0
              · exact hcs s2 (by rw [hcs2]; simp [h])
          · rw [← hU, hcs2]; simp
          · rw [← hz, hcs2]; simp
          · rw [← hp, hcs2]; simp
          · refine ⟨by simp [hl.1], fun j => ?_⟩
            have hlt : i < l.size := by rw [hl.1]; exact (Array.getElem?_eq_some_iff.1 hx).1
            by_cases hij : i = j
            · subst hij
              have : (l.setIfInBounds i true).getD i false = true := by simp [hlt]
              rw [this]
              exact ⟨fun _ => .inr ⟨_, List.mem_append_right _ List.mem_cons_self, List.mem_cons_self⟩, fun _ => rfl⟩
            · rw [getD_set_ne false hij, hl.2 j]
              constructor
              · rintro (h | ⟨s2, hs2, hj⟩)
                · exact .inl h
                · right
                  rw [hcs2] at hs2
                  rcases List.mem_append.1 hs2 with h | h
                  · exact ⟨s2, List.mem_append_left _ h, hj⟩
                  · rcases List.mem_cons.1 h with rfl | h
                    · exact ⟨_, List.mem_append_right _ List.mem_cons_self, List.mem_cons_of_mem _ hj⟩
                    · exact ⟨s2, List.mem_append_right _ (List.mem_cons_of_mem _ h), hj⟩
              · rintro (h | ⟨s2, hs2, hj⟩)
                · exact .inl h
                · right
                  rcases List.mem_append.1 hs2 with h | h
                  · exact ⟨s2, by rw [hcs2]; simp [h], hj⟩
                  · rcases List.mem_cons.1 h with rfl | h
                    · rcases List.mem_cons.1 hj with rfl | hj
                      · exact absurd rfl hij
                      · exact ⟨s, hsm, hj⟩
                    · exact ⟨s2, by rw [hcs2]; simp [h], hj⟩
          · rw [size_put, ha]
          · intro s2 hs2
            rcases List.mem_append.1 hs2 with h | h
            · exact (hes s2 (by rw [hcs2]; simp [h])).far (hother s2 (.inl h))
            · rcases List.mem_cons.1 h with rfl | h
              · have := (hes s hsm).puts (v := v) ha hko
                cases hxd : x.dst with
                | none => rw [hxd] at this; exact this
                | some d => rw [hxd] at this; exact this
              · exact (hes s2 (by rw [hcs2]; simp [h])).far (hother s2 (.inr h))
          · exact he.far fun d hd => hkill d (List.mem_filterMap.2 ⟨i, hUi, hdi d hd⟩)
          · refine hs'.perm ?_
            rw [List.flatMap_append, List.flatMap_cons]
            show (D :: ((pre.flatMap (·.ol) ++ suf.flatMap (·.ol)) ++ o')).Perm (D :: _)
            refine List.Perm.cons _ ?_
            rw [List.append_assoc]
            exact List.Perm.append_left _ List.perm_append_comm
          · rw [hcs2, cdepths_mid] at hT
            rw [cdepths_mid]
            dsimp only
            omega
end
/-! ### the region -/
def XQ (c : Cx) (ops : Array Oper) (f r : List PHeap) (fin : Env → List PHeap → Prop) : List Nat → Env → List PHeap → Prop
  | [], e, o => fin e o
  | i :: qs, e, o => ∃ x v, ops[i]? = some x ∧ okOper c.N x = true ∧ Quiet c.P ops x e f (c.B :: r) v ∧ XQ c ops f r fin qs (puts e x.dst v) o
def qsOk (ops : Array Oper) (fl : List Nat) : List Nat → Array Bool → Bool
  | [], _ => true
  | i :: qs, l => (Region.ready .any ops l).contains i && Region.free .any ops l i && fl.contains i && qsOk ops fl qs (l.setIfInBounds i true)
def listQ (qs : List Nat) (l : Array Bool) : Array Bool := qs.foldl (fun l i => l.setIfInBounds i true) l
def CTs (c : Cx) (ops : Array Oper) (e : Env) (r : List PHeap) : List (List Nat × Nat × Plan) → List (Env → List PHeap → Prop) → Prop
  | [], [] => True
  | s :: cs, p :: ps => CT c ops e r p s.2.2 [] [] ∧ CTs c ops e r cs ps
  | _, _ => False
/-- The parts, each alone, and what follows when all are done. -/
def XN (c : Cx) (ops : Array Oper) (fl : List Nat) (f : List PHeap) (k : List Item) (r : List PHeap) (cs : List (List Nat × Nat × Plan)) (ds : List Nat) (t : Plan) (e : Env) (o : List PHeap) : Prop :=
  ∃ posts, CTs c ops (kills ds e) (o ++ r) cs posts ∧ FinAll posts (fun el ol => XT c ops fl f k r t (el ++ kills ds e) (ol ++ o))
def cdep (cs : List (List Nat × Nat × Plan)) : Nat := (cs.map fun s => cdepth s.2.2).sum
theorem listQ_size (qs : List Nat) : ∀ l : Array Bool, (listQ qs l).size = l.size := by
  induction qs with
  | nil => intro l; rfl
  | cons i qs ih => intro l; show (listQ qs (l.setIfInBounds i true)).size = _; rw [ih]; simp
theorem listQ_get {qs : List Nat} : ∀ {l : Array Bool} {j : Nat}, (∀ i ∈ qs, i < l.size) → ((listQ qs l).getD j false = true ↔ (l.getD j false = true ∨ j ∈ qs)) := by
  induction qs with
  | nil => intro l j _; simp [listQ]
  | cons i qs ih =>
    intro l j h
    show (listQ qs (l.setIfInBounds i true)).getD j false = true ↔ _
    rw [ih fun k hk => by rw [Array.size_setIfInBounds]; exact h k (List.mem_cons_of_mem _ hk)]
    have hi := h i List.mem_cons_self
    by_cases hij : i = j
    · subst hij
      have : (l.setIfInBounds i true).getD i false = true := by simp [hi]
      simp [this]
    · rw [getD_set_ne false hij, List.mem_cons]
      constructor
      · rintro (h | h)
        · exact .inl h
        · exact .inr (.inr h)
      · rintro (h | h | h)
        · exact .inl h
        · exact absurd h.symm hij
        · exact .inr h
theorem bools_eq {a b : Array Bool} (hs : a.size = b.size) (h : ∀ j, a.getD j false = true ↔ b.getD j false = true) : a = b := by
  refine Array.ext hs fun i h1 h2 => ?_
  have := h i
  simp only [Array.getD_eq_getD_getElem?, Array.getElem?_eq_getElem h1, Array.getElem?_eq_getElem h2, Option.getD_some] at this
  cases ha : a[i] <;> cases hb : b[i] <;> simp_all
theorem memN_false {t : Nat} : ∀ {ks : List Nat}, memN t ks = false → t ∉ ks
  | [], _ => by simp
  | s :: ss, h => by
    rw [memN] at h
    split at h
    · cases h
    · rename_i hb
      rw [List.mem_cons, not_or]
      exact ⟨(fun he => by subst he; rw [Nat.beq_refl] at hb; cases hb), memN_false h⟩
theorem find_killed {ks : List Nat} {e : Env} {d : Nat} (h : d ∈ ks) : find (kills ks e) d = none := by
  cases hf : find (kills ks e) d with
  | none => rfl
  | some v => exact absurd h (memN_false (find_kills hf).1)
section
variable {c : Cx} {k : List Item} {f r : List PHeap} {fl : List Nat} {ops : Array Oper}
theorem CTs.states {e : Env} {rr : List PHeap} : ∀ {cs : List (List Nat × Nat × Plan)} {posts : List (Env → List PHeap → Prop)}, CTs c ops e rr cs posts →
    ∃ ss : List CS, ss.map (·.post) = posts ∧ ss.flatMap (·.C) = cs.flatMap (·.1) ∧ ss.map (·.z) = cs.map (·.2.1) ∧ ss.flatMap (·.ol) = [] ∧ cdepths ss = cdep cs ∧
      ∀ s ∈ ss, s.dn = [] ∧ s.el = [] ∧ CT c ops e rr s.post s.p s.el s.ol ∧ (s.C, s.z, s.p) ∈ cs
  | [], [], _ => ⟨[], rfl, rfl, rfl, rfl, rfl, (fun s h => absurd h List.not_mem_nil)⟩
  | s :: cs, p :: ps, h => by
    obtain ⟨ss, h1, h2, h3, h4, h5, h6⟩ := CTs.states h.2
    refine ⟨⟨s.1, s.2.1, s.2.2, [], [], [], p⟩ :: ss, by rw [List.map_cons, h1], by rw [List.flatMap_cons, List.flatMap_cons, h2], by rw [List.map_cons, List.map_cons, h3], by rw [List.flatMap_cons, h4]; rfl, ?_, fun x hx => ?_⟩
    · unfold cdepths cdep at h5 ⊢
      rw [List.map_cons, List.map_cons, List.sum_cons, List.sum_cons, h5]
    · rcases List.mem_cons.1 hx with rfl | hx
      · exact ⟨rfl, rfl, h.1, List.mem_cons_self⟩
      · obtain ⟨a, b, d, e⟩ := h6 x hx
        exact ⟨a, b, d, List.mem_cons_of_mem _ e⟩
  | [], _ :: _, h => h.elim
  | _ :: _, [], h => h.elim
theorem xq_sound {D : PHeap} {Q : Array Value → World → Prop} {fin : Env → List PHeap → Prop} (hsel : Region.noSelect ops = true) (M : Nat) :
    ∀ (qs : List Nat) (n : Nat) (l : Array Bool) (e : Env) (o : List PHeap) (a : Array Value) (w : World), qsOk ops fl qs l = true → qs.length + M ≤ n → XQ c ops f r fin qs e o → a.size = c.N → ERel e a → Sep (D :: o) (c.B :: r) w → Sf f (c.B :: r) w →
      (∀ n e a w, M ≤ n → fin e o → a.size = c.N → ERel e a → Sep (D :: o) (c.B :: r) w → Sf f (c.B :: r) w → Any c.P ops (Sf f (c.B :: r)) fl Q n (listQ qs l) a w) → Any c.P ops (Sf f (c.B :: r)) fl Q n l a w
  | [], n, l, e, o, a, w, _, hn, hX, ha, he, hs, hS, hfin => hfin n e a w (by simpa using hn) hX ha he hs hS
  | i :: qs, n, l, e, o, a, w, hok, hn, hX, ha, he, hs, hS, hfin => by
    simp only [qsOk, Bool.and_eq_true] at hok
    obtain ⟨⟨⟨hr, hf⟩, hfl⟩, hok'⟩ := hok
    obtain ⟨x, v, hx, hko, hq, hX'⟩ := hX
    simp only [List.length_cons] at hn
    obtain ⟨m, rfl⟩ : ∃ m, n = m + 1 := ⟨n - 1, by omega⟩
    refine any_first hx (Region.noSelect_spec hsel) (by simpa using hfl) m l a w (Region.free_spec hx hf) (by simpa using hr) (fun w' hw' => hq a w' he hw') hS ?_
    exact xq_sound hsel M qs m _ _ o _ w hok' (by omega) hX' (by rw [size_put, ha]) (he.puts ha hko) hs hS hfin
def drawOk (ops : Array Oper) (fl qs : List Nat) (cs : List (List Nat × Nat × Plan)) (ds : List Nat) (t : Plan) : Bool :=
  let l0 := Array.replicate ops.size false
  let L0 := listQ qs l0
  Region.noSelect ops && qsOk ops fl qs l0 && netOk ops L0 cs && (dstsOf ops (cs.flatMap (·.1))).all (fun d => ds.contains d) && t.ok ops fl (listQ (cs.flatMap (·.1)) L0) [] && Nat.ble (qs.length + (cdep cs + t.depth)) ops.size
theorem XK.drawNet {id : Nat} {l : List Oper} {e : Env} {o : List PHeap} (fl : List Nat) (f : List PHeap) (qs : List Nat) (cs : List (List Nat × Nat × Plan)) (ds : List Nat) (t : Plan) (hmix : c.P.follows .mixedOrders = true) (hl : l.all (okOper c.N) = true)
    (hok : drawOk l.toArray fl qs cs ds t = true) (hf : AllIn f o [])
    (h : XQ c l.toArray f r (XN c l.toArray fl f k r cs ds t) qs e o) : XK c (.code (.region id l.toArray true) :: k) e o r := fun D dd a w cs0 ha he hD hs => by
  unfold drawOk at hok
  simp only [Bool.and_eq_true] at hok
  obtain ⟨⟨⟨⟨⟨hsel, hqs⟩, hnet⟩, hds⟩, htok⟩, hdep⟩ := hok
  have hdep := Nat.le_of_ble_eq_true hdep
  simp only [List.size_toArray] at hqs hnet htok hdep
  have hs1 : Sep (D :: o) (c.B :: r) { w with drawn := w.drawn + 1 } := ⟨hs.pw, hs.dr, hs.so, hs.sr, hs.no, hs.sm⟩
  have hfo : ∀ g ∈ f, g ∈ o := fun g hg => (hf.pf g hg).elim (fun h => h) (fun h => by cases h)
  have hA : Any c.P l.toArray (Sf f (c.B :: r)) fl (fun a' w' => ∀ cs, ∃ fr w'', c.E fr w'' ∧ Steps c.P (lone (mk c.f c.rd a' (marks dd) k) cs w') (lone fr cs w'')) l.length (Array.replicate l.length false) a { w with drawn := w.drawn + 1 } := by
    refine xq_sound hsel (cdep cs + t.depth) qs l.length _ e o a _ hqs (by omega) h ha he hs1 ⟨fun g hg => hs1.so g (List.mem_cons_of_mem _ (hfo g hg)), hs1.sr⟩ ?_
    intro n e1 a1 w1 hn1 ⟨posts, hC, hF⟩ ha1 he1 hs2 hSf
    obtain ⟨ss, p1, p2, p3, p4, p5, p6⟩ := hC.states
    simp only [netOk, Bool.and_eq_true, List.all_eq_true] at hnet
    obtain ⟨⟨⟨hparts, hnd⟩, hdd⟩, hrest⟩ := hnet
    have hnd := nodupB_iff hnd
    have hdd := nodupB_iff hdd
    have hL0 : (listQ qs (Array.replicate l.length false)).size = l.toArray.size := by rw [listQ_size]; simp
    have hkill : ∀ d ∈ dstsOf l.toArray (cs.flatMap (·.1)), find (kills ds e1) d = none := fun d hd => find_killed (by
      have := (List.all_eq_true.1 hds) d hd
      simpa using this)
    have hek : ERel (kills ds e1) a1 := fun t v hv => he1 t v (find_kills hv).2
    have hq := List.pairwise_cons.1 hs2.pw
    refine net_sound (U := cs.flatMap (·.1)) (zs := cs.map (·.2.1)) (T := t.depth) (o := o) hnd hdd hkill hL0 ?_ hfo hs2.pw (fun g hg => hs2.no g (List.mem_cons_of_mem _ hg)) (fun g hg => hs2.dr g (List.mem_cons_of_mem _ hg)) hF ?_ n ss _ a1 w1 ?_ p2 p3 p1 ⟨hL0, fun j => ?_⟩ ha1 ?_ hek ?_ (by rw [p5]; exact hn1)
    · intro i hi
      have := hrest i (List.mem_range.2 (by simpa using hi))
      simp only [Bool.or_eq_true, List.any_eq_true, List.all_eq_true, Bool.and_eq_true, Bool.not_eq_true'] at this
      rcases this with ((h1 | h1) | ⟨j, hj, h2, h3⟩) | h1
      · exact .inl h1
      · exact .inr (.inl (by simpa using h1))
      · exact .inr (.inr (.inl ⟨j, hj, h2, by simpa using h3⟩))
      · refine .inr (.inr (.inr fun z hz => ?_))
        obtain ⟨s, hs, rfl⟩ := List.mem_map.1 hz
        simpa using h1 s hs
    · intro n l2 a2 w2 el ol hX hT hl2 hg ha2 he2 hs3
      have hall : ∀ i ∈ cs.flatMap (·.1), i < (listQ qs (Array.replicate l.length false)).size := fun i hi => by
        obtain ⟨s, hs, his⟩ := List.mem_flatMap.1 hi
        have := (hparts s hs).2
        simp only [usesC, Bool.and_eq_true, List.all_eq_true] at this
        have := (this.2 i his).1.1.1
        rw [Nat.blt_eq] at this
        rw [hL0]; exact this
      have hl3 : l2 = listQ (cs.flatMap (·.1)) (listQ qs (Array.replicate l.length false)) := by
        refine bools_eq (by rw [hl2, listQ_size, hL0]) fun j => ?_
        rw [hg j, listQ_get hall]
      subst hl3
      exact plan_sound (D := D) (Q := fun a' w' => ∀ cs, ∃ fr w'', c.E fr w'' ∧ Steps c.P (lone (mk c.f c.rd a' (marks dd) k) cs w') (lone fr cs w'')) hsel
        (fun e o hX a w ha he hs cs => hX D dd a w cs ha he hD hs) t n _ [] _ _ a2 w2 htok hT hX ha2 he2 hs3 (.inr ⟨fun g hg => hs3.so g (List.mem_cons_of_mem _ (List.mem_append_right _ (hfo g hg))), hs3.sr⟩) (fun i hi => by cases hi)
    · intro s hs
      obtain ⟨q1, q2, q3, q4⟩ := p6 s hs
      obtain ⟨r1, r2⟩ := hparts _ q4
      refine ⟨by rw [q1]; exact r1, r2, (fun i hi => by rw [q1] at hi; exact absurd hi List.not_mem_nil), (fun i hi => by rw [q1] at hi; exact absurd hi List.not_mem_nil), q3, fun d hd _ => ?_⟩
      rw [q2]; exact hkill d hd
    · constructor
      · exact fun h => .inl h
      · rintro (h | ⟨s, hs, hj⟩)
        · exact h
        · rw [(p6 s hs).1] at hj; cases hj
    · intro s hs
      rw [(p6 s hs).2.1]; exact hek
    · rw [p4]
      exact Sep.toRead (ol := []) hs2
  have hnd : ∀ (i : Nat) (x : Oper), l.toArray[i]? = some x → noDefer x = true := fun i x hx => by
    have := List.all_eq_true.1 hl x (by
      rw [List.getElem?_toArray] at hx
      exact List.mem_of_getElem? hx)
    unfold okOper at this
    simp only [Bool.and_eq_true] at this
    exact this.1
  obtain ⟨a', w', hQ, st⟩ := any_steps (f := c.f) (rd := c.rd) (ds := marks dd) (k := k) (cs := cs0) hnd l.length (w.tape w.drawn (.order c.f id)) _ a _ hA
  obtain ⟨fr, w'', hE, st'⟩ := hQ cs0
  refine ⟨fr, w'', hE, .head step_region_draw ?_⟩
  have hsch : Region.schedule (c.P.follows .mixedOrders) l.toArray (w.tape w.drawn (.order c.f id)) =
      Region.linearise.go .any l.toArray l.length (w.tape w.drawn (.order c.f id)) (Array.replicate l.length false) [] := by
    simp [Region.schedule, hmix, Region.linearise]
  rw [hsch]
  exact Steps.trans st st'
end
end Go.X

/- Rules for the parts of a drawn region. No condition. -/
set_option linter.unusedSimpArgs false
set_option linter.unusedVariables false
namespace Go.X
section
variable {c : Cx} {ops : Array Oper} {e el : Env} {ol r : List PHeap} {post : Env → List PHeap → Prop} {i0 d : Nat} {ty : TypeId} {pos : String} {aft : Array Edge} {bb : Bool} {tt uu : Plan}
variable {α : Type} {enc : α → List Value} {sz : Nat} {h : PHeap} {xs : List α} {v : Value}
theorem CT.done (h : post el ol) : CT c ops e r post .done el ol := h
theorem CT.stop : CT c ops e r post .stop el ol := trivial
theorem CT.s {op : Op} {g : Option (Nat × Bool)} {Ψ : Value → List PHeap → Prop} (hx : ops[i0]? = some ⟨some d, op, ty, pos, aft, g⟩) (hok : okOper c.N ⟨some d, op, ty, pos, aft, g⟩ = true) (s : Stp c.P ops ⟨some d, op, ty, pos, aft, g⟩ (el ++ e) ol (c.B :: r) Ψ)
    (h : ∀ v o', Ψ v o' → CT c ops e r post tt ((d, some v) :: el) o') (hu : CT c ops e r post uu el ol) : CT c ops e r post (.br i0 bb tt uu) el ol := ⟨⟨_, Ψ, hx, hok, s, fun v o' hΨ => h v o' hΨ⟩, hu⟩
theorem CT.s0 {op : Op} {g : Option (Nat × Bool)} {Ψ : Value → List PHeap → Prop} (hx : ops[i0]? = some ⟨none, op, ty, pos, aft, g⟩) (hok : okOper c.N ⟨none, op, ty, pos, aft, g⟩ = true) (s : Stp c.P ops ⟨none, op, ty, pos, aft, g⟩ (el ++ e) ol (c.B :: r) Ψ)
    (h : ∀ v o', Ψ v o' → CT c ops e r post tt el o') (hu : CT c ops e r post uu el ol) : CT c ops e r post (.br i0 bb tt uu) el ol := ⟨⟨_, Ψ, hx, hok, s, fun v o' hΨ => h v o' hΨ⟩, hu⟩
theorem CT.qs {op : Op} {g : Option (Nat × Bool)} {v : Value} (hi : ops[i0]? = some ⟨some d, op, ty, pos, aft, g⟩) (hok : okOper c.N ⟨some d, op, ty, pos, aft, g⟩ = true)
    (q : Quiet c.P ops ⟨some d, op, ty, pos, aft, g⟩ (el ++ e) ol (c.B :: r) v) (hn : CT c ops e r post tt ((d, some v) :: el) ol) (hu : CT c ops e r post uu el ol) : CT c ops e r post (.br i0 bb tt uu) el ol :=
  CT.s hi hok q.stp (fun _ _ ⟨hv, ho⟩ => by subst hv ho; exact hn) hu
theorem CT.lit {t el1 : TypeId} [u : Und c.P t (.slice el1)] [z : TySize c.P el1 sz] {zs : List Value} [zz : Zero c.P el1 zs] {n : Nat} {l : List (Nat × Operand)} (zl cs : List Value) (xs : List α) (enc : α → List Value)
    (hi : ops[i0]? = some ⟨some d, .buildSlice t n l.toArray, ty, pos, aft, none⟩) (hok : okOper c.N ⟨some d, .buildSlice t n l.toArray, ty, pos, aft, none⟩ = true)
    (hzs : zs.length = sz) (hsz : Nat.blt 0 sz = true) (hn : Nat.ble (n * sz) 16777216 = true) (hzl : (List.replicate n zs).flatten = zl) (hf : Fill (el ++ e) (fun i => some (i * sz, sz)) l zl cs)
    (henc : ∀ x, (enc x).length = sz) (hcs : xs.flatMap enc = cs) (hxn : xs.length = n) (ho : Ones cs) (hle : Nat.ble n 16777216 = true)
    (hnx : ∀ v' h', OArr v' enc sz el1 h' xs → CT c ops e r post tt ((d, some v') :: el) (h' :: ol)) (hu : CT c ops e r post uu el ol) : CT c ops e r post (.br i0 bb tt uu) el ol :=
  CT.s hi hok ((Makes.lit cs hzs hsz hn (by rw [hzl]; exact hf)).stp _ _) (fun v' o' ⟨b, hv, ho'⟩ => by subst hv ho'; exact hnx _ _ (OArr.lit xs enc henc hcs hxn ho hle)) hu
theorem CT.make {t el1 : TypeId} [u : Und c.P t (.slice el1)] [z : TySize c.P el1 sz] {zs : List Value} [zz : Zero c.P el1 zs] {by' : Nat} [tb : TyBytes c.P el1 by'] {x y : Operand} {kk k' : IntKind} {n n' : Int} {i : Nat}
    (enc : α → List Value) (x0 : α) (hi : ops[i0]? = some ⟨some d, .makeSlice t x y, ty, pos, aft, none⟩) (hok : okOper c.N ⟨some d, .makeSlice t x y, ty, pos, aft, none⟩ = true)
    (hx : ev (el ++ e) x = some (.int kk n)) (hy : ev (el ++ e) y = some (.int k' n')) (hnn : n = n') [ix : Idx n i] (h0 : 0 ≤ n) (h1 : n ≤ 68719476736)
    (henc : ∀ x, (enc x).length = sz) (hz : enc x0 = zs) (hsz : Nat.blt 0 sz = true) (hby : Nat.ble by' 128 = true) (ho : Ones (enc x0))
    (hnx : ∀ v' h', OArr v' enc sz el1 h' (List.replicate i x0) → CT c ops e r post tt ((d, some v') :: el) (h' :: ol)) (hu : CT c ops e r post uu el ol) : CT c ops e r post (.br i0 bb tt uu) el ol :=
  CT.s hi hok (Stp.make enc x0 hx hy hnn h0 h1 henc hz hsz hby ho) (fun v' _ ⟨h', hO, h2⟩ => by subst h2; exact hnx v' h' hO) hu
theorem CT.append {t0 t1 el0 el1 : TypeId} [u : Und c.P t0 (.slice el0)] [u1 : Und c.P t1 (.slice el1)] [z : TySize c.P el0 sz] {zs : List Value} [zz : Zero c.P el0 zs] {by' : Nat} [tb : TyBytes c.P el0 by']
    {x y : Operand} {v2 : Value} {h2 : PHeap} {ys : List α} {o1 : List PHeap} (hi : ops[i0]? = some ⟨some d, .call ⟨.builtin .append, #[x, y], #[t0, t1]⟩, ty, pos, aft, none⟩)
    (hok : okOper c.N ⟨some d, .call ⟨.builtin .append, #[x, y], #[t0, t1]⟩, ty, pos, aft, none⟩ = true) (hx : ev (el ++ e) x = some v) (hy : ev (el ++ e) y = some v2) [s : OArr v enc sz el0 h xs] [t : Take h ol o1] [s2 : Arr v2 enc sz h2 ys] [m : InM h2 o1 (c.B :: r)]
    (hzs : zs.length = sz) (hby : Nat.ble by' 128 = true) (hn : xs.length + ys.length ≤ 68719476736)
    (hnx : ∀ v' h', OArr v' enc sz el0 h' (xs ++ ys) → CT c ops e r post tt ((d, some v') :: el) (h' :: o1)) (hu : CT c ops e r post uu el ol) : CT c ops e r post (.br i0 bb tt uu) el ol :=
  CT.s hi hok (Stp.append hx hy hzs hby hn) (fun v' _ ⟨h', hO, h2⟩ => by subst h2; exact hnx v' h' hO) hu
theorem CT.alloc {t : TypeId} {zs : List Value} [z : Zero c.P t zs] (hi : ops[i0]? = some ⟨some d, .alloc t, ty, pos, aft, none⟩) (hok : okOper c.N ⟨some d, .alloc t, ty, pos, aft, none⟩ = true)
    (hn : ∀ b, CT c ops e r post tt ((d, some (ptr b 0)) :: el) (blk b zs t :: ol)) (hu : CT c ops e r post uu el ol) : CT c ops e r post (.br i0 bb tt uu) el ol :=
  CT.s hi hok (Makes.alloc.stp _ _) (fun v' o' ⟨b, hv, ho'⟩ => by subst hv ho'; exact hn b) hu
theorem CT.call {g : FuncId} {x : Operand} {l : List Operand} {tys : Array TypeId} {fst vs cap A : List Value} {Hm Hr : List PHeap} {R : Value → List PHeap → Prop} {o1 : List PHeap}
    (hi : ops[i0]? = some ⟨some d, .call ⟨.value x, l.toArray, tys⟩, ty, pos, aft, none⟩) (hok : okOper c.N ⟨some d, .call ⟨.value x, l.toArray, tys⟩, ty, pos, aft, none⟩ = true)
    (hc : ∀ args w, (callFunc g args).run c.P w = .ok (.enter g args) w) (hx : ev (el ++ e) x = some (.func (.func g) fst.toArray cap.toArray)) (hl : evs (el ++ e) l = some vs) (hA : fst ++ vs ++ cap = A)
    (hS : Spec c.P g A.toArray Hm Hr R) [t : Takes Hm ol o1] [al : AllIn Hr o1 (c.B :: r)] (h : ∀ v hs, R v hs → CT c ops e r post tt ((d, some v) :: el) (hs ++ o1)) (hu : CT c ops e r post uu el ol) :
    CT c ops e r post (.br i0 bb tt uu) el ol := CT.s hi hok (Stp.call hc hx hl hA hS) (fun v o2 ⟨hs, hR, h2⟩ => by subst h2; exact h v hs hR) hu
end
section
variable {c : Cx} {ops : Array Oper} {fl : List Nat} {f r : List PHeap} {k : List Item} {e : Env} {o : List PHeap} {qs : List Nat} {fin : Env → List PHeap → Prop}
theorem XQ.nil (h : fin e o) : XQ c ops f r fin [] e o := h
theorem XQ.q {i d : Nat} {op : Op} {ty : TypeId} {pos : String} {aft : Array Edge} {g : Option (Nat × Bool)} {v : Value} (hx : ops[i]? = some ⟨some d, op, ty, pos, aft, g⟩) (hok : okOper c.N ⟨some d, op, ty, pos, aft, g⟩ = true)
    (q : Quiet c.P ops ⟨some d, op, ty, pos, aft, g⟩ e f (c.B :: r) v) (h : XQ c ops f r fin qs ((d, some v) :: e) o) : XQ c ops f r fin (i :: qs) e o := ⟨_, v, hx, hok, q, h⟩
theorem XN.intro {cs : List (List Nat × Nat × Plan)} {ds : List Nat} {t : Plan} (posts : List (Env → List PHeap → Prop)) (h : CTs c ops (kills ds e) (o ++ r) cs posts) (hf : FinAll posts (fun el ol => XT c ops fl f k r t (el ++ kills ds e) (ol ++ o))) : XN c ops fl f k r cs ds t e o := ⟨posts, h, hf⟩
theorem CTs.nil {rr : List PHeap} : CTs c ops e rr [] [] := trivial
theorem CTs.cons {rr : List PHeap} {s : List Nat × Nat × Plan} {cs : List (List Nat × Nat × Plan)} {p : Env → List PHeap → Prop} {ps : List (Env → List PHeap → Prop)} (h : CT c ops e rr p s.2.2 [] []) (hs : CTs c ops e rr cs ps) : CTs c ops e rr (s :: cs) (p :: ps) := ⟨h, hs⟩
end

/-! ### what a part leaves -/
/-- Whatever e knows, e' knows. -/
def Le (e e' : Env) : Prop := ∀ t u, find e t = some u → find e' t = some u
theorem Le.erel {e e' : Env} (h : Le e e') {a : Array Value} (ha : ERel e' a) : ERel e a := fun t v hv => ha t v (h t v hv)
theorem Le.puts {e e' : Env} (h : Le e e') (d : Option Tmp) (v : Value) : Le (X.puts e d v) (X.puts e' d v) := by
  cases d with
  | none => exact h
  | some d =>
    intro t u hu
    simp only [X.puts, find] at hu ⊢
    split
    · rename_i hb; simp only [hb] at hu; exact hu
    · rename_i hb; simp only [hb] at hu; exact h t u hu
theorem XT.mono {c : Cx} {ops : Array Oper} {fl : List Nat} {f : List PHeap} {k : List Item} {r : List PHeap} : ∀ {p : Plan} {e e' : Env} {o : List PHeap}, Le e e' → XT c ops fl f k r p e o → XT c ops fl f k r p e' o
  | .done, e, e', o, h, hx => XK.weaken (e' := e) (o' := o) (r' := r) hx (fun a ha => h.erel ha) (fun D w hs => hs)
  | .q i t, e, e', o, h, ⟨x, v, h1, h2, h3, h4⟩ => ⟨x, v, h1, h2, fun a w ha hr => h3 a w (h.erel ha) hr, XT.mono (h.puts x.dst v) h4⟩
  | .br i b t u, e, e', o, h, ⟨⟨x, Ψ, h1, h2, h3, h4⟩, h5⟩ => ⟨⟨x, Ψ, h1, h2, fun D a w ha hs => h3 D a w (h.erel ha) hs, fun v o' hΨ => ⟨(h4 v o' hΨ).1, XT.mono (h.puts x.dst v) (h4 v o' hΨ).2⟩⟩, XT.mono h h5⟩
  | .stop, _, _, _, _, _ => trivial
/-- Of a part's variables only one is asked. -/
structure Gives (ks : List Nat) (d : Nat) (v : Value) (el : Env) : Prop where
  has : ∀ R, find (el ++ R) d = some v
  far : ∀ R t, memN t ks = false → find (el ++ R) t = find R t
theorem Gives.of {ks : List Nat} {d : Nat} {v : Value} {tl : Env} (hd : memN d ks = true) (ht : tl.all (fun p => memN p.1 ks) = true) : Gives ks d v ((d, some v) :: tl) where
  has R := by simp [find, Nat.beq_refl]
  far R t hk := by
    have key : ∀ l : Env, l.all (fun p => memN p.1 ks) = true → find (l ++ R) t = find R t := fun l => by
      induction l with
      | nil => intro _; rfl
      | cons p l ih =>
        intro h
        obtain ⟨q, u⟩ := p
        simp only [List.all_cons, Bool.and_eq_true] at h
        rw [List.cons_append, find]
        have : Nat.beq t q = false := by
          cases hb : Nat.beq t q with
          | false => rfl
          | true =>
            rw [Nat.eq_of_beq_eq_true hb, h.1] at hk; cases hk
        rw [this]
        exact ih h.2
    exact key ((d, some v) :: tl) (by rw [List.all_cons, hd, ht]; rfl)
theorem XT.gives {c : Cx} {ops : Array Oper} {fl : List Nat} {f : List PHeap} {k : List Item} {r : List PHeap} {p : Plan} {ks : List Nat} {d : Nat} {v : Value} {el R : Env} {o : List PHeap} (g : Gives ks d v el) (hk : ks.all (fun k => (find R k).isNone) = true)
    (h : XT c ops fl f k r p ((d, some v) :: R) o) : XT c ops fl f k r p (el ++ R) o := by
  refine XT.mono (fun t u hu => ?_) h
  rw [find] at hu
  split at hu
  · rename_i hb
    rw [Nat.eq_of_beq_eq_true hb, g.has R]; exact hu
  · cases hm : memN t ks with
    | false => rw [g.far R t hm]; exact hu
    | true =>
      exfalso
      have : ∀ l : List Nat, memN t l = true → l.all (fun k => (find R k).isNone) = true → False := fun l => by
        induction l with
        | nil => intro h; cases h
        | cons s l ih =>
          intro h1 h2
          rw [List.all_cons, Bool.and_eq_true] at h2
          rw [memN] at h1
          split at h1
          · rename_i hb
            rw [← Nat.eq_of_beq_eq_true hb, hu] at h2
            cases h2.1
          · exact ih h1 h2.2
      exact this ks hm hk
section
variable {c : Cx} {ops : Array Oper} {rest : List Oper} {fl : List Nat} {f : List PHeap} {k : List Item} {e : Env} {o r : List PHeap} {i0 d : Nat} {ty : TypeId} {pos : String} {aft : Array Edge} {bb : Bool} {tt uu : Plan} {α : Type} {sz : Nat}
end
end Go.X

/- The type table of this seat as instances; written by program. No condition. -/
namespace Go.X
open Go.Proofs
set_option maxRecDepth 10000
instance : Und Tryz.prog 0 (Go.TypeDesc.tuple #[]) := ⟨Tryz.runUnderlying0⟩
instance : IsAgg Tryz.prog 0 false := ⟨Tryz.isAgg0⟩
instance : TySize Tryz.prog 0 1 := ⟨Tryz.sizeOf0⟩
instance : TyBytes Tryz.prog 0 0 := ⟨_, Tryz.typeInfo0, rfl⟩
instance : Zero Tryz.prog 0 [(Go.Value.tuple #[])] := ⟨_, Tryz.zeroValue0, rfl⟩
instance : Und Tryz.prog 1 (Go.TypeDesc.func #[] #[] Bool.false) := ⟨Tryz.runUnderlying1⟩
instance : IsAgg Tryz.prog 1 false := ⟨Tryz.isAgg1⟩
instance : TySize Tryz.prog 1 1 := ⟨Tryz.sizeOf1⟩
instance : TyBytes Tryz.prog 1 8 := ⟨_, Tryz.typeInfo1, rfl⟩
instance : Zero Tryz.prog 1 [Go.Value.nilFunc] := ⟨_, Tryz.zeroValue1, rfl⟩
instance : Und Tryz.prog 2 (Go.TypeDesc.int Go.IntKind.i64) := ⟨Tryz.runUnderlying2⟩
instance : IsAgg Tryz.prog 2 false := ⟨Tryz.isAgg2⟩
instance : TySize Tryz.prog 2 1 := ⟨Tryz.sizeOf2⟩
instance : TyBytes Tryz.prog 2 8 := ⟨_, Tryz.typeInfo2, rfl⟩
instance : Zero Tryz.prog 2 [(Go.Value.int Go.IntKind.i64 0)] := ⟨_, Tryz.zeroValue2, rfl⟩
instance : Und Tryz.prog 3 (Go.TypeDesc.int Go.IntKind.i64) := ⟨Tryz.runUnderlying3⟩
instance : IsAgg Tryz.prog 3 false := ⟨Tryz.isAgg3⟩
instance : TySize Tryz.prog 3 1 := ⟨Tryz.sizeOf3⟩
instance : TyBytes Tryz.prog 3 8 := ⟨_, Tryz.typeInfo3, rfl⟩
instance : Zero Tryz.prog 3 [(Go.Value.int Go.IntKind.i64 0)] := ⟨_, Tryz.zeroValue3, rfl⟩
instance : Und Tryz.prog 4 Go.TypeDesc.bool := ⟨Tryz.runUnderlying4⟩
instance : IsAgg Tryz.prog 4 false := ⟨Tryz.isAgg4⟩
instance : TySize Tryz.prog 4 1 := ⟨Tryz.sizeOf4⟩
instance : TyBytes Tryz.prog 4 1 := ⟨_, Tryz.typeInfo4, rfl⟩
instance : Zero Tryz.prog 4 [(Go.Value.bool Bool.false)] := ⟨_, Tryz.zeroValue4, rfl⟩
instance : Und Tryz.prog 5 (Go.TypeDesc.int Go.IntKind.u8) := ⟨Tryz.runUnderlying5⟩
instance : IsAgg Tryz.prog 5 false := ⟨Tryz.isAgg5⟩
instance : TySize Tryz.prog 5 1 := ⟨Tryz.sizeOf5⟩
instance : TyBytes Tryz.prog 5 1 := ⟨_, Tryz.typeInfo5, rfl⟩
instance : Zero Tryz.prog 5 [(Go.Value.int Go.IntKind.u8 0)] := ⟨_, Tryz.zeroValue5, rfl⟩
instance : Und Tryz.prog 6 (Go.TypeDesc.int Go.IntKind.u8) := ⟨Tryz.runUnderlying6⟩
instance : IsAgg Tryz.prog 6 false := ⟨Tryz.isAgg6⟩
instance : TySize Tryz.prog 6 1 := ⟨Tryz.sizeOf6⟩
instance : TyBytes Tryz.prog 6 1 := ⟨_, Tryz.typeInfo6, rfl⟩
instance : Zero Tryz.prog 6 [(Go.Value.int Go.IntKind.u8 0)] := ⟨_, Tryz.zeroValue6, rfl⟩
instance : Und Tryz.prog 7 (Go.TypeDesc.struct #[(Go.Field.mk "x" 2 0 Bool.false "" "runtime" 0), (Go.Field.mk "y" 3 1 Bool.false "" "runtime" 8), (Go.Field.mk "signed" 4 2 Bool.false "" "runtime" 16), (Go.Field.mk "code" 6 3 Bool.false "" "runtime" 17)]) := ⟨Tryz.runUnderlying7⟩
instance : IsAgg Tryz.prog 7 true := ⟨Tryz.isAgg7⟩
instance : TySize Tryz.prog 7 4 := ⟨Tryz.sizeOf7⟩
instance : TyBytes Tryz.prog 7 24 := ⟨_, Tryz.typeInfo7, rfl⟩
instance : Zero Tryz.prog 7 [(Go.Value.int Go.IntKind.i64 0), (Go.Value.int Go.IntKind.i64 0), (Go.Value.bool Bool.false), (Go.Value.int Go.IntKind.u8 0)] := ⟨_, Tryz.zeroValue7, rfl⟩
instance : Fld Tryz.prog 7 0 0 := Fld.of (n := 1) ⟨Tryz.runUnderlying7⟩ rfl ⟨Tryz.sizeOf2⟩ (by decide) rfl
instance : Fld Tryz.prog 7 1 1 := Fld.of (n := 1) ⟨Tryz.runUnderlying7⟩ rfl ⟨Tryz.sizeOf3⟩ (by decide) rfl
instance : Fld Tryz.prog 7 2 2 := Fld.of (n := 1) ⟨Tryz.runUnderlying7⟩ rfl ⟨Tryz.sizeOf4⟩ (by decide) rfl
instance : Fld Tryz.prog 7 3 3 := Fld.of (n := 1) ⟨Tryz.runUnderlying7⟩ rfl ⟨Tryz.sizeOf6⟩ (by decide) rfl
instance : Places Tryz.prog 7 (fun i => ([(0, 1), (1, 1), (2, 1), (3, 1)] : List (Nat × Nat))[i]?) := Places.struct ⟨Tryz.runUnderlying7⟩ (.c Tryz.sizeOf2 (.c Tryz.sizeOf3 (.c Tryz.sizeOf4 (.c Tryz.sizeOf6 .n))))
instance : Und Tryz.prog 9 Go.TypeDesc.string := ⟨Tryz.runUnderlying9⟩
instance : IsAgg Tryz.prog 9 false := ⟨Tryz.isAgg9⟩
instance : TySize Tryz.prog 9 1 := ⟨Tryz.sizeOf9⟩
instance : TyBytes Tryz.prog 9 16 := ⟨_, Tryz.typeInfo9, rfl⟩
instance : Zero Tryz.prog 9 [(Go.Value.string (ByteArray.mk #[]))] := ⟨_, Tryz.zeroValue9, rfl⟩
instance : Und Tryz.prog 12 (Go.TypeDesc.int Go.IntKind.u64) := ⟨Tryz.runUnderlying12⟩
instance : IsAgg Tryz.prog 12 false := ⟨Tryz.isAgg12⟩
instance : TySize Tryz.prog 12 1 := ⟨Tryz.sizeOf12⟩
instance : TyBytes Tryz.prog 12 8 := ⟨_, Tryz.typeInfo12, rfl⟩
instance : Zero Tryz.prog 12 [(Go.Value.int Go.IntKind.u64 0)] := ⟨_, Tryz.zeroValue12, rfl⟩
instance : Und Tryz.prog 17 (Go.TypeDesc.pointer 185) := ⟨Tryz.runUnderlying17⟩
instance : IsAgg Tryz.prog 17 false := ⟨Tryz.isAgg17⟩
instance : TySize Tryz.prog 17 1 := ⟨Tryz.sizeOf17⟩
instance : TyBytes Tryz.prog 17 8 := ⟨_, Tryz.typeInfo17, rfl⟩
instance : Zero Tryz.prog 17 [(Go.Value.pointer none)] := ⟨_, Tryz.zeroValue17, rfl⟩
instance : Und Tryz.prog 22 (Go.TypeDesc.slice 29) := ⟨Tryz.runUnderlying22⟩
instance : IsAgg Tryz.prog 22 false := ⟨Tryz.isAgg22⟩
instance : TySize Tryz.prog 22 1 := ⟨Tryz.sizeOf22⟩
instance : TyBytes Tryz.prog 22 24 := ⟨_, Tryz.typeInfo22, rfl⟩
instance : Zero Tryz.prog 22 [(Go.Value.slice none 0 0)] := ⟨_, Tryz.zeroValue22, rfl⟩
instance : Und Tryz.prog 24 (Go.TypeDesc.struct #[(Go.Field.mk "Energy" 3 0 Bool.false "" "" 0), (Go.Field.mk "Full" 3 1 Bool.false "" "" 8), (Go.Field.mk "Power" 3 2 Bool.false "" "" 16), (Go.Field.mk "End" 3 3 Bool.false "" "" 24)]) := ⟨Tryz.runUnderlying24⟩
instance : IsAgg Tryz.prog 24 true := ⟨Tryz.isAgg24⟩
instance : TySize Tryz.prog 24 4 := ⟨Tryz.sizeOf24⟩
instance : TyBytes Tryz.prog 24 32 := ⟨_, Tryz.typeInfo24, rfl⟩
instance : Zero Tryz.prog 24 [(Go.Value.int Go.IntKind.i64 0), (Go.Value.int Go.IntKind.i64 0), (Go.Value.int Go.IntKind.i64 0), (Go.Value.int Go.IntKind.i64 0)] := ⟨_, Tryz.zeroValue24, rfl⟩
instance : Fld Tryz.prog 24 0 0 := Fld.of (n := 1) ⟨Tryz.runUnderlying24⟩ rfl ⟨Tryz.sizeOf3⟩ (by decide) rfl
instance : Fld Tryz.prog 24 1 1 := Fld.of (n := 1) ⟨Tryz.runUnderlying24⟩ rfl ⟨Tryz.sizeOf3⟩ (by decide) rfl
instance : Fld Tryz.prog 24 2 2 := Fld.of (n := 1) ⟨Tryz.runUnderlying24⟩ rfl ⟨Tryz.sizeOf3⟩ (by decide) rfl
instance : Fld Tryz.prog 24 3 3 := Fld.of (n := 1) ⟨Tryz.runUnderlying24⟩ rfl ⟨Tryz.sizeOf3⟩ (by decide) rfl
instance : Places Tryz.prog 24 (fun i => ([(0, 1), (1, 1), (2, 1), (3, 1)] : List (Nat × Nat))[i]?) := Places.struct ⟨Tryz.runUnderlying24⟩ (.c Tryz.sizeOf3 (.c Tryz.sizeOf3 (.c Tryz.sizeOf3 (.c Tryz.sizeOf3 .n))))
instance : Und Tryz.prog 25 (Go.TypeDesc.slice 31) := ⟨Tryz.runUnderlying25⟩
instance : IsAgg Tryz.prog 25 false := ⟨Tryz.isAgg25⟩
instance : TySize Tryz.prog 25 1 := ⟨Tryz.sizeOf25⟩
instance : TyBytes Tryz.prog 25 24 := ⟨_, Tryz.typeInfo25, rfl⟩
instance : Zero Tryz.prog 25 [(Go.Value.slice none 0 0)] := ⟨_, Tryz.zeroValue25, rfl⟩
instance : Und Tryz.prog 27 (Go.TypeDesc.struct #[(Go.Field.mk "Hours" 22 0 Bool.false "" "" 0), (Go.Field.mk "Store" 24 1 Bool.false "" "" 24), (Go.Field.mk "Jobs" 25 5 Bool.false "" "" 56), (Go.Field.mk "Most" 3 6 Bool.false "" "" 80), (Go.Field.mk "Peak" 3 7 Bool.false "" "" 88)]) := ⟨Tryz.runUnderlying27⟩
instance : IsAgg Tryz.prog 27 true := ⟨Tryz.isAgg27⟩
instance : TySize Tryz.prog 27 8 := ⟨Tryz.sizeOf27⟩
instance : TyBytes Tryz.prog 27 96 := ⟨_, Tryz.typeInfo27, rfl⟩
instance : Zero Tryz.prog 27 [(Go.Value.slice none 0 0), (Go.Value.int Go.IntKind.i64 0), (Go.Value.int Go.IntKind.i64 0), (Go.Value.int Go.IntKind.i64 0), (Go.Value.int Go.IntKind.i64 0), (Go.Value.slice none 0 0), (Go.Value.int Go.IntKind.i64 0), (Go.Value.int Go.IntKind.i64 0)] := ⟨_, Tryz.zeroValue27, rfl⟩
instance : Fld Tryz.prog 27 0 0 := Fld.of (n := 1) ⟨Tryz.runUnderlying27⟩ rfl ⟨Tryz.sizeOf22⟩ (by decide) rfl
instance : Fld Tryz.prog 27 1 1 := Fld.of (n := 4) ⟨Tryz.runUnderlying27⟩ rfl ⟨Tryz.sizeOf24⟩ (by decide) rfl
instance : Fld Tryz.prog 27 2 5 := Fld.of (n := 1) ⟨Tryz.runUnderlying27⟩ rfl ⟨Tryz.sizeOf25⟩ (by decide) rfl
instance : Fld Tryz.prog 27 3 6 := Fld.of (n := 1) ⟨Tryz.runUnderlying27⟩ rfl ⟨Tryz.sizeOf3⟩ (by decide) rfl
instance : Fld Tryz.prog 27 4 7 := Fld.of (n := 1) ⟨Tryz.runUnderlying27⟩ rfl ⟨Tryz.sizeOf3⟩ (by decide) rfl
instance : Places Tryz.prog 27 (fun i => ([(0, 1), (1, 4), (5, 1), (6, 1), (7, 1)] : List (Nat × Nat))[i]?) := Places.struct ⟨Tryz.runUnderlying27⟩ (.c Tryz.sizeOf22 (.c Tryz.sizeOf24 (.c Tryz.sizeOf25 (.c Tryz.sizeOf3 (.c Tryz.sizeOf3 .n)))))
instance : Und Tryz.prog 29 (Go.TypeDesc.struct #[(Go.Field.mk "Buy" 3 0 Bool.false "" "" 0), (Go.Field.mk "Sell" 3 1 Bool.false "" "" 8), (Go.Field.mk "Sun" 3 2 Bool.false "" "" 16), (Go.Field.mk "Load" 3 3 Bool.false "" "" 24), (Go.Field.mk "Carbon" 3 4 Bool.false "" "" 32), (Go.Field.mk "Water" 3 5 Bool.false "" "" 40)]) := ⟨Tryz.runUnderlying29⟩
instance : IsAgg Tryz.prog 29 true := ⟨Tryz.isAgg29⟩
instance : TySize Tryz.prog 29 6 := ⟨Tryz.sizeOf29⟩
instance : TyBytes Tryz.prog 29 48 := ⟨_, Tryz.typeInfo29, rfl⟩
instance : Zero Tryz.prog 29 [(Go.Value.int Go.IntKind.i64 0), (Go.Value.int Go.IntKind.i64 0), (Go.Value.int Go.IntKind.i64 0), (Go.Value.int Go.IntKind.i64 0), (Go.Value.int Go.IntKind.i64 0), (Go.Value.int Go.IntKind.i64 0)] := ⟨_, Tryz.zeroValue29, rfl⟩
instance : Fld Tryz.prog 29 0 0 := Fld.of (n := 1) ⟨Tryz.runUnderlying29⟩ rfl ⟨Tryz.sizeOf3⟩ (by decide) rfl
instance : Fld Tryz.prog 29 1 1 := Fld.of (n := 1) ⟨Tryz.runUnderlying29⟩ rfl ⟨Tryz.sizeOf3⟩ (by decide) rfl
instance : Fld Tryz.prog 29 2 2 := Fld.of (n := 1) ⟨Tryz.runUnderlying29⟩ rfl ⟨Tryz.sizeOf3⟩ (by decide) rfl
instance : Fld Tryz.prog 29 3 3 := Fld.of (n := 1) ⟨Tryz.runUnderlying29⟩ rfl ⟨Tryz.sizeOf3⟩ (by decide) rfl
instance : Fld Tryz.prog 29 4 4 := Fld.of (n := 1) ⟨Tryz.runUnderlying29⟩ rfl ⟨Tryz.sizeOf3⟩ (by decide) rfl
instance : Fld Tryz.prog 29 5 5 := Fld.of (n := 1) ⟨Tryz.runUnderlying29⟩ rfl ⟨Tryz.sizeOf3⟩ (by decide) rfl
instance : Places Tryz.prog 29 (fun i => ([(0, 1), (1, 1), (2, 1), (3, 1), (4, 1), (5, 1)] : List (Nat × Nat))[i]?) := Places.struct ⟨Tryz.runUnderlying29⟩ (.c Tryz.sizeOf3 (.c Tryz.sizeOf3 (.c Tryz.sizeOf3 (.c Tryz.sizeOf3 (.c Tryz.sizeOf3 (.c Tryz.sizeOf3 .n))))))
instance : Und Tryz.prog 31 (Go.TypeDesc.struct #[(Go.Field.mk "From" 3 0 Bool.false "" "" 0), (Go.Field.mk "To" 3 1 Bool.false "" "" 8), (Go.Field.mk "Hours" 3 2 Bool.false "" "" 16), (Go.Field.mk "Power" 3 3 Bool.false "" "" 24)]) := ⟨Tryz.runUnderlying31⟩
instance : IsAgg Tryz.prog 31 true := ⟨Tryz.isAgg31⟩
instance : TySize Tryz.prog 31 4 := ⟨Tryz.sizeOf31⟩
instance : TyBytes Tryz.prog 31 32 := ⟨_, Tryz.typeInfo31, rfl⟩
instance : Zero Tryz.prog 31 [(Go.Value.int Go.IntKind.i64 0), (Go.Value.int Go.IntKind.i64 0), (Go.Value.int Go.IntKind.i64 0), (Go.Value.int Go.IntKind.i64 0)] := ⟨_, Tryz.zeroValue31, rfl⟩
instance : Fld Tryz.prog 31 0 0 := Fld.of (n := 1) ⟨Tryz.runUnderlying31⟩ rfl ⟨Tryz.sizeOf3⟩ (by decide) rfl
instance : Fld Tryz.prog 31 1 1 := Fld.of (n := 1) ⟨Tryz.runUnderlying31⟩ rfl ⟨Tryz.sizeOf3⟩ (by decide) rfl
instance : Fld Tryz.prog 31 2 2 := Fld.of (n := 1) ⟨Tryz.runUnderlying31⟩ rfl ⟨Tryz.sizeOf3⟩ (by decide) rfl
instance : Fld Tryz.prog 31 3 3 := Fld.of (n := 1) ⟨Tryz.runUnderlying31⟩ rfl ⟨Tryz.sizeOf3⟩ (by decide) rfl
instance : Places Tryz.prog 31 (fun i => ([(0, 1), (1, 1), (2, 1), (3, 1)] : List (Nat × Nat))[i]?) := Places.struct ⟨Tryz.runUnderlying31⟩ (.c Tryz.sizeOf3 (.c Tryz.sizeOf3 (.c Tryz.sizeOf3 (.c Tryz.sizeOf3 .n))))
instance : Und Tryz.prog 32 (Go.TypeDesc.slice 3) := ⟨Tryz.runUnderlying32⟩
instance : IsAgg Tryz.prog 32 false := ⟨Tryz.isAgg32⟩
instance : TySize Tryz.prog 32 1 := ⟨Tryz.sizeOf32⟩
instance : TyBytes Tryz.prog 32 24 := ⟨_, Tryz.typeInfo32, rfl⟩
instance : Zero Tryz.prog 32 [(Go.Value.slice none 0 0)] := ⟨_, Tryz.zeroValue32, rfl⟩
instance : Und Tryz.prog 34 (Go.TypeDesc.struct #[(Go.Field.mk "Starts" 32 0 Bool.false "" "" 0), (Go.Field.mk "Charge" 32 1 Bool.false "" "" 24), (Go.Field.mk "Cost" 3 2 Bool.false "" "" 48)]) := ⟨Tryz.runUnderlying34⟩
instance : IsAgg Tryz.prog 34 true := ⟨Tryz.isAgg34⟩
instance : TySize Tryz.prog 34 3 := ⟨Tryz.sizeOf34⟩
instance : TyBytes Tryz.prog 34 56 := ⟨_, Tryz.typeInfo34, rfl⟩
instance : Zero Tryz.prog 34 [(Go.Value.slice none 0 0), (Go.Value.slice none 0 0), (Go.Value.int Go.IntKind.i64 0)] := ⟨_, Tryz.zeroValue34, rfl⟩
instance : Fld Tryz.prog 34 0 0 := Fld.of (n := 1) ⟨Tryz.runUnderlying34⟩ rfl ⟨Tryz.sizeOf32⟩ (by decide) rfl
instance : Fld Tryz.prog 34 1 1 := Fld.of (n := 1) ⟨Tryz.runUnderlying34⟩ rfl ⟨Tryz.sizeOf32⟩ (by decide) rfl
instance : Fld Tryz.prog 34 2 2 := Fld.of (n := 1) ⟨Tryz.runUnderlying34⟩ rfl ⟨Tryz.sizeOf3⟩ (by decide) rfl
instance : Places Tryz.prog 34 (fun i => ([(0, 1), (1, 1), (2, 1)] : List (Nat × Nat))[i]?) := Places.struct ⟨Tryz.runUnderlying34⟩ (.c Tryz.sizeOf32 (.c Tryz.sizeOf32 (.c Tryz.sizeOf3 .n)))
instance : Und Tryz.prog 38 (Go.TypeDesc.struct #[(Go.Field.mk "From" 3 0 Bool.false "" "" 0), (Go.Field.mk "To" 3 1 Bool.false "" "" 8), (Go.Field.mk "Power" 3 2 Bool.false "" "" 16), (Go.Field.mk "Hours" 3 3 Bool.false "" "" 24), (Go.Field.mk "Calls" 3 4 Bool.false "" "" 32), (Go.Field.mk "Pause" 3 5 Bool.false "" "" 40)]) := ⟨Tryz.runUnderlying38⟩
instance : IsAgg Tryz.prog 38 true := ⟨Tryz.isAgg38⟩
instance : TySize Tryz.prog 38 6 := ⟨Tryz.sizeOf38⟩
instance : TyBytes Tryz.prog 38 48 := ⟨_, Tryz.typeInfo38, rfl⟩
instance : Zero Tryz.prog 38 [(Go.Value.int Go.IntKind.i64 0), (Go.Value.int Go.IntKind.i64 0), (Go.Value.int Go.IntKind.i64 0), (Go.Value.int Go.IntKind.i64 0), (Go.Value.int Go.IntKind.i64 0), (Go.Value.int Go.IntKind.i64 0)] := ⟨_, Tryz.zeroValue38, rfl⟩
instance : Fld Tryz.prog 38 0 0 := Fld.of (n := 1) ⟨Tryz.runUnderlying38⟩ rfl ⟨Tryz.sizeOf3⟩ (by decide) rfl
instance : Fld Tryz.prog 38 1 1 := Fld.of (n := 1) ⟨Tryz.runUnderlying38⟩ rfl ⟨Tryz.sizeOf3⟩ (by decide) rfl
instance : Fld Tryz.prog 38 2 2 := Fld.of (n := 1) ⟨Tryz.runUnderlying38⟩ rfl ⟨Tryz.sizeOf3⟩ (by decide) rfl
instance : Fld Tryz.prog 38 3 3 := Fld.of (n := 1) ⟨Tryz.runUnderlying38⟩ rfl ⟨Tryz.sizeOf3⟩ (by decide) rfl
instance : Fld Tryz.prog 38 4 4 := Fld.of (n := 1) ⟨Tryz.runUnderlying38⟩ rfl ⟨Tryz.sizeOf3⟩ (by decide) rfl
instance : Fld Tryz.prog 38 5 5 := Fld.of (n := 1) ⟨Tryz.runUnderlying38⟩ rfl ⟨Tryz.sizeOf3⟩ (by decide) rfl
instance : Places Tryz.prog 38 (fun i => ([(0, 1), (1, 1), (2, 1), (3, 1), (4, 1), (5, 1)] : List (Nat × Nat))[i]?) := Places.struct ⟨Tryz.runUnderlying38⟩ (.c Tryz.sizeOf3 (.c Tryz.sizeOf3 (.c Tryz.sizeOf3 (.c Tryz.sizeOf3 (.c Tryz.sizeOf3 (.c Tryz.sizeOf3 .n))))))
instance : Und Tryz.prog 39 (Go.TypeDesc.slice 32) := ⟨Tryz.runUnderlying39⟩
instance : IsAgg Tryz.prog 39 false := ⟨Tryz.isAgg39⟩
instance : TySize Tryz.prog 39 1 := ⟨Tryz.sizeOf39⟩
instance : TyBytes Tryz.prog 39 24 := ⟨_, Tryz.typeInfo39, rfl⟩
instance : Zero Tryz.prog 39 [(Go.Value.slice none 0 0)] := ⟨_, Tryz.zeroValue39, rfl⟩
instance : Und Tryz.prog 41 (Go.TypeDesc.pointer 3) := ⟨Tryz.runUnderlying41⟩
instance : IsAgg Tryz.prog 41 false := ⟨Tryz.isAgg41⟩
instance : TySize Tryz.prog 41 1 := ⟨Tryz.sizeOf41⟩
instance : TyBytes Tryz.prog 41 8 := ⟨_, Tryz.typeInfo41, rfl⟩
instance : Zero Tryz.prog 41 [(Go.Value.pointer none)] := ⟨_, Tryz.zeroValue41, rfl⟩
instance : Und Tryz.prog 42 (Go.TypeDesc.slice 41) := ⟨Tryz.runUnderlying42⟩
instance : IsAgg Tryz.prog 42 false := ⟨Tryz.isAgg42⟩
instance : TySize Tryz.prog 42 1 := ⟨Tryz.sizeOf42⟩
instance : TyBytes Tryz.prog 42 24 := ⟨_, Tryz.typeInfo42, rfl⟩
instance : Zero Tryz.prog 42 [(Go.Value.slice none 0 0)] := ⟨_, Tryz.zeroValue42, rfl⟩
instance : Und Tryz.prog 43 (Go.TypeDesc.slice 34) := ⟨Tryz.runUnderlying43⟩
instance : IsAgg Tryz.prog 43 false := ⟨Tryz.isAgg43⟩
instance : TySize Tryz.prog 43 1 := ⟨Tryz.sizeOf43⟩
instance : TyBytes Tryz.prog 43 24 := ⟨_, Tryz.typeInfo43, rfl⟩
instance : Zero Tryz.prog 43 [(Go.Value.slice none 0 0)] := ⟨_, Tryz.zeroValue43, rfl⟩
instance : Und Tryz.prog 44 (Go.TypeDesc.slice 25) := ⟨Tryz.runUnderlying44⟩
instance : IsAgg Tryz.prog 44 false := ⟨Tryz.isAgg44⟩
instance : TySize Tryz.prog 44 1 := ⟨Tryz.sizeOf44⟩
instance : TyBytes Tryz.prog 44 24 := ⟨_, Tryz.typeInfo44, rfl⟩
instance : Zero Tryz.prog 44 [(Go.Value.slice none 0 0)] := ⟨_, Tryz.zeroValue44, rfl⟩
instance : Und Tryz.prog 46 (Go.TypeDesc.slice 100) := ⟨Tryz.runUnderlying46⟩
instance : IsAgg Tryz.prog 46 false := ⟨Tryz.isAgg46⟩
instance : TySize Tryz.prog 46 1 := ⟨Tryz.sizeOf46⟩
instance : TyBytes Tryz.prog 46 24 := ⟨_, Tryz.typeInfo46, rfl⟩
instance : Zero Tryz.prog 46 [(Go.Value.slice none 0 0)] := ⟨_, Tryz.zeroValue46, rfl⟩
instance : Und Tryz.prog 47 (Go.TypeDesc.struct #[(Go.Field.mk "Energy" 3 0 Bool.false "" "" 0), (Go.Field.mk "Full" 3 1 Bool.false "" "" 8), (Go.Field.mk "Power" 3 2 Bool.false "" "" 16), (Go.Field.mk "End" 3 3 Bool.false "" "" 24)]) := ⟨Tryz.runUnderlying47⟩
instance : IsAgg Tryz.prog 47 true := ⟨Tryz.isAgg47⟩
instance : TySize Tryz.prog 47 4 := ⟨Tryz.sizeOf47⟩
instance : TyBytes Tryz.prog 47 32 := ⟨_, Tryz.typeInfo47, rfl⟩
instance : Zero Tryz.prog 47 [(Go.Value.int Go.IntKind.i64 0), (Go.Value.int Go.IntKind.i64 0), (Go.Value.int Go.IntKind.i64 0), (Go.Value.int Go.IntKind.i64 0)] := ⟨_, Tryz.zeroValue47, rfl⟩
instance : Fld Tryz.prog 47 0 0 := Fld.of (n := 1) ⟨Tryz.runUnderlying47⟩ rfl ⟨Tryz.sizeOf3⟩ (by decide) rfl
instance : Fld Tryz.prog 47 1 1 := Fld.of (n := 1) ⟨Tryz.runUnderlying47⟩ rfl ⟨Tryz.sizeOf3⟩ (by decide) rfl
instance : Fld Tryz.prog 47 2 2 := Fld.of (n := 1) ⟨Tryz.runUnderlying47⟩ rfl ⟨Tryz.sizeOf3⟩ (by decide) rfl
instance : Fld Tryz.prog 47 3 3 := Fld.of (n := 1) ⟨Tryz.runUnderlying47⟩ rfl ⟨Tryz.sizeOf3⟩ (by decide) rfl
instance : Places Tryz.prog 47 (fun i => ([(0, 1), (1, 1), (2, 1), (3, 1)] : List (Nat × Nat))[i]?) := Places.struct ⟨Tryz.runUnderlying47⟩ (.c Tryz.sizeOf3 (.c Tryz.sizeOf3 (.c Tryz.sizeOf3 (.c Tryz.sizeOf3 .n))))
instance : Und Tryz.prog 48 (Go.TypeDesc.slice 101) := ⟨Tryz.runUnderlying48⟩
instance : IsAgg Tryz.prog 48 false := ⟨Tryz.isAgg48⟩
instance : TySize Tryz.prog 48 1 := ⟨Tryz.sizeOf48⟩
instance : TyBytes Tryz.prog 48 24 := ⟨_, Tryz.typeInfo48, rfl⟩
instance : Zero Tryz.prog 48 [(Go.Value.slice none 0 0)] := ⟨_, Tryz.zeroValue48, rfl⟩
instance : Und Tryz.prog 50 (Go.TypeDesc.struct #[(Go.Field.mk "Hours" 46 0 Bool.false "" "" 0), (Go.Field.mk "Store" 47 1 Bool.false "" "" 24), (Go.Field.mk "Jobs" 48 5 Bool.false "" "" 56), (Go.Field.mk "Most" 3 6 Bool.false "" "" 80), (Go.Field.mk "Peak" 3 7 Bool.false "" "" 88)]) := ⟨Tryz.runUnderlying50⟩
instance : IsAgg Tryz.prog 50 true := ⟨Tryz.isAgg50⟩
instance : TySize Tryz.prog 50 8 := ⟨Tryz.sizeOf50⟩
instance : TyBytes Tryz.prog 50 96 := ⟨_, Tryz.typeInfo50, rfl⟩
instance : Zero Tryz.prog 50 [(Go.Value.slice none 0 0), (Go.Value.int Go.IntKind.i64 0), (Go.Value.int Go.IntKind.i64 0), (Go.Value.int Go.IntKind.i64 0), (Go.Value.int Go.IntKind.i64 0), (Go.Value.slice none 0 0), (Go.Value.int Go.IntKind.i64 0), (Go.Value.int Go.IntKind.i64 0)] := ⟨_, Tryz.zeroValue50, rfl⟩
instance : Fld Tryz.prog 50 0 0 := Fld.of (n := 1) ⟨Tryz.runUnderlying50⟩ rfl ⟨Tryz.sizeOf46⟩ (by decide) rfl
instance : Fld Tryz.prog 50 1 1 := Fld.of (n := 4) ⟨Tryz.runUnderlying50⟩ rfl ⟨Tryz.sizeOf47⟩ (by decide) rfl
instance : Fld Tryz.prog 50 2 5 := Fld.of (n := 1) ⟨Tryz.runUnderlying50⟩ rfl ⟨Tryz.sizeOf48⟩ (by decide) rfl
instance : Fld Tryz.prog 50 3 6 := Fld.of (n := 1) ⟨Tryz.runUnderlying50⟩ rfl ⟨Tryz.sizeOf3⟩ (by decide) rfl
instance : Fld Tryz.prog 50 4 7 := Fld.of (n := 1) ⟨Tryz.runUnderlying50⟩ rfl ⟨Tryz.sizeOf3⟩ (by decide) rfl
instance : Places Tryz.prog 50 (fun i => ([(0, 1), (1, 4), (5, 1), (6, 1), (7, 1)] : List (Nat × Nat))[i]?) := Places.struct ⟨Tryz.runUnderlying50⟩ (.c Tryz.sizeOf46 (.c Tryz.sizeOf47 (.c Tryz.sizeOf48 (.c Tryz.sizeOf3 (.c Tryz.sizeOf3 .n)))))
instance : Und Tryz.prog 53 (Go.TypeDesc.struct #[(Go.Field.mk "Starts" 32 0 Bool.false "" "" 0), (Go.Field.mk "Charge" 32 1 Bool.false "" "" 24), (Go.Field.mk "Cost" 3 2 Bool.false "" "" 48)]) := ⟨Tryz.runUnderlying53⟩
instance : IsAgg Tryz.prog 53 true := ⟨Tryz.isAgg53⟩
instance : TySize Tryz.prog 53 3 := ⟨Tryz.sizeOf53⟩
instance : TyBytes Tryz.prog 53 56 := ⟨_, Tryz.typeInfo53, rfl⟩
instance : Zero Tryz.prog 53 [(Go.Value.slice none 0 0), (Go.Value.slice none 0 0), (Go.Value.int Go.IntKind.i64 0)] := ⟨_, Tryz.zeroValue53, rfl⟩
instance : Fld Tryz.prog 53 0 0 := Fld.of (n := 1) ⟨Tryz.runUnderlying53⟩ rfl ⟨Tryz.sizeOf32⟩ (by decide) rfl
instance : Fld Tryz.prog 53 1 1 := Fld.of (n := 1) ⟨Tryz.runUnderlying53⟩ rfl ⟨Tryz.sizeOf32⟩ (by decide) rfl
instance : Fld Tryz.prog 53 2 2 := Fld.of (n := 1) ⟨Tryz.runUnderlying53⟩ rfl ⟨Tryz.sizeOf3⟩ (by decide) rfl
instance : Places Tryz.prog 53 (fun i => ([(0, 1), (1, 1), (2, 1)] : List (Nat × Nat))[i]?) := Places.struct ⟨Tryz.runUnderlying53⟩ (.c Tryz.sizeOf32 (.c Tryz.sizeOf32 (.c Tryz.sizeOf3 .n)))
instance : Und Tryz.prog 56 (Go.TypeDesc.int Go.IntKind.i64) := ⟨Tryz.runUnderlying56⟩
instance : IsAgg Tryz.prog 56 false := ⟨Tryz.isAgg56⟩
instance : TySize Tryz.prog 56 1 := ⟨Tryz.sizeOf56⟩
instance : TyBytes Tryz.prog 56 8 := ⟨_, Tryz.typeInfo56, rfl⟩
instance : Zero Tryz.prog 56 [(Go.Value.int Go.IntKind.i64 0)] := ⟨_, Tryz.zeroValue56, rfl⟩
instance : Und Tryz.prog 66 (Go.TypeDesc.slice 68) := ⟨Tryz.runUnderlying66⟩
instance : IsAgg Tryz.prog 66 false := ⟨Tryz.isAgg66⟩
instance : TySize Tryz.prog 66 1 := ⟨Tryz.sizeOf66⟩
instance : TyBytes Tryz.prog 66 24 := ⟨_, Tryz.typeInfo66, rfl⟩
instance : Zero Tryz.prog 66 [(Go.Value.slice none 0 0)] := ⟨_, Tryz.zeroValue66, rfl⟩
instance : Und Tryz.prog 68 (Go.TypeDesc.struct #[(Go.Field.mk "Bought" 3 0 Bool.false "" "" 0), (Go.Field.mk "Sold" 3 1 Bool.false "" "" 8), (Go.Field.mk "Made" 3 2 Bool.false "" "" 16), (Go.Field.mk "Used" 3 3 Bool.false "" "" 24), (Go.Field.mk "Stored" 3 4 Bool.false "" "" 32), (Go.Field.mk "Carbon" 3 5 Bool.false "" "" 40), (Go.Field.mk "Water" 3 6 Bool.false "" "" 48)]) := ⟨Tryz.runUnderlying68⟩
instance : IsAgg Tryz.prog 68 true := ⟨Tryz.isAgg68⟩
instance : TySize Tryz.prog 68 7 := ⟨Tryz.sizeOf68⟩
instance : TyBytes Tryz.prog 68 56 := ⟨_, Tryz.typeInfo68, rfl⟩
instance : Zero Tryz.prog 68 [(Go.Value.int Go.IntKind.i64 0), (Go.Value.int Go.IntKind.i64 0), (Go.Value.int Go.IntKind.i64 0), (Go.Value.int Go.IntKind.i64 0), (Go.Value.int Go.IntKind.i64 0), (Go.Value.int Go.IntKind.i64 0), (Go.Value.int Go.IntKind.i64 0)] := ⟨_, Tryz.zeroValue68, rfl⟩
instance : Fld Tryz.prog 68 0 0 := Fld.of (n := 1) ⟨Tryz.runUnderlying68⟩ rfl ⟨Tryz.sizeOf3⟩ (by decide) rfl
instance : Fld Tryz.prog 68 1 1 := Fld.of (n := 1) ⟨Tryz.runUnderlying68⟩ rfl ⟨Tryz.sizeOf3⟩ (by decide) rfl
instance : Fld Tryz.prog 68 2 2 := Fld.of (n := 1) ⟨Tryz.runUnderlying68⟩ rfl ⟨Tryz.sizeOf3⟩ (by decide) rfl
instance : Fld Tryz.prog 68 3 3 := Fld.of (n := 1) ⟨Tryz.runUnderlying68⟩ rfl ⟨Tryz.sizeOf3⟩ (by decide) rfl
instance : Fld Tryz.prog 68 4 4 := Fld.of (n := 1) ⟨Tryz.runUnderlying68⟩ rfl ⟨Tryz.sizeOf3⟩ (by decide) rfl
instance : Fld Tryz.prog 68 5 5 := Fld.of (n := 1) ⟨Tryz.runUnderlying68⟩ rfl ⟨Tryz.sizeOf3⟩ (by decide) rfl
instance : Fld Tryz.prog 68 6 6 := Fld.of (n := 1) ⟨Tryz.runUnderlying68⟩ rfl ⟨Tryz.sizeOf3⟩ (by decide) rfl
instance : Places Tryz.prog 68 (fun i => ([(0, 1), (1, 1), (2, 1), (3, 1), (4, 1), (5, 1), (6, 1)] : List (Nat × Nat))[i]?) := Places.struct ⟨Tryz.runUnderlying68⟩ (.c Tryz.sizeOf3 (.c Tryz.sizeOf3 (.c Tryz.sizeOf3 (.c Tryz.sizeOf3 (.c Tryz.sizeOf3 (.c Tryz.sizeOf3 (.c Tryz.sizeOf3 .n)))))))
instance : Und Tryz.prog 71 (Go.TypeDesc.slice 72) := ⟨Tryz.runUnderlying71⟩
instance : IsAgg Tryz.prog 71 false := ⟨Tryz.isAgg71⟩
instance : TySize Tryz.prog 71 1 := ⟨Tryz.sizeOf71⟩
instance : TyBytes Tryz.prog 71 24 := ⟨_, Tryz.typeInfo71, rfl⟩
instance : Zero Tryz.prog 71 [(Go.Value.slice none 0 0)] := ⟨_, Tryz.zeroValue71, rfl⟩
instance : Und Tryz.prog 72 (Go.TypeDesc.struct #[(Go.Field.mk "Bought" 3 0 Bool.false "" "" 0), (Go.Field.mk "Sold" 3 1 Bool.false "" "" 8), (Go.Field.mk "Made" 3 2 Bool.false "" "" 16), (Go.Field.mk "Used" 3 3 Bool.false "" "" 24), (Go.Field.mk "Stored" 3 4 Bool.false "" "" 32), (Go.Field.mk "Carbon" 3 5 Bool.false "" "" 40), (Go.Field.mk "Water" 3 6 Bool.false "" "" 48)]) := ⟨Tryz.runUnderlying72⟩
instance : IsAgg Tryz.prog 72 true := ⟨Tryz.isAgg72⟩
instance : TySize Tryz.prog 72 7 := ⟨Tryz.sizeOf72⟩
instance : TyBytes Tryz.prog 72 56 := ⟨_, Tryz.typeInfo72, rfl⟩
instance : Zero Tryz.prog 72 [(Go.Value.int Go.IntKind.i64 0), (Go.Value.int Go.IntKind.i64 0), (Go.Value.int Go.IntKind.i64 0), (Go.Value.int Go.IntKind.i64 0), (Go.Value.int Go.IntKind.i64 0), (Go.Value.int Go.IntKind.i64 0), (Go.Value.int Go.IntKind.i64 0)] := ⟨_, Tryz.zeroValue72, rfl⟩
instance : Fld Tryz.prog 72 0 0 := Fld.of (n := 1) ⟨Tryz.runUnderlying72⟩ rfl ⟨Tryz.sizeOf3⟩ (by decide) rfl
instance : Fld Tryz.prog 72 1 1 := Fld.of (n := 1) ⟨Tryz.runUnderlying72⟩ rfl ⟨Tryz.sizeOf3⟩ (by decide) rfl
instance : Fld Tryz.prog 72 2 2 := Fld.of (n := 1) ⟨Tryz.runUnderlying72⟩ rfl ⟨Tryz.sizeOf3⟩ (by decide) rfl
instance : Fld Tryz.prog 72 3 3 := Fld.of (n := 1) ⟨Tryz.runUnderlying72⟩ rfl ⟨Tryz.sizeOf3⟩ (by decide) rfl
instance : Fld Tryz.prog 72 4 4 := Fld.of (n := 1) ⟨Tryz.runUnderlying72⟩ rfl ⟨Tryz.sizeOf3⟩ (by decide) rfl
instance : Fld Tryz.prog 72 5 5 := Fld.of (n := 1) ⟨Tryz.runUnderlying72⟩ rfl ⟨Tryz.sizeOf3⟩ (by decide) rfl
instance : Fld Tryz.prog 72 6 6 := Fld.of (n := 1) ⟨Tryz.runUnderlying72⟩ rfl ⟨Tryz.sizeOf3⟩ (by decide) rfl
instance : Places Tryz.prog 72 (fun i => ([(0, 1), (1, 1), (2, 1), (3, 1), (4, 1), (5, 1), (6, 1)] : List (Nat × Nat))[i]?) := Places.struct ⟨Tryz.runUnderlying72⟩ (.c Tryz.sizeOf3 (.c Tryz.sizeOf3 (.c Tryz.sizeOf3 (.c Tryz.sizeOf3 (.c Tryz.sizeOf3 (.c Tryz.sizeOf3 (.c Tryz.sizeOf3 .n)))))))
instance : Und Tryz.prog 89 (Go.TypeDesc.struct #[(Go.Field.mk "From" 3 0 Bool.false "" "" 0), (Go.Field.mk "To" 3 1 Bool.false "" "" 8), (Go.Field.mk "Power" 3 2 Bool.false "" "" 16), (Go.Field.mk "Hours" 3 3 Bool.false "" "" 24), (Go.Field.mk "Calls" 3 4 Bool.false "" "" 32), (Go.Field.mk "Pause" 3 5 Bool.false "" "" 40)]) := ⟨Tryz.runUnderlying89⟩
instance : IsAgg Tryz.prog 89 true := ⟨Tryz.isAgg89⟩
instance : TySize Tryz.prog 89 6 := ⟨Tryz.sizeOf89⟩
instance : TyBytes Tryz.prog 89 48 := ⟨_, Tryz.typeInfo89, rfl⟩
instance : Zero Tryz.prog 89 [(Go.Value.int Go.IntKind.i64 0), (Go.Value.int Go.IntKind.i64 0), (Go.Value.int Go.IntKind.i64 0), (Go.Value.int Go.IntKind.i64 0), (Go.Value.int Go.IntKind.i64 0), (Go.Value.int Go.IntKind.i64 0)] := ⟨_, Tryz.zeroValue89, rfl⟩
instance : Fld Tryz.prog 89 0 0 := Fld.of (n := 1) ⟨Tryz.runUnderlying89⟩ rfl ⟨Tryz.sizeOf3⟩ (by decide) rfl
instance : Fld Tryz.prog 89 1 1 := Fld.of (n := 1) ⟨Tryz.runUnderlying89⟩ rfl ⟨Tryz.sizeOf3⟩ (by decide) rfl
instance : Fld Tryz.prog 89 2 2 := Fld.of (n := 1) ⟨Tryz.runUnderlying89⟩ rfl ⟨Tryz.sizeOf3⟩ (by decide) rfl
instance : Fld Tryz.prog 89 3 3 := Fld.of (n := 1) ⟨Tryz.runUnderlying89⟩ rfl ⟨Tryz.sizeOf3⟩ (by decide) rfl
instance : Fld Tryz.prog 89 4 4 := Fld.of (n := 1) ⟨Tryz.runUnderlying89⟩ rfl ⟨Tryz.sizeOf3⟩ (by decide) rfl
instance : Fld Tryz.prog 89 5 5 := Fld.of (n := 1) ⟨Tryz.runUnderlying89⟩ rfl ⟨Tryz.sizeOf3⟩ (by decide) rfl
instance : Places Tryz.prog 89 (fun i => ([(0, 1), (1, 1), (2, 1), (3, 1), (4, 1), (5, 1)] : List (Nat × Nat))[i]?) := Places.struct ⟨Tryz.runUnderlying89⟩ (.c Tryz.sizeOf3 (.c Tryz.sizeOf3 (.c Tryz.sizeOf3 (.c Tryz.sizeOf3 (.c Tryz.sizeOf3 (.c Tryz.sizeOf3 .n))))))
instance : Und Tryz.prog 100 (Go.TypeDesc.struct #[(Go.Field.mk "Buy" 3 0 Bool.false "" "" 0), (Go.Field.mk "Sell" 3 1 Bool.false "" "" 8), (Go.Field.mk "Sun" 3 2 Bool.false "" "" 16), (Go.Field.mk "Load" 3 3 Bool.false "" "" 24), (Go.Field.mk "Carbon" 3 4 Bool.false "" "" 32), (Go.Field.mk "Water" 3 5 Bool.false "" "" 40)]) := ⟨Tryz.runUnderlying100⟩
instance : IsAgg Tryz.prog 100 true := ⟨Tryz.isAgg100⟩
instance : TySize Tryz.prog 100 6 := ⟨Tryz.sizeOf100⟩
instance : TyBytes Tryz.prog 100 48 := ⟨_, Tryz.typeInfo100, rfl⟩
instance : Zero Tryz.prog 100 [(Go.Value.int Go.IntKind.i64 0), (Go.Value.int Go.IntKind.i64 0), (Go.Value.int Go.IntKind.i64 0), (Go.Value.int Go.IntKind.i64 0), (Go.Value.int Go.IntKind.i64 0), (Go.Value.int Go.IntKind.i64 0)] := ⟨_, Tryz.zeroValue100, rfl⟩
instance : Fld Tryz.prog 100 0 0 := Fld.of (n := 1) ⟨Tryz.runUnderlying100⟩ rfl ⟨Tryz.sizeOf3⟩ (by decide) rfl
instance : Fld Tryz.prog 100 1 1 := Fld.of (n := 1) ⟨Tryz.runUnderlying100⟩ rfl ⟨Tryz.sizeOf3⟩ (by decide) rfl
instance : Fld Tryz.prog 100 2 2 := Fld.of (n := 1) ⟨Tryz.runUnderlying100⟩ rfl ⟨Tryz.sizeOf3⟩ (by decide) rfl
instance : Fld Tryz.prog 100 3 3 := Fld.of (n := 1) ⟨Tryz.runUnderlying100⟩ rfl ⟨Tryz.sizeOf3⟩ (by decide) rfl
instance : Fld Tryz.prog 100 4 4 := Fld.of (n := 1) ⟨Tryz.runUnderlying100⟩ rfl ⟨Tryz.sizeOf3⟩ (by decide) rfl
instance : Fld Tryz.prog 100 5 5 := Fld.of (n := 1) ⟨Tryz.runUnderlying100⟩ rfl ⟨Tryz.sizeOf3⟩ (by decide) rfl
instance : Places Tryz.prog 100 (fun i => ([(0, 1), (1, 1), (2, 1), (3, 1), (4, 1), (5, 1)] : List (Nat × Nat))[i]?) := Places.struct ⟨Tryz.runUnderlying100⟩ (.c Tryz.sizeOf3 (.c Tryz.sizeOf3 (.c Tryz.sizeOf3 (.c Tryz.sizeOf3 (.c Tryz.sizeOf3 (.c Tryz.sizeOf3 .n))))))
instance : Und Tryz.prog 101 (Go.TypeDesc.struct #[(Go.Field.mk "From" 3 0 Bool.false "" "" 0), (Go.Field.mk "To" 3 1 Bool.false "" "" 8), (Go.Field.mk "Hours" 3 2 Bool.false "" "" 16), (Go.Field.mk "Power" 3 3 Bool.false "" "" 24)]) := ⟨Tryz.runUnderlying101⟩
instance : IsAgg Tryz.prog 101 true := ⟨Tryz.isAgg101⟩
instance : TySize Tryz.prog 101 4 := ⟨Tryz.sizeOf101⟩
instance : TyBytes Tryz.prog 101 32 := ⟨_, Tryz.typeInfo101, rfl⟩
instance : Zero Tryz.prog 101 [(Go.Value.int Go.IntKind.i64 0), (Go.Value.int Go.IntKind.i64 0), (Go.Value.int Go.IntKind.i64 0), (Go.Value.int Go.IntKind.i64 0)] := ⟨_, Tryz.zeroValue101, rfl⟩
instance : Fld Tryz.prog 101 0 0 := Fld.of (n := 1) ⟨Tryz.runUnderlying101⟩ rfl ⟨Tryz.sizeOf3⟩ (by decide) rfl
instance : Fld Tryz.prog 101 1 1 := Fld.of (n := 1) ⟨Tryz.runUnderlying101⟩ rfl ⟨Tryz.sizeOf3⟩ (by decide) rfl
instance : Fld Tryz.prog 101 2 2 := Fld.of (n := 1) ⟨Tryz.runUnderlying101⟩ rfl ⟨Tryz.sizeOf3⟩ (by decide) rfl
instance : Fld Tryz.prog 101 3 3 := Fld.of (n := 1) ⟨Tryz.runUnderlying101⟩ rfl ⟨Tryz.sizeOf3⟩ (by decide) rfl
instance : Places Tryz.prog 101 (fun i => ([(0, 1), (1, 1), (2, 1), (3, 1)] : List (Nat × Nat))[i]?) := Places.struct ⟨Tryz.runUnderlying101⟩ (.c Tryz.sizeOf3 (.c Tryz.sizeOf3 (.c Tryz.sizeOf3 (.c Tryz.sizeOf3 .n))))
instance : Und Tryz.prog 120 (Go.TypeDesc.pointer 123) := ⟨Tryz.runUnderlying120⟩
instance : IsAgg Tryz.prog 120 false := ⟨Tryz.isAgg120⟩
instance : TySize Tryz.prog 120 1 := ⟨Tryz.sizeOf120⟩
instance : TyBytes Tryz.prog 120 8 := ⟨_, Tryz.typeInfo120, rfl⟩
instance : Zero Tryz.prog 120 [(Go.Value.pointer none)] := ⟨_, Tryz.zeroValue120, rfl⟩
instance : Und Tryz.prog 123 (Go.TypeDesc.struct #[(Go.Field.mk "Day" 27 0 Bool.true "" "" 0), (Go.Field.mk "base" 32 8 Bool.false "" "switchgear/market" 96), (Go.Field.mk "values" 32 9 Bool.false "" "switchgear/market" 120)]) := ⟨Tryz.runUnderlying123⟩
instance : IsAgg Tryz.prog 123 true := ⟨Tryz.isAgg123⟩
instance : TySize Tryz.prog 123 10 := ⟨Tryz.sizeOf123⟩
instance : TyBytes Tryz.prog 123 144 := ⟨_, Tryz.typeInfo123, rfl⟩
instance : Zero Tryz.prog 123 [(Go.Value.slice none 0 0), (Go.Value.int Go.IntKind.i64 0), (Go.Value.int Go.IntKind.i64 0), (Go.Value.int Go.IntKind.i64 0), (Go.Value.int Go.IntKind.i64 0), (Go.Value.slice none 0 0), (Go.Value.int Go.IntKind.i64 0), (Go.Value.int Go.IntKind.i64 0), (Go.Value.slice none 0 0), (Go.Value.slice none 0 0)] := ⟨_, Tryz.zeroValue123, rfl⟩
instance : Fld Tryz.prog 123 0 0 := Fld.of (n := 8) ⟨Tryz.runUnderlying123⟩ rfl ⟨Tryz.sizeOf27⟩ (by decide) rfl
instance : Fld Tryz.prog 123 1 8 := Fld.of (n := 1) ⟨Tryz.runUnderlying123⟩ rfl ⟨Tryz.sizeOf32⟩ (by decide) rfl
instance : Fld Tryz.prog 123 2 9 := Fld.of (n := 1) ⟨Tryz.runUnderlying123⟩ rfl ⟨Tryz.sizeOf32⟩ (by decide) rfl
instance : Places Tryz.prog 123 (fun i => ([(0, 8), (8, 1), (9, 1)] : List (Nat × Nat))[i]?) := Places.struct ⟨Tryz.runUnderlying123⟩ (.c Tryz.sizeOf27 (.c Tryz.sizeOf32 (.c Tryz.sizeOf32 .n)))
instance : Und Tryz.prog 124 (Go.TypeDesc.func #[3, 3, 3] #[3] Bool.false) := ⟨Tryz.runUnderlying124⟩
instance : IsAgg Tryz.prog 124 false := ⟨Tryz.isAgg124⟩
instance : TySize Tryz.prog 124 1 := ⟨Tryz.sizeOf124⟩
instance : TyBytes Tryz.prog 124 8 := ⟨_, Tryz.typeInfo124, rfl⟩
instance : Zero Tryz.prog 124 [Go.Value.nilFunc] := ⟨_, Tryz.zeroValue124, rfl⟩
instance : Und Tryz.prog 130 (Go.TypeDesc.slice 120) := ⟨Tryz.runUnderlying130⟩
instance : IsAgg Tryz.prog 130 false := ⟨Tryz.isAgg130⟩
instance : TySize Tryz.prog 130 1 := ⟨Tryz.sizeOf130⟩
instance : TyBytes Tryz.prog 130 24 := ⟨_, Tryz.typeInfo130, rfl⟩
instance : Zero Tryz.prog 130 [(Go.Value.slice none 0 0)] := ⟨_, Tryz.zeroValue130, rfl⟩
instance : Und Tryz.prog 153 (Go.TypeDesc.array 2 3) := ⟨Tryz.runUnderlying153⟩
instance : IsAgg Tryz.prog 153 true := ⟨Tryz.isAgg153⟩
instance : TySize Tryz.prog 153 2 := ⟨Tryz.sizeOf153⟩
instance : TyBytes Tryz.prog 153 16 := ⟨_, Tryz.typeInfo153, rfl⟩
instance : Zero Tryz.prog 153 [(Go.Value.int Go.IntKind.i64 0), (Go.Value.int Go.IntKind.i64 0)] := ⟨_, Tryz.zeroValue153, rfl⟩
instance : Places Tryz.prog 153 (fun i => some (i * 1, 1)) := Places.array ⟨Tryz.runUnderlying153⟩ ⟨Tryz.sizeOf3⟩
instance : Und Tryz.prog 161 (Go.TypeDesc.func #[32, 3] #[4] Bool.false) := ⟨Tryz.runUnderlying161⟩
instance : IsAgg Tryz.prog 161 false := ⟨Tryz.isAgg161⟩
instance : TySize Tryz.prog 161 1 := ⟨Tryz.sizeOf161⟩
instance : TyBytes Tryz.prog 161 8 := ⟨_, Tryz.typeInfo161, rfl⟩
instance : Zero Tryz.prog 161 [Go.Value.nilFunc] := ⟨_, Tryz.zeroValue161, rfl⟩
instance : Und Tryz.prog 162 (Go.TypeDesc.int Go.IntKind.u64) := ⟨Tryz.runUnderlying162⟩
instance : IsAgg Tryz.prog 162 false := ⟨Tryz.isAgg162⟩
instance : TySize Tryz.prog 162 1 := ⟨Tryz.sizeOf162⟩
instance : TyBytes Tryz.prog 162 8 := ⟨_, Tryz.typeInfo162, rfl⟩
instance : Zero Tryz.prog 162 [(Go.Value.int Go.IntKind.u64 0)] := ⟨_, Tryz.zeroValue162, rfl⟩
instance : Und Tryz.prog 165 (Go.TypeDesc.int Go.IntKind.u32) := ⟨Tryz.runUnderlying165⟩
instance : IsAgg Tryz.prog 165 false := ⟨Tryz.isAgg165⟩
instance : TySize Tryz.prog 165 1 := ⟨Tryz.sizeOf165⟩
instance : TyBytes Tryz.prog 165 4 := ⟨_, Tryz.typeInfo165, rfl⟩
instance : Zero Tryz.prog 165 [(Go.Value.int Go.IntKind.u32 0)] := ⟨_, Tryz.zeroValue165, rfl⟩
instance : Und Tryz.prog 168 (Go.TypeDesc.int Go.IntKind.u64) := ⟨Tryz.runUnderlying168⟩
instance : IsAgg Tryz.prog 168 false := ⟨Tryz.isAgg168⟩
instance : TySize Tryz.prog 168 1 := ⟨Tryz.sizeOf168⟩
instance : TyBytes Tryz.prog 168 8 := ⟨_, Tryz.typeInfo168, rfl⟩
instance : Zero Tryz.prog 168 [(Go.Value.int Go.IntKind.u64 0)] := ⟨_, Tryz.zeroValue168, rfl⟩
instance : Und Tryz.prog 178 (Go.TypeDesc.int Go.IntKind.u8) := ⟨Tryz.runUnderlying178⟩
instance : IsAgg Tryz.prog 178 false := ⟨Tryz.isAgg178⟩
instance : TySize Tryz.prog 178 1 := ⟨Tryz.sizeOf178⟩
instance : TyBytes Tryz.prog 178 1 := ⟨_, Tryz.typeInfo178, rfl⟩
instance : Zero Tryz.prog 178 [(Go.Value.int Go.IntKind.u8 0)] := ⟨_, Tryz.zeroValue178, rfl⟩
instance : Und Tryz.prog 179 (Go.TypeDesc.int Go.IntKind.u8) := ⟨Tryz.runUnderlying179⟩
instance : IsAgg Tryz.prog 179 false := ⟨Tryz.isAgg179⟩
instance : TySize Tryz.prog 179 1 := ⟨Tryz.sizeOf179⟩
instance : TyBytes Tryz.prog 179 1 := ⟨_, Tryz.typeInfo179, rfl⟩
instance : Zero Tryz.prog 179 [(Go.Value.int Go.IntKind.u8 0)] := ⟨_, Tryz.zeroValue179, rfl⟩
instance : Und Tryz.prog 180 (Go.TypeDesc.func #[186, 186] #[4] Bool.false) := ⟨Tryz.runUnderlying180⟩
instance : IsAgg Tryz.prog 180 false := ⟨Tryz.isAgg180⟩
instance : TySize Tryz.prog 180 1 := ⟨Tryz.sizeOf180⟩
instance : TyBytes Tryz.prog 180 8 := ⟨_, Tryz.typeInfo180, rfl⟩
instance : Zero Tryz.prog 180 [Go.Value.nilFunc] := ⟨_, Tryz.zeroValue180, rfl⟩
instance : Und Tryz.prog 181 (Go.TypeDesc.pointer 5) := ⟨Tryz.runUnderlying181⟩
instance : IsAgg Tryz.prog 181 false := ⟨Tryz.isAgg181⟩
instance : TySize Tryz.prog 181 1 := ⟨Tryz.sizeOf181⟩
instance : TyBytes Tryz.prog 181 8 := ⟨_, Tryz.typeInfo181, rfl⟩
instance : Zero Tryz.prog 181 [(Go.Value.pointer none)] := ⟨_, Tryz.zeroValue181, rfl⟩
instance : Und Tryz.prog 182 (Go.TypeDesc.int Go.IntKind.i32) := ⟨Tryz.runUnderlying182⟩
instance : IsAgg Tryz.prog 182 false := ⟨Tryz.isAgg182⟩
instance : TySize Tryz.prog 182 1 := ⟨Tryz.sizeOf182⟩
instance : TyBytes Tryz.prog 182 4 := ⟨_, Tryz.typeInfo182, rfl⟩
instance : Zero Tryz.prog 182 [(Go.Value.int Go.IntKind.i32 0)] := ⟨_, Tryz.zeroValue182, rfl⟩
instance : Und Tryz.prog 183 (Go.TypeDesc.int Go.IntKind.i32) := ⟨Tryz.runUnderlying183⟩
instance : IsAgg Tryz.prog 183 false := ⟨Tryz.isAgg183⟩
instance : TySize Tryz.prog 183 1 := ⟨Tryz.sizeOf183⟩
instance : TyBytes Tryz.prog 183 4 := ⟨_, Tryz.typeInfo183, rfl⟩
instance : Zero Tryz.prog 183 [(Go.Value.int Go.IntKind.i32 0)] := ⟨_, Tryz.zeroValue183, rfl⟩
instance : Und Tryz.prog 185 (Go.TypeDesc.struct #[(Go.Field.mk "Size_" 12 0 Bool.false "" "" 0), (Go.Field.mk "PtrBytes" 12 1 Bool.false "" "" 8), (Go.Field.mk "Hash" 165 2 Bool.false "" "" 16), (Go.Field.mk "TFlag" 178 3 Bool.false "" "" 20), (Go.Field.mk "Align_" 5 4 Bool.false "" "" 21), (Go.Field.mk "FieldAlign_" 5 5 Bool.false "" "" 22), (Go.Field.mk "Kind_" 179 6 Bool.false "" "" 23), (Go.Field.mk "Equal" 180 7 Bool.false "" "" 24), (Go.Field.mk "GCData" 181 8 Bool.false "" "" 32), (Go.Field.mk "Str" 182 9 Bool.false "" "" 40), (Go.Field.mk "PtrToThis" 183 10 Bool.false "" "" 44)]) := ⟨Tryz.runUnderlying185⟩
instance : IsAgg Tryz.prog 185 true := ⟨Tryz.isAgg185⟩
instance : TySize Tryz.prog 185 11 := ⟨Tryz.sizeOf185⟩
instance : TyBytes Tryz.prog 185 48 := ⟨_, Tryz.typeInfo185, rfl⟩
instance : Zero Tryz.prog 185 [(Go.Value.int Go.IntKind.u64 0), (Go.Value.int Go.IntKind.u64 0), (Go.Value.int Go.IntKind.u32 0), (Go.Value.int Go.IntKind.u8 0), (Go.Value.int Go.IntKind.u8 0), (Go.Value.int Go.IntKind.u8 0), (Go.Value.int Go.IntKind.u8 0), Go.Value.nilFunc, (Go.Value.pointer none), (Go.Value.int Go.IntKind.i32 0), (Go.Value.int Go.IntKind.i32 0)] := ⟨_, Tryz.zeroValue185, rfl⟩
instance : Fld Tryz.prog 185 0 0 := Fld.of (n := 1) ⟨Tryz.runUnderlying185⟩ rfl ⟨Tryz.sizeOf12⟩ (by decide) rfl
instance : Fld Tryz.prog 185 1 1 := Fld.of (n := 1) ⟨Tryz.runUnderlying185⟩ rfl ⟨Tryz.sizeOf12⟩ (by decide) rfl
instance : Fld Tryz.prog 185 2 2 := Fld.of (n := 1) ⟨Tryz.runUnderlying185⟩ rfl ⟨Tryz.sizeOf165⟩ (by decide) rfl
instance : Fld Tryz.prog 185 3 3 := Fld.of (n := 1) ⟨Tryz.runUnderlying185⟩ rfl ⟨Tryz.sizeOf178⟩ (by decide) rfl
instance : Fld Tryz.prog 185 4 4 := Fld.of (n := 1) ⟨Tryz.runUnderlying185⟩ rfl ⟨Tryz.sizeOf5⟩ (by decide) rfl
instance : Fld Tryz.prog 185 5 5 := Fld.of (n := 1) ⟨Tryz.runUnderlying185⟩ rfl ⟨Tryz.sizeOf5⟩ (by decide) rfl
instance : Fld Tryz.prog 185 6 6 := Fld.of (n := 1) ⟨Tryz.runUnderlying185⟩ rfl ⟨Tryz.sizeOf179⟩ (by decide) rfl
instance : Fld Tryz.prog 185 7 7 := Fld.of (n := 1) ⟨Tryz.runUnderlying185⟩ rfl ⟨Tryz.sizeOf180⟩ (by decide) rfl
instance : Fld Tryz.prog 185 8 8 := Fld.of (n := 1) ⟨Tryz.runUnderlying185⟩ rfl ⟨Tryz.sizeOf181⟩ (by decide) rfl
instance : Fld Tryz.prog 185 9 9 := Fld.of (n := 1) ⟨Tryz.runUnderlying185⟩ rfl ⟨Tryz.sizeOf182⟩ (by decide) rfl
instance : Fld Tryz.prog 185 10 10 := Fld.of (n := 1) ⟨Tryz.runUnderlying185⟩ rfl ⟨Tryz.sizeOf183⟩ (by decide) rfl
instance : Places Tryz.prog 185 (fun i => ([(0, 1), (1, 1), (2, 1), (3, 1), (4, 1), (5, 1), (6, 1), (7, 1), (8, 1), (9, 1), (10, 1)] : List (Nat × Nat))[i]?) := Places.struct ⟨Tryz.runUnderlying185⟩ (.c Tryz.sizeOf12 (.c Tryz.sizeOf12 (.c Tryz.sizeOf165 (.c Tryz.sizeOf178 (.c Tryz.sizeOf5 (.c Tryz.sizeOf5 (.c Tryz.sizeOf179 (.c Tryz.sizeOf180 (.c Tryz.sizeOf181 (.c Tryz.sizeOf182 (.c Tryz.sizeOf183 .n)))))))))))
theorem _root_.Go.Proofs.Tryz.mixed : Tryz.prog.follows .mixedOrders = true := by kernel_rfl
end Go.X

set_option linter.unusedSimpArgs false
set_option linter.unusedVariables false
set_option maxRecDepth 20000
namespace Go.X
open Go.Proofs
def encHour (x : KHour) : List Value := [.int .i64 x.buy, .int .i64 x.sell, .int .i64 x.sun, .int .i64 x.load, .int .i64 x.carbon, .int .i64 x.water]
def encJob (x : KJob) : List Value := [.int .i64 x.beg, .int .i64 x.fin, .int .i64 x.hours, .int .i64 x.power]
def encRow (x : KRow) : List Value := [.int .i64 x.bought, .int .i64 x.sold, .int .i64 x.made, .int .i64 x.used, .int .i64 x.stored, .int .i64 x.carbon, .int .i64 x.water]
theorem cloneI (v : Value) (h : PHeap) (xs : List Int) [s : Arr v encI 1 h xs] (hl : xs.length ≤ 68719476736) :
    Spec Tryz.prog 31 #[v] [] [h] (fun v' hs => ∃ h', hs = [h'] ∧ OArr v' encI 1 3 h' xs) := by
  refine Spec.intro (fn := Tryz.f31) (N := 8) Tryz.func31 rfl Tryz.ntmps31 rfl fun B => ?_
  refine XK.seq ?_
  refine XK.region rfl ?_
  refine XO.q (Q.assign rfl) ?_
  refine XO.done ?_
  refine XK.seq ?_
  refine XK.seq ?_
  refine XK.region rfl ?_
  refine XO.q (Q.move rfl) ?_
  refine XO.eqNil rfl fun z4 hz4 => ?_
  refine XO.done ?_
  refine XK.if rfl (fun c0 => ?_) (fun c0 => ?_)
  · have _t0 := True.intro
    refine XK.seq ?_
    refine XK.region rfl ?_
    refine XO.q (Q.assign rfl) ?_
    refine XO.done ?_
    refine XK.rt [emp] Tryz.func31 Tryz.results31 (.t rfl .n) ?_
    exact ⟨emp, rfl, by rw [(hz4 c0).1]; exact OArr.nil (fun _ => rfl)⟩
  · have _t0 := True.intro
    refine XK.skip ?_
    refine XK.seq ?_
    refine XK.region rfl ?_
    refine XO.lit [] [] [] encI (by rfl) (by rfl) rfl (by rfl) (by exact .n _) (fun _ => rfl) (by rfl) rfl (by infer_instance) rfl fun v5 h5 O5 => ?_
    refine XO.q (Q.move rfl) ?_
    refine XO.append rfl rfl rfl rfl (by first | omega | (simp; omega)) fun v7 h7 O7 => ?_
    refine XO.q (Q.assign rfl) ?_
    refine XO.done ?_
    refine XK.rt [h7] Tryz.func31 Tryz.results31 (.t rfl .n) ?_
    exact ⟨h7, rfl, O7⟩
theorem equalI (v1 v2 : Value) (h1 h2 : PHeap) (xs ys : List Int) [s1 : Arr v1 encI 1 h1 xs] [s2 : Arr v2 encI 1 h2 ys] :
    Spec Tryz.prog 34 #[v1, v2] [] [h1, h2] (fun v hs => v = .bool (decide (xs = ys)) ∧ hs = []) := by
  refine Spec.intro (fn := Tryz.f34) (N := 26) Tryz.func34 rfl Tryz.ntmps34 rfl fun B => ?_
  refine XK.seq ?_
  refine XK.region rfl ?_
  refine XO.q (Q.assign rfl) ?_
  refine XO.done ?_
  refine XK.seq ?_
  refine XK.seq ?_
  refine XK.region rfl ?_
  refine XO.q (Q.move rfl) ?_
  refine XO.len rfl fun l7 => ?_
  refine XO.q (Q.move rfl) ?_
  refine XO.len rfl fun l9 => ?_
  refine XO.q (Q.neq rfl rfl) ?_
  refine XO.done ?_
  refine XK.if rfl (fun c0 => ?_) (fun c0 => ?_)
  · have _t0 := True.intro
    refine XK.seq ?_
    refine XK.region rfl ?_
    refine XO.q (Q.assign rfl) ?_
    refine XO.done ?_
    refine XK.rt [] Tryz.func34 Tryz.results34 (.t rfl .n) ?_
    exact ⟨by rw [decide_eq_false (fun h => c0 (by rw [h]))], rfl⟩
  · have _t0 := True.intro
    refine XK.skip ?_
    refine XK.seq ?_
    refine XK.seq ?_
    refine XK.region rfl ?_
    refine XO.q (Q.move rfl) ?_
    refine XO.len rfl fun l12 => ?_
    refine XO.q (Q.move rfl) ?_
    refine XO.done ?_
    refine XK.block ?_
    refine XK.while (X := Nat) [4, 5, 13, 14, 15, 16, 17, 18, 19, 20, 21, 22, 23, 24, 25] (fun i => [(13, some (.int .i64 (i : Nat)))]) (fun i => []) (fun i => i ≤ xs.length ∧ xs.take i = ys.take i) (fun i => xs.length - i) (0) [] rfl ⟨by omega, rfl⟩ (.c rfl (.base 0 rfl rfl)) ?_
    rintro i ⟨hi, ht⟩ ih0
    dsimp only [List.cons_append, List.nil_append] at ih0 ⊢
    refine XK.seq ?_
    refine XK.region rfl ?_
    refine XO.q (Q.lss rfl rfl) ?_
    refine XO.done ?_
    refine XK.seq ?_
    refine XK.if rfl (fun c1 => ?_) (fun c1 => ?_)
    · have _t1 := True.intro
      refine XK.skip ?_
      refine XK.seq ?_
      refine XK.block ?_
      refine XK.seq ?_
      refine XK.region rfl ?_
      refine XO.q (Q.move rfl) ?_
      refine XO.q (Q.assign rfl) ?_
      refine XO.done ?_
      refine XK.seq ?_
      refine XK.drawn [0, 1, 2, 3, 4, 5, 6, 7, 8] [] [] (.q 0 (.q 1 (.q 2 (.q 3 (.q 4 (.q 5 (.q 6 (.q 7 (.q 8 .done))))))))) Tryz.mixed rfl (by kernel_rfl) ?_
      refine XT.q rfl rfl (Q.move rfl) ?_
      refine XT.q rfl rfl (Q.move rfl) ?_
      refine XT.ix rfl rfl rfl rfl (by omega) (by omega) fun i18 => ?_
      refine XT.q rfl rfl (Q.ldE rfl (by first | assumption | omega) rfl) ?_
      refine XT.q rfl rfl (Q.move rfl) ?_
      refine XT.q rfl rfl (Q.move rfl) ?_
      refine XT.ix rfl rfl rfl rfl (by omega) (by omega) fun i22 => ?_
      refine XT.q rfl rfl (Q.ldE rfl (by first | assumption | omega) rfl) ?_
      refine XT.q rfl rfl (Q.neq rfl rfl) ?_
      refine XT.done ?_
      refine XK.if rfl (fun c2 => ?_) (fun c2 => ?_)
      · have _t2 := True.intro
        refine XK.seq ?_
        refine XK.region rfl ?_
        refine XO.q (Q.assign rfl) ?_
        refine XO.done ?_
        refine XK.rt [] Tryz.func34 Tryz.results34 (.t rfl .n) ?_
        exact ⟨by rw [decide_eq_false (fun h => c2 (by rw [h]))], rfl⟩
      · have _t2 := True.intro
        refine XK.skip ?_
        refine XK.inBlock ?_
        refine XK.region rfl ?_
        refine XO.q (Q.add rfl rfl ⟨by omega, by omega⟩) ?_
        refine XO.q (Q.move rfl) ?_
        refine XO.done ?_
        exact ih0 (i + 1) _ _ ⟨by omega, take_step ht (by omega) (by omega) (Decidable.of_not_not c2)⟩ (by first | omega | (dsimp only; omega)) (.c rfl (.base 30 rfl rfl)) inferInstance
    · have _t1 := True.intro
      refine XK.exit rfl ?_
      refine XK.seq ?_
      refine XK.region rfl ?_
      refine XO.q (Q.assign rfl) ?_
      refine XO.done ?_
      refine XK.rt [] Tryz.func34 Tryz.results34 (.t rfl .n) ?_
      exact ⟨by rw [decide_eq_true (take_all ht c1 (by omega))], rfl⟩
theorem indexFuncI (v : Value) (h : PHeap) (xs : List Int) [s : Arr v encI 1 h xs] (gid : FuncId) (cap : List Value) (Hr : List PHeap) (p : Int → Bool)
    (hc : ∀ args w, (callFunc gid args).run Tryz.prog w = .ok (.enter gid args) w) (hS : ∀ x ∈ xs, Spec Tryz.prog gid (.int .i64 x :: cap).toArray [] Hr (fun v hs => v = .bool (p x) ∧ hs = [])) :
    Spec Tryz.prog 101 #[v, .func (.func gid) #[] cap.toArray] [] (h :: Hr) (fun v hs => v = .int .i64 (findFirst p xs) ∧ hs = []) := by
  refine Spec.intro (fn := Tryz.f101) (N := 19) Tryz.func101 rfl Tryz.ntmps101 rfl fun B => ?_
  refine XK.seq ?_
  refine XK.region rfl ?_
  refine XO.q (Q.assign rfl) ?_
  refine XO.done ?_
  refine XK.seq ?_
  refine XK.seq ?_
  refine XK.region rfl ?_
  refine XO.q (Q.move rfl) ?_
  refine XO.len rfl fun l7 => ?_
  refine XO.q (Q.move rfl) ?_
  refine XO.done ?_
  refine XK.block ?_
  refine XK.while (X := Nat) [4, 5, 8, 9, 10, 11, 12, 13, 14, 15, 16, 17, 18] (fun i => [(8, some (.int .i64 (i : Nat)))]) (fun i => []) (fun i => i ≤ xs.length ∧ (xs.take i).any p = false) (fun i => xs.length - i) (0) [] rfl ⟨by omega, rfl⟩ (.c rfl (.base 0 rfl rfl)) ?_
  rintro i ⟨hi, ht⟩ ih0
  dsimp only [List.cons_append, List.nil_append] at ih0 ⊢
  refine XK.seq ?_
  refine XK.region rfl ?_
  refine XO.q (Q.lss rfl rfl) ?_
  refine XO.done ?_
  refine XK.seq ?_
  refine XK.if rfl (fun c0 => ?_) (fun c0 => ?_)
  · have _t0 := True.intro
    refine XK.skip ?_
    refine XK.seq ?_
    refine XK.block ?_
    refine XK.seq ?_
    refine XK.region rfl ?_
    refine XO.q (Q.move rfl) ?_
    refine XO.q (Q.assign rfl) ?_
    refine XO.done ?_
    refine XK.seq ?_
    refine XK.region rfl ?_
    refine XO.q (Q.move rfl) ?_
    refine XO.q (Q.move rfl) ?_
    refine XO.q (Q.move rfl) ?_
    refine XO.ix rfl rfl (by omega) (by omega) fun i14 => ?_
    refine XO.q (Q.ldE rfl (by first | assumption | omega) rfl) ?_
    refine XO.call hc rfl rfl rfl (hS _ (getD_mem (by omega))) fun v16 s16 R16 => ?_
    obtain ⟨rfl, rfl⟩ := R16
    dsimp only [List.cons_append, List.nil_append]
    refine XO.done ?_
    refine XK.if rfl (fun c1 => ?_) (fun c1 => ?_)
    · have _t1 := True.intro
      refine XK.seq ?_
      refine XK.region rfl ?_
      refine XO.q (Q.move rfl) ?_
      refine XO.q (Q.assign rfl) ?_
      refine XO.done ?_
      refine XK.rt [] Tryz.func101 Tryz.results101 (.t rfl .n) ?_
      exact ⟨by rw [findFirst_here ht (by omega) c1], rfl⟩
    · have _t1 := True.intro
      refine XK.skip ?_
      refine XK.inBlock ?_
      refine XK.region rfl ?_
      refine XO.q (Q.add rfl rfl ⟨by omega, by omega⟩) ?_
      refine XO.q (Q.move rfl) ?_
      refine XO.done ?_
      exact ih0 (i + 1) _ _ ⟨by omega, any_step ht (by omega) (Bool.eq_false_iff.2 c1)⟩ (by first | omega | (dsimp only; omega)) (.c rfl (.base 25 rfl rfl)) inferInstance
  · have _t0 := True.intro
    refine XK.exit rfl ?_
    refine XK.seq ?_
    refine XK.region rfl ?_
    refine XO.q (Q.assign rfl) ?_
    refine XO.done ?_
    refine XK.rt [] Tryz.func101 Tryz.results101 (.t rfl .n) ?_
    exact ⟨by rw [findFirst_none ht c0], rfl⟩
theorem containsFuncI (v : Value) (h : PHeap) (xs : List Int) [s : Arr v encI 1 h xs] (gid : FuncId) (cap : List Value) (Hr : List PHeap) (p : Int → Bool)
    (hc : ∀ args w, (callFunc gid args).run Tryz.prog w = .ok (.enter gid args) w) (hS : ∀ x ∈ xs, Spec Tryz.prog gid (.int .i64 x :: cap).toArray [] Hr (fun v hs => v = .bool (p x) ∧ hs = [])) :
    Spec Tryz.prog 83 #[v, .func (.func gid) #[] cap.toArray] [] (h :: Hr) (fun v hs => v = .bool (xs.any p) ∧ hs = []) := by
  refine Spec.intro (fn := Tryz.f83) (N := 9) Tryz.func83 rfl Tryz.ntmps83 rfl fun B => ?_
  refine XK.seq ?_
  refine XK.region rfl ?_
  refine XO.q (Q.assign rfl) ?_
  refine XO.done ?_
  refine XK.seq ?_
  refine XK.region rfl ?_
  refine XO.q (Q.move rfl) ?_
  refine XO.q (Q.move rfl) ?_
  refine XO.call Tryz.call101 rfl rfl rfl (indexFuncI v h xs gid cap Hr p hc hS) fun v7 s7 R7 => ?_
  obtain ⟨rfl, rfl⟩ := R7
  dsimp only [List.cons_append, List.nil_append]
  refine XO.q (Q.geq rfl rfl) ?_
  refine XO.q (Q.assign rfl) ?_
  refine XO.done ?_
  refine XK.rt [] Tryz.func83 Tryz.results83 (.t rfl .n) ?_
  exact ⟨by rw [← findFirst_any], rfl⟩
theorem indexFuncH (v : Value) (h : PHeap) (xs : List KHour) [s : Arr v encHour 6 h xs] (gid : FuncId) (cap : List Value) (Hr : List PHeap) (p : KHour → Bool)
    (hc : ∀ args w, (callFunc gid args).run Tryz.prog w = .ok (.enter gid args) w) (hS : ∀ x ∈ xs, Spec Tryz.prog gid (.agg #[.int .i64 x.buy, .int .i64 x.sell, .int .i64 x.sun, .int .i64 x.load, .int .i64 x.carbon, .int .i64 x.water] :: cap).toArray [] Hr (fun v hs => v = .bool (p x) ∧ hs = [])) :
    Spec Tryz.prog 81 #[v, .func (.func gid) #[] cap.toArray] [] (h :: Hr) (fun v hs => v = .int .i64 (findFirst p xs) ∧ hs = []) := by
  refine Spec.intro (fn := Tryz.f81) (N := 19) Tryz.func81 rfl Tryz.ntmps81 rfl fun B => ?_
  refine XK.seq ?_
  refine XK.region rfl ?_
  refine XO.q (Q.assign rfl) ?_
  refine XO.done ?_
  refine XK.seq ?_
  refine XK.seq ?_
  refine XK.region rfl ?_
  refine XO.q (Q.move rfl) ?_
  refine XO.len rfl fun l7 => ?_
  refine XO.q (Q.move rfl) ?_
  refine XO.done ?_
  refine XK.block ?_
  refine XK.while (X := Nat) [4, 5, 8, 9, 10, 11, 12, 13, 14, 15, 16, 17, 18] (fun i => [(8, some (.int .i64 (i : Nat)))]) (fun i => []) (fun i => i ≤ xs.length ∧ (xs.take i).any p = false) (fun i => xs.length - i) (0) [] rfl ⟨by omega, rfl⟩ (.c rfl (.base 0 rfl rfl)) ?_
  rintro i ⟨hi, ht⟩ ih0
  dsimp only [List.cons_append, List.nil_append] at ih0 ⊢
  refine XK.seq ?_
  refine XK.region rfl ?_
  refine XO.q (Q.lss rfl rfl) ?_
  refine XO.done ?_
  refine XK.seq ?_
  refine XK.if rfl (fun c0 => ?_) (fun c0 => ?_)
  · have _t0 := True.intro
    refine XK.skip ?_
    refine XK.seq ?_
    refine XK.block ?_
    refine XK.seq ?_
    refine XK.region rfl ?_
    refine XO.q (Q.move rfl) ?_
    refine XO.q (Q.assign rfl) ?_
    refine XO.done ?_
    refine XK.seq ?_
    refine XK.region rfl ?_
    refine XO.q (Q.move rfl) ?_
    refine XO.q (Q.move rfl) ?_
    refine XO.q (Q.move rfl) ?_
    refine XO.ix rfl rfl (by omega) (by omega) fun i14 => ?_
    refine XO.q (Q.ldEA [_, _, _, _, _, _] rfl (by first | assumption | omega) rfl rfl) ?_
    refine XO.call hc rfl rfl rfl (hS _ (getD_mem (by omega))) fun v16 s16 R16 => ?_
    obtain ⟨rfl, rfl⟩ := R16
    dsimp only [List.cons_append, List.nil_append]
    refine XO.done ?_
    refine XK.if rfl (fun c1 => ?_) (fun c1 => ?_)
    · have _t1 := True.intro
      refine XK.seq ?_
      refine XK.region rfl ?_
      refine XO.q (Q.move rfl) ?_
      refine XO.q (Q.assign rfl) ?_
      refine XO.done ?_
      refine XK.rt [] Tryz.func81 Tryz.results81 (.t rfl .n) ?_
      exact ⟨by rw [findFirst_here ht (by omega) c1], rfl⟩
    · have _t1 := True.intro
      refine XK.skip ?_
      refine XK.inBlock ?_
      refine XK.region rfl ?_
      refine XO.q (Q.add rfl rfl ⟨by omega, by omega⟩) ?_
      refine XO.q (Q.move rfl) ?_
      refine XO.done ?_
      exact ih0 (i + 1) _ _ ⟨by omega, any_step ht (by omega) (Bool.eq_false_iff.2 c1)⟩ (by first | omega | (dsimp only; omega)) (.c rfl (.base 25 rfl rfl)) inferInstance
  · have _t0 := True.intro
    refine XK.exit rfl ?_
    refine XK.seq ?_
    refine XK.region rfl ?_
    refine XO.q (Q.assign rfl) ?_
    refine XO.done ?_
    refine XK.rt [] Tryz.func81 Tryz.results81 (.t rfl .n) ?_
    exact ⟨by rw [findFirst_none ht c0], rfl⟩
theorem containsFuncH (v : Value) (h : PHeap) (xs : List KHour) [s : Arr v encHour 6 h xs] (gid : FuncId) (cap : List Value) (Hr : List PHeap) (p : KHour → Bool)
    (hc : ∀ args w, (callFunc gid args).run Tryz.prog w = .ok (.enter gid args) w) (hS : ∀ x ∈ xs, Spec Tryz.prog gid (.agg #[.int .i64 x.buy, .int .i64 x.sell, .int .i64 x.sun, .int .i64 x.load, .int .i64 x.carbon, .int .i64 x.water] :: cap).toArray [] Hr (fun v hs => v = .bool (p x) ∧ hs = [])) :
    Spec Tryz.prog 39 #[v, .func (.func gid) #[] cap.toArray] [] (h :: Hr) (fun v hs => v = .bool (xs.any p) ∧ hs = []) := by
  refine Spec.intro (fn := Tryz.f39) (N := 9) Tryz.func39 rfl Tryz.ntmps39 rfl fun B => ?_
  refine XK.seq ?_
  refine XK.region rfl ?_
  refine XO.q (Q.assign rfl) ?_
  refine XO.done ?_
  refine XK.seq ?_
  refine XK.region rfl ?_
  refine XO.q (Q.move rfl) ?_
  refine XO.q (Q.move rfl) ?_
  refine XO.call Tryz.call81 rfl rfl rfl (indexFuncH v h xs gid cap Hr p hc hS) fun v7 s7 R7 => ?_
  obtain ⟨rfl, rfl⟩ := R7
  dsimp only [List.cons_append, List.nil_append]
  refine XO.q (Q.geq rfl rfl) ?_
  refine XO.q (Q.assign rfl) ?_
  refine XO.done ?_
  refine XK.rt [] Tryz.func39 Tryz.results39 (.t rfl .n) ?_
  exact ⟨by rw [← findFirst_any], rfl⟩
theorem indexFuncJ (v : Value) (h : PHeap) (xs : List KJob) [s : Arr v encJob 4 h xs] (gid : FuncId) (cap : List Value) (Hr : List PHeap) (p : KJob → Bool)
    (hc : ∀ args w, (callFunc gid args).run Tryz.prog w = .ok (.enter gid args) w) (hS : ∀ x ∈ xs, Spec Tryz.prog gid (.agg #[.int .i64 x.beg, .int .i64 x.fin, .int .i64 x.hours, .int .i64 x.power] :: cap).toArray [] Hr (fun v hs => v = .bool (p x) ∧ hs = [])) :
    Spec Tryz.prog 82 #[v, .func (.func gid) #[] cap.toArray] [] (h :: Hr) (fun v hs => v = .int .i64 (findFirst p xs) ∧ hs = []) := by
  refine Spec.intro (fn := Tryz.f82) (N := 19) Tryz.func82 rfl Tryz.ntmps82 rfl fun B => ?_
  refine XK.seq ?_
  refine XK.region rfl ?_
  refine XO.q (Q.assign rfl) ?_
  refine XO.done ?_
  refine XK.seq ?_
  refine XK.seq ?_
  refine XK.region rfl ?_
  refine XO.q (Q.move rfl) ?_
  refine XO.len rfl fun l7 => ?_
  refine XO.q (Q.move rfl) ?_
  refine XO.done ?_
  refine XK.block ?_
  refine XK.while (X := Nat) [4, 5, 8, 9, 10, 11, 12, 13, 14, 15, 16, 17, 18] (fun i => [(8, some (.int .i64 (i : Nat)))]) (fun i => []) (fun i => i ≤ xs.length ∧ (xs.take i).any p = false) (fun i => xs.length - i) (0) [] rfl ⟨by omega, rfl⟩ (.c rfl (.base 0 rfl rfl)) ?_
  rintro i ⟨hi, ht⟩ ih0
  dsimp only [List.cons_append, List.nil_append] at ih0 ⊢
  refine XK.seq ?_
  refine XK.region rfl ?_
  refine XO.q (Q.lss rfl rfl) ?_
  refine XO.done ?_
  refine XK.seq ?_
  refine XK.if rfl (fun c0 => ?_) (fun c0 => ?_)
  · have _t0 := True.intro
    refine XK.skip ?_
    refine XK.seq ?_
    refine XK.block ?_
    refine XK.seq ?_
    refine XK.region rfl ?_
    refine XO.q (Q.move rfl) ?_
    refine XO.q (Q.assign rfl) ?_
    refine XO.done ?_
    refine XK.seq ?_
    refine XK.region rfl ?_
    refine XO.q (Q.move rfl) ?_
    refine XO.q (Q.move rfl) ?_
    refine XO.q (Q.move rfl) ?_
    refine XO.ix rfl rfl (by omega) (by omega) fun i14 => ?_
    refine XO.q (Q.ldEA [_, _, _, _] rfl (by first | assumption | omega) rfl rfl) ?_
    refine XO.call hc rfl rfl rfl (hS _ (getD_mem (by omega))) fun v16 s16 R16 => ?_
    obtain ⟨rfl, rfl⟩ := R16
    dsimp only [List.cons_append, List.nil_append]
    refine XO.done ?_
    refine XK.if rfl (fun c1 => ?_) (fun c1 => ?_)
    · have _t1 := True.intro
      refine XK.seq ?_
      refine XK.region rfl ?_
      refine XO.q (Q.move rfl) ?_
      refine XO.q (Q.assign rfl) ?_
      refine XO.done ?_
      refine XK.rt [] Tryz.func82 Tryz.results82 (.t rfl .n) ?_
      exact ⟨by rw [findFirst_here ht (by omega) c1], rfl⟩
    · have _t1 := True.intro
      refine XK.skip ?_
      refine XK.inBlock ?_
      refine XK.region rfl ?_
      refine XO.q (Q.add rfl rfl ⟨by omega, by omega⟩) ?_
      refine XO.q (Q.move rfl) ?_
      refine XO.done ?_
      exact ih0 (i + 1) _ _ ⟨by omega, any_step ht (by omega) (Bool.eq_false_iff.2 c1)⟩ (by first | omega | (dsimp only; omega)) (.c rfl (.base 25 rfl rfl)) inferInstance
  · have _t0 := True.intro
    refine XK.exit rfl ?_
    refine XK.seq ?_
    refine XK.region rfl ?_
    refine XO.q (Q.assign rfl) ?_
    refine XO.done ?_
    refine XK.rt [] Tryz.func82 Tryz.results82 (.t rfl .n) ?_
    exact ⟨by rw [findFirst_none ht c0], rfl⟩
theorem containsFuncJ (v : Value) (h : PHeap) (xs : List KJob) [s : Arr v encJob 4 h xs] (gid : FuncId) (cap : List Value) (Hr : List PHeap) (p : KJob → Bool)
    (hc : ∀ args w, (callFunc gid args).run Tryz.prog w = .ok (.enter gid args) w) (hS : ∀ x ∈ xs, Spec Tryz.prog gid (.agg #[.int .i64 x.beg, .int .i64 x.fin, .int .i64 x.hours, .int .i64 x.power] :: cap).toArray [] Hr (fun v hs => v = .bool (p x) ∧ hs = [])) :
    Spec Tryz.prog 43 #[v, .func (.func gid) #[] cap.toArray] [] (h :: Hr) (fun v hs => v = .bool (xs.any p) ∧ hs = []) := by
  refine Spec.intro (fn := Tryz.f43) (N := 9) Tryz.func43 rfl Tryz.ntmps43 rfl fun B => ?_
  refine XK.seq ?_
  refine XK.region rfl ?_
  refine XO.q (Q.assign rfl) ?_
  refine XO.done ?_
  refine XK.seq ?_
  refine XK.region rfl ?_
  refine XO.q (Q.move rfl) ?_
  refine XO.q (Q.move rfl) ?_
  refine XO.call Tryz.call82 rfl rfl rfl (indexFuncJ v h xs gid cap Hr p hc hS) fun v7 s7 R7 => ?_
  obtain ⟨rfl, rfl⟩ := R7
  dsimp only [List.cons_append, List.nil_append]
  refine XO.q (Q.geq rfl rfl) ?_
  refine XO.q (Q.assign rfl) ?_
  refine XO.done ?_
  refine XK.rt [] Tryz.func43 Tryz.results43 (.t rfl .n) ?_
  exact ⟨by rw [← findFirst_any], rfl⟩
theorem in1 (b : Nat) (m x : Int) : Spec Tryz.prog 84 #[.int .i64 x, ptr b 0] [] [blk b [.int .i64 m] 3] (fun v hs => v = .bool (kout m x) ∧ hs = []) := by
  refine Spec.intro (fn := Tryz.f84) (N := 11) Tryz.func84 rfl Tryz.ntmps84 rfl fun B => ?_
  refine XK.seq ?_
  refine XK.region rfl ?_
  refine XO.q (Q.assign rfl) ?_
  refine XO.done ?_
  refine XK.seq ?_
  refine XK.region rfl ?_
  refine XO.q (Q.move rfl) ?_
  refine XO.q (Q.lss rfl rfl) ?_
  refine XO.q (Q.move rfl) ?_
  refine XO.q (Quiet.guardF rfl rfl fun g7 p7 => Q.move rfl) ?_
  refine XO.q (Quiet.guardF rfl rfl fun g8 p8 => Q.ld rfl rfl) ?_
  refine XO.q (Quiet.guardF rfl rfl fun g9 p9 => Q.gtr (lzv g9 rfl) (lzv g9 rfl)) ?_
  refine XO.q (Q.or rfl (fun hp => lzv hp rfl)) ?_
  refine XO.q (Q.assign rfl) ?_
  refine XO.done ?_
  refine XK.rt [] Tryz.func84 Tryz.results84 (.t rfl .n) ?_
  exact ⟨rfl, rfl⟩
theorem kin_spec (m : Int) (v : Value) (h : PHeap) (xs : List Int) [s : Arr v encI 1 h xs] : Spec Tryz.prog 46 #[.int .i64 m, v] [] [h] (fun v hs => v = .bool (kin m xs) ∧ hs = []) := by
  refine Spec.intro (fn := Tryz.f46) (N := 9) Tryz.func46 rfl Tryz.ntmps46 rfl fun B => ?_
  refine XK.seq ?_
  refine XK.region rfl ?_
  refine XO.box rfl fun b2 => ?_
  refine XO.q (Q.assign rfl) ?_
  refine XO.done ?_
  refine XK.seq ?_
  refine XK.region rfl ?_
  refine XO.q (Q.move rfl) ?_
  refine XO.q (Q.func (fun _ he => rfl) (fun _ he => evs_rel he rfl)) ?_
  refine XO.call Tryz.call83 rfl rfl rfl (containsFuncI v h xs 84 [ptr b2 0] [blk b2 [.int .i64 m] 3] (kout m) Tryz.call84 (fun x hx => in1 b2 m x)) fun v7 s7 R7 => ?_
  obtain ⟨rfl, rfl⟩ := R7
  dsimp only [List.cons_append, List.nil_append]
  refine XO.q (Q.not rfl) ?_
  refine XO.q (Q.assign rfl) ?_
  refine XO.done ?_
  refine XK.rt [] Tryz.func46 Tryz.results46 (.t rfl .n) ?_
  exact ⟨rfl, rfl⟩
theorem hourR_spec (h : KHour) : Spec Tryz.prog 41 #[.agg #[.int .i64 h.buy, .int .i64 h.sell, .int .i64 h.sun, .int .i64 h.load, .int .i64 h.carbon, .int .i64 h.water]] [] [] (fun v hs => v = .bool (hourR h) ∧ hs = []) := by
  refine Spec.intro (fn := Tryz.f41) (N := 32) Tryz.func41 rfl Tryz.ntmps41 rfl fun B => ?_
  refine XK.seq ?_
  refine XK.region rfl ?_
  refine XO.box rfl fun b1 => ?_
  refine XO.q (Q.assign rfl) ?_
  refine XO.done ?_
  refine XK.seq ?_
  refine XK.region rfl ?_
  refine XO.q (Q.fieldAddr rfl) ?_
  refine XO.q (Q.ld rfl rfl) ?_
  refine XO.q (Q.fieldAddr rfl) ?_
  refine XO.q (Q.ld rfl rfl) ?_
  refine XO.lit [_, _] [_, _] [h.buy, h.sell] encI (by rfl) (by rfl) rfl (by rfl) (by exact .c 0 1 rfl rfl rfl (.c 1 1 rfl rfl rfl (.n _))) (fun _ => rfl) (by rfl) rfl (by infer_instance) rfl fun v7 h7 O7 => ?_
  refine XO.call Tryz.call46 rfl rfl rfl (kin_spec 1000 v7 h7 [h.buy, h.sell]) fun v8 s8 R8 => ?_
  obtain ⟨rfl, rfl⟩ := R8
  dsimp only [List.cons_append, List.nil_append]
  refine XO.q (Q.move rfl) ?_
  refine XO.q (Quiet.guardT rfl rfl fun g10 p10 => Q.fieldAddr rfl) ?_
  refine XO.q (Quiet.guardT rfl rfl fun g11 p11 => Q.ld (lzv g11 rfl) rfl) ?_
  refine XO.q (Quiet.guardT rfl rfl fun g12 p12 => Q.fieldAddr rfl) ?_
  refine XO.q (Quiet.guardT rfl rfl fun g13 p13 => Q.ld (lzv g13 rfl) rfl) ?_
  refine XO.q (Quiet.guardT rfl rfl fun g14 p14 => Q.leq (lzv g14 rfl) (lzv g14 rfl)) ?_
  refine XO.q (Q.and rfl (fun hp => lzv hp rfl)) ?_
  refine XO.q (Q.move rfl) ?_
  refine XO.q (Quiet.guardT rfl rfl fun g17 p17 => Q.fieldAddr rfl) ?_
  refine XO.q (Quiet.guardT rfl rfl fun g18 p18 => Q.ld (lzv g18 rfl) rfl) ?_
  refine XO.q (Quiet.guardT rfl rfl fun g19 p19 => Q.fieldAddr rfl) ?_
  refine XO.q (Quiet.guardT rfl rfl fun g20 p20 => Q.ld (lzv g20 rfl) rfl) ?_
  refine XO.lit1 [_, _] [_, _] [h.sun, h.load] encI rfl rfl (by rfl) (by rfl) rfl (by rfl) (fun g21 => by exact .c 0 1 (lzv g21 rfl) rfl rfl (.c 1 1 (lzv g21 rfl) rfl rfl (.n _))) (fun _ => rfl) (by rfl) rfl (fun _ => by infer_instance) rfl (fun v21 h21 O21 => ?_)
  refine XO.gcallT rfl rfl Tryz.call46 rfl (fun g22 => .c rfl (.c (lzv g22 rfl) .n)) rfl (fun g22 p22 => by haveI := O21 g22; exact kin_spec 40 v21 h21 [h.sun, h.load]) ?_
  refine XO.q (Q.and rfl (fun hp => lzv hp rfl)) ?_
  refine XO.q (Q.move rfl) ?_
  refine XO.q (Quiet.guardT rfl rfl fun g25 p25 => Q.fieldAddr rfl) ?_
  refine XO.q (Quiet.guardT rfl rfl fun g26 p26 => Q.ld (lzv g26 rfl) rfl) ?_
  refine XO.q (Quiet.guardT rfl rfl fun g27 p27 => Q.fieldAddr rfl) ?_
  refine XO.q (Quiet.guardT rfl rfl fun g28 p28 => Q.ld (lzv g28 rfl) rfl) ?_
  refine XO.lit1 [_, _] [_, _] [h.carbon, h.water] encI rfl rfl (by rfl) (by rfl) rfl (by rfl) (fun g29 => by exact .c 0 1 (lzv g29 rfl) rfl rfl (.c 1 1 (lzv g29 rfl) rfl rfl (.n _))) (fun _ => rfl) (by rfl) rfl (fun _ => by infer_instance) rfl (fun v29 h29 O29 => ?_)
  refine XO.gcallT rfl rfl Tryz.call46 rfl (fun g30 => .c rfl (.c (lzv g30 rfl) .n)) rfl (fun g30 p30 => by haveI := O29 g30; exact kin_spec 10000 v29 h29 [h.carbon, h.water]) ?_
  refine XO.q (Q.and rfl (fun hp => lzv hp rfl)) ?_
  refine XO.q (Q.assign rfl) ?_
  refine XO.done ?_
  refine XK.rt [] Tryz.func41 Tryz.results41 (.t rfl .n) ?_
  exact ⟨rfl, rfl⟩
theorem storeR_spec (s : KStore) : Spec Tryz.prog 42 #[.agg #[.int .i64 s.energy, .int .i64 s.full, .int .i64 s.power, .int .i64 s.fin]] [] [] (fun v hs => v = .bool (storeR s) ∧ hs = []) := by
  refine Spec.intro (fn := Tryz.f42) (N := 19) Tryz.func42 rfl Tryz.ntmps42 rfl fun B => ?_
  refine XK.seq ?_
  refine XK.region rfl ?_
  refine XO.box rfl fun b1 => ?_
  refine XO.q (Q.assign rfl) ?_
  refine XO.done ?_
  refine XK.seq ?_
  refine XK.region rfl ?_
  refine XO.q (Q.fieldAddr rfl) ?_
  refine XO.q (Q.ld rfl rfl) ?_
  refine XO.q (Q.fieldAddr rfl) ?_
  refine XO.q (Q.ld rfl rfl) ?_
  refine XO.lit [_, _] [_, _] [s.full, s.power] encI (by rfl) (by rfl) rfl (by rfl) (by exact .c 0 1 rfl rfl rfl (.c 1 1 rfl rfl rfl (.n _))) (fun _ => rfl) (by rfl) rfl (by infer_instance) rfl fun v7 h7 O7 => ?_
  refine XO.call Tryz.call46 rfl rfl rfl (kin_spec 10 v7 h7 [s.full, s.power]) fun v8 s8 R8 => ?_
  obtain ⟨rfl, rfl⟩ := R8
  dsimp only [List.cons_append, List.nil_append]
  refine XO.q (Q.move rfl) ?_
  refine XO.q (Quiet.guardT rfl rfl fun g10 p10 => Q.fieldAddr rfl) ?_
  refine XO.q (Quiet.guardT rfl rfl fun g11 p11 => Q.ld (lzv g11 rfl) rfl) ?_
  refine XO.q (Quiet.guardT rfl rfl fun g12 p12 => Q.fieldAddr rfl) ?_
  refine XO.q (Quiet.guardT rfl rfl fun g13 p13 => Q.ld (lzv g13 rfl) rfl) ?_
  refine XO.q (Quiet.guardT rfl rfl fun g14 p14 => Q.fieldAddr rfl) ?_
  refine XO.q (Quiet.guardT rfl rfl fun g15 p15 => Q.ld (lzv g15 rfl) rfl) ?_
  refine XO.lit1 [_, _] [_, _] [s.energy, s.fin] encI rfl rfl (by rfl) (by rfl) rfl (by rfl) (fun g16 => by exact .c 0 1 (lzv g16 rfl) rfl rfl (.c 1 1 (lzv g16 rfl) rfl rfl (.n _))) (fun _ => rfl) (by rfl) rfl (fun _ => by infer_instance) rfl (fun v16 h16 O16 => ?_)
  refine XO.gcallT rfl rfl Tryz.call46 rfl (fun g17 => .c (lzv g17 rfl) (.c (lzv g17 rfl) .n)) rfl (fun g17 p17 => by haveI := O16 g17; exact kin_spec s.full v16 h16 [s.energy, s.fin]) ?_
  refine XO.q (Q.and rfl (fun hp => lzv hp rfl)) ?_
  refine XO.q (Q.assign rfl) ?_
  refine XO.done ?_
  refine XK.rt [] Tryz.func42 Tryz.results42 (.t rfl .n) ?_
  exact ⟨rfl, rfl⟩
theorem jobR_spec (j : KJob) (n : Nat) (hn : (n : Int) ≤ 140737488355328) : Spec Tryz.prog 45 #[.agg #[.int .i64 j.beg, .int .i64 j.fin, .int .i64 j.hours, .int .i64 j.power], .int .i64 (n : Nat)] [] [] (fun v hs => v = .bool (jobR n j) ∧ hs = []) := by
  refine Spec.intro (fn := Tryz.f45) (N := 33) Tryz.func45 rfl Tryz.ntmps45 rfl fun B => ?_
  refine XK.seq ?_
  refine XK.region rfl ?_
  refine XO.box rfl fun b2 => ?_
  refine XO.q (Q.assign rfl) ?_
  refine XO.done ?_
  refine XK.seq ?_
  refine XK.region rfl ?_
  refine XO.q (Q.move rfl) ?_
  refine XO.q (Q.fieldAddr rfl) ?_
  refine XO.q (Q.ld rfl rfl) ?_
  refine XO.q (Q.fieldAddr rfl) ?_
  refine XO.q (Q.ld rfl rfl) ?_
  refine XO.lit [_, _] [_, _] [j.beg, j.fin] encI (by rfl) (by rfl) rfl (by rfl) (by exact .c 0 1 rfl rfl rfl (.c 1 1 rfl rfl rfl (.n _))) (fun _ => rfl) (by rfl) rfl (by infer_instance) rfl fun v10 h10 O10 => ?_
  refine XO.call Tryz.call46 rfl rfl rfl (kin_spec (n : Int) v10 h10 [j.beg, j.fin]) fun v11 s11 R11 => ?_
  obtain ⟨rfl, rfl⟩ := R11
  dsimp only [List.cons_append, List.nil_append]
  refine XO.q (Q.move rfl) ?_
  refine XO.q (Quiet.guardT rfl rfl fun g13 p13 => Q.fieldAddr rfl) ?_
  refine XO.q (Quiet.guardT rfl rfl fun g14 p14 => Q.ld (lzv g14 rfl) rfl) ?_
  refine XO.q (Quiet.guardT rfl rfl fun g15 p15 => Q.geq (lzv g15 rfl) rfl) ?_
  refine XO.q (Q.and rfl (fun hp => lzv hp rfl)) ?_
  refine XO.q (Q.move rfl) ?_
  refine XO.q (Quiet.guardT rfl rfl fun g18 p18 => Q.fieldAddr rfl) ?_
  refine XO.q (Quiet.guardT rfl rfl fun g19 p19 => Q.ld (lzv g19 rfl) rfl) ?_
  refine XO.q (Quiet.guardT rfl rfl fun g20 p20 => Q.fieldAddr rfl) ?_
  refine XO.q (Quiet.guardT rfl rfl fun g21 p21 => Q.ld (lzv g21 rfl) rfl) ?_
  refine XO.q (Quiet.guardT rfl rfl fun g22 p22 => Q.fieldAddr rfl) ?_
  refine XO.q (Quiet.guardT rfl rfl fun g23 p23 => Q.ld (lzv g23 rfl) rfl) ?_
  refine XO.q (Quiet.guardT rfl rfl fun g24 p24 => Q.sub (lzv g24 rfl) (lzv g24 rfl) (by have q := kin_two.1 p24.1; exact ⟨by omega, by omega⟩)) ?_
  refine XO.q (Quiet.guardT rfl rfl fun g25 p25 => Q.leq (lzv g25 rfl) (lzv g25 rfl)) ?_
  refine XO.q (Q.and rfl (fun hp => lzv hp rfl)) ?_
  refine XO.q (Q.move rfl) ?_
  refine XO.q (Quiet.guardT rfl rfl fun g28 p28 => Q.fieldAddr rfl) ?_
  refine XO.q (Quiet.guardT rfl rfl fun g29 p29 => Q.ld (lzv g29 rfl) rfl) ?_
  refine XO.lit1 [_] [_] [j.power] encI rfl rfl (by rfl) (by rfl) rfl (by rfl) (fun g30 => by exact .c 0 1 (lzv g30 rfl) rfl rfl (.n _)) (fun _ => rfl) (by rfl) rfl (fun _ => by infer_instance) rfl (fun v30 h30 O30 => ?_)
  refine XO.gcallT rfl rfl Tryz.call46 rfl (fun g31 => .c rfl (.c (lzv g31 rfl) .n)) rfl (fun g31 p31 => by haveI := O30 g31; exact kin_spec 20 v30 h30 [j.power]) ?_
  refine XO.q (Q.and rfl (fun hp => lzv hp rfl)) ?_
  refine XO.q (Q.assign rfl) ?_
  refine XO.done ?_
  refine XK.rt [] Tryz.func45 Tryz.results45 (.t rfl .n) ?_
  exact ⟨rfl, rfl⟩
theorem check1 (h : KHour) : Spec Tryz.prog 40 #[.agg #[.int .i64 h.buy, .int .i64 h.sell, .int .i64 h.sun, .int .i64 h.load, .int .i64 h.carbon, .int .i64 h.water]] [] [] (fun v hs => v = .bool (!hourR h) ∧ hs = []) := by
  refine Spec.intro (fn := Tryz.f40) (N := 6) Tryz.func40 rfl Tryz.ntmps40 rfl fun B => ?_
  refine XK.seq ?_
  refine XK.region rfl ?_
  refine XO.box rfl fun b1 => ?_
  refine XO.q (Q.assign rfl) ?_
  refine XO.done ?_
  refine XK.seq ?_
  refine XK.region rfl ?_
  refine XO.q (Q.ldA [_, _, _, _, _, _] rfl rfl rfl) ?_
  refine XO.call Tryz.call41 rfl rfl rfl (hourR_spec h) fun v4 s4 R4 => ?_
  obtain ⟨rfl, rfl⟩ := R4
  dsimp only [List.cons_append, List.nil_append]
  refine XO.q (Q.not rfl) ?_
  refine XO.q (Q.assign rfl) ?_
  refine XO.done ?_
  refine XK.rt [] Tryz.func40 Tryz.results40 (.t rfl .n) ?_
  exact ⟨rfl, rfl⟩
theorem check2 (d : KDay) (vh vj : Value) (hh hj : PHeap) [ih : Arr vh encHour 6 hh d.hours] [ij : Arr vj encJob 4 hj d.jobs] (j : KJob) (b : Nat) : Spec Tryz.prog 44 #[.agg #[.int .i64 j.beg, .int .i64 j.fin, .int .i64 j.hours, .int .i64 j.power], ptr b 0] [] [blk b [vh, .int .i64 d.store.energy, .int .i64 d.store.full, .int .i64 d.store.power, .int .i64 d.store.fin, vj, .int .i64 d.most, .int .i64 d.peak] 27] (fun v hs => v = .bool (!jobR d.hours.length j) ∧ hs = []) := by
  have lh := ih.le
  refine Spec.intro (fn := Tryz.f44) (N := 10) Tryz.func44 rfl Tryz.ntmps44 rfl fun B => ?_
  refine XK.seq ?_
  refine XK.region rfl ?_
  refine XO.box rfl fun b2 => ?_
  refine XO.q (Q.assign rfl) ?_
  refine XO.done ?_
  refine XK.seq ?_
  refine XK.region rfl ?_
  refine XO.q (Q.ldA [_, _, _, _] rfl rfl rfl) ?_
  refine XO.q (Q.fieldAddr rfl) ?_
  refine XO.q (Q.ld rfl rfl) ?_
  refine XO.len rfl fun l7 => ?_
  refine XO.call Tryz.call45 rfl rfl rfl (jobR_spec j d.hours.length (by omega)) fun v8 s8 R8 => ?_
  obtain ⟨rfl, rfl⟩ := R8
  dsimp only [List.cons_append, List.nil_append]
  refine XO.q (Q.not rfl) ?_
  refine XO.q (Q.assign rfl) ?_
  refine XO.done ?_
  refine XK.rt [] Tryz.func44 Tryz.results44 (.t rfl .n) ?_
  exact ⟨rfl, rfl⟩
theorem prod_rng {js : List KJob} {n : Nat} (hn : n ≤ 24) (h2 : js.length ≤ 2) (h : ∀ i, i < js.length → JobOk n (js.getD i default)) : ∀ i, i ≤ js.length → 1 ≤ prodS js i ∧ prodS js i ≤ (if i = 0 then 1 else if i = 1 then 24 else 576) := fun i hi => by
  have sp : ∀ k, k < js.length → 1 ≤ spanS (js.getD k default) ∧ spanS (js.getD k default) ≤ 24 := fun k hk => by
    have := h k hk
    have := this.b0; have := (h k hk).b1; have := (h k hk).t1; have := (h k hk).h0
    unfold spanS; omega
  match i, hi with
  | 0, _ => exact ⟨Int.le_refl _, Int.le_refl _⟩
  | 1, hi => have := sp 0 (by omega); simp only [prodS]; omega
  | 2, hi =>
    have h0 := sp 0 (by omega)
    have h1 := sp 1 (by omega)
    simp only [prodS, Int.one_mul]
    have a : 1 * 1 ≤ spanS (js.getD 0 default) * spanS (js.getD 1 default) := Int.mul_le_mul h0.1 h1.1 (by omega) (by omega)
    have b : spanS (js.getD 0 default) * spanS (js.getD 1 default) ≤ 24 * 24 := Int.mul_le_mul h0.2 h1.2 (by omega) (by omega)
    omega
  | n + 3, hi => omega
theorem Check_spec (d : KDay) (vh vj : Value) (hh hj : PHeap) [ih : Arr vh encHour 6 hh d.hours] [ij : Arr vj encJob 4 hj d.jobs] : Spec Tryz.prog 10 #[.agg #[vh, .int .i64 d.store.energy, .int .i64 d.store.full, .int .i64 d.store.power, .int .i64 d.store.fin, vj, .int .i64 d.most, .int .i64 d.peak]] [] [hh, hj] (fun v hs => v = .int .i64 (kcheck d) ∧ hs = []) := by
  have lh := ih.le
  have lj := ij.le
  refine Spec.intro (fn := Tryz.f10) (N := 66) Tryz.func10 rfl Tryz.ntmps10 rfl fun B => ?_
  refine XK.seq ?_
  refine XK.region rfl ?_
  refine XO.box rfl fun b1 => ?_
  refine XO.q (Q.assign rfl) ?_
  refine XO.done ?_
  refine XK.seq ?_
  refine XK.block ?_
  refine XK.seq ?_
  refine XK.region rfl ?_
  refine XO.q (Q.fieldAddr rfl) ?_
  refine XO.q (Q.ld rfl rfl) ?_
  refine XO.len rfl fun l9 => ?_
  refine XO.q (Q.lss rfl rfl) ?_
  refine XO.q (Q.move rfl) ?_
  refine XO.q (Quiet.guardF rfl rfl fun g12 p12 => Q.fieldAddr rfl) ?_
  refine XO.q (Quiet.guardF rfl rfl fun g13 p13 => Q.ld (lzv g13 rfl) rfl) ?_
  refine XO.q (Quiet.guardF rfl rfl fun g14 p14 => Q.len (lzv g14 rfl)) ?_
  refine XO.q (Quiet.guardF rfl rfl fun g15 p15 => Q.gtr (lzv g15 rfl) rfl) ?_
  refine XO.q (Q.or rfl (fun hp => lzv hp rfl)) ?_
  refine XO.q (Q.move rfl) ?_
  refine XO.q (Quiet.guardF rfl rfl fun g18 p18 => Q.fieldAddr rfl) ?_
  refine XO.q (Quiet.guardF rfl rfl fun g19 p19 => Q.ld (lzv g19 rfl) rfl) ?_
  refine XO.q (Quiet.guardF rfl rfl fun g20 p20 => Q.len (lzv g20 rfl)) ?_
  refine XO.q (Quiet.guardF rfl rfl fun g21 p21 => Q.gtr (lzv g21 rfl) rfl) ?_
  refine XO.q (Q.or rfl (fun hp => lzv hp rfl)) ?_
  refine XO.q (Q.assign rfl) ?_
  refine XO.done ?_
  refine XK.if rfl (fun c0 => ?_) (fun c0 => ?_)
  · have _t0 := True.intro
    refine XK.seq ?_
    refine XK.region rfl ?_
    refine XO.q (Q.assign rfl) ?_
    refine XO.done ?_
    refine XK.rt [] Tryz.func10 Tryz.results10 (.t rfl .n) ?_
    exact ⟨by rw [kcheck, if_pos c0], rfl⟩
  · have _t0 := True.intro
    refine XK.seq ?_
    refine XK.seq ?_
    refine XK.region rfl ?_
    refine XO.q (Q.fieldAddr rfl) ?_
    refine XO.q (Q.ld rfl rfl) ?_
    refine XO.call Tryz.call39 rfl rfl rfl (containsFuncH vh hh d.hours 40 [] [] (fun h => !hourR h) Tryz.call40 (fun x hx => check1 x)) fun v26 s26 R26 => ?_
    obtain ⟨rfl, rfl⟩ := R26
    dsimp only [List.cons_append, List.nil_append]
    refine XO.q (Q.assign rfl) ?_
    refine XO.done ?_
    refine XK.meet (X := Bool) [23, 27, 28, 29, 30, 31, 32, 33, 34, 35, 36, 37, 38, 39, 40, 41, 42, 43, 44] (fun q => [(23, some (.bool q))]) (fun q => []) (fun q => q = kbad d) [] ?_ ?_
    · rintro q hq
      dsimp only [List.cons_append, List.nil_append]
      subst hq
      refine XK.if rfl (fun c2 => ?_) (fun c2 => ?_)
      · have _t2 := True.intro
        refine XK.seq ?_
        refine XK.region rfl ?_
        refine XO.q (Q.assign rfl) ?_
        refine XO.done ?_
        refine XK.rt [] Tryz.func10 Tryz.results10 (.t rfl .n) ?_
        exact ⟨by rw [kcheck, if_neg c0, if_pos c2], rfl⟩
      · have _t2 := True.intro
        have kf := kbad_false.1 (Bool.eq_false_iff.2 c2)
        have pr := prod_rng (by omega) (by omega) kf.2.2.1
        refine XK.skip ?_
        refine XK.inBlock ?_
        refine XK.seq ?_
        refine XK.region rfl ?_
        refine XO.q (Q.assign rfl) ?_
        refine XO.done ?_
        refine XK.seq ?_
        refine XK.seq ?_
        refine XK.region rfl ?_
        refine XO.q (Q.fieldAddr rfl) ?_
        refine XO.q (Q.ld rfl rfl) ?_
        refine XO.len rfl fun l47 => ?_
        refine XO.q (Q.move rfl) ?_
        refine XO.done ?_
        refine XK.block ?_
        refine XK.while (X := Nat) [3, 5, 48, 49, 50, 51, 52, 53, 54, 55, 56, 57, 58, 59, 60, 61, 62, 63] (fun i => [(3, some (.int .i64 (prodS d.jobs i))), (48, some (.int .i64 (i : Nat)))]) (fun i => []) (fun i => i ≤ d.jobs.length) (fun i => d.jobs.length - i) (0) [] rfl (by omega) (.c rfl (.c rfl (.base 0 rfl rfl))) ?_
        rintro i hi ih0
        dsimp only [List.cons_append, List.nil_append] at ih0 ⊢
        refine XK.seq ?_
        refine XK.region rfl ?_
        refine XO.q (Q.lss rfl rfl) ?_
        refine XO.done ?_
        refine XK.seq ?_
        refine XK.if rfl (fun c3 => ?_) (fun c3 => ?_)
        · have _t3 := True.intro
          have pi := pr i (by omega)
          have pi1 := pr (i + 1) (by omega)
          have ji := kf.2.2.1 i (by omega)
          have j1 := ji.b0
          have j2 := ji.b1
          have j3 := ji.t1
          have j4 := ji.h0
          have e1 : prodS d.jobs (i + 1) = prodS d.jobs i * spanS (d.jobs.getD i default) := rfl
          unfold spanS at e1
          have hi2 : i = 0 ∨ i = 1 := by omega
          rw [e1] at pi1
          refine XK.skip ?_
          refine XK.seq ?_
          refine XK.block ?_
          refine XK.seq ?_
          refine XK.region rfl ?_
          refine XO.ix rfl rfl (by omega) (by omega) fun i50 => ?_
          refine XO.q (Q.ldEA [_, _, _, _] rfl (by first | assumption | omega) rfl rfl) ?_
          refine XO.alloc fun b5 => ?_
          refine XO.st rfl rfl rfl ?_
          refine XO.done ?_
          refine XK.region rfl ?_
          refine XO.q (Q.move rfl) ?_
          refine XO.q (Q.fieldAddr rfl) ?_
          refine XO.q (Q.ld rfl rfl) ?_
          refine XO.q (Q.fieldAddr rfl) ?_
          refine XO.q (Q.ld rfl rfl) ?_
          refine XO.q (Q.sub rfl rfl ⟨by omega, by omega⟩) ?_
          refine XO.q (Q.fieldAddr rfl) ?_
          refine XO.q (Q.ld rfl rfl) ?_
          refine XO.q (Q.sub rfl rfl ⟨by omega, by omega⟩) ?_
          refine XO.q (Q.add rfl rfl ⟨by omega, by omega⟩) ?_
          refine XO.q (Q.mul rfl rfl ⟨by omega, by omega⟩) ?_
          refine XO.q (Q.assign rfl) ?_
          refine XO.done ?_
          refine XK.inBlock ?_
          refine XK.region rfl ?_
          refine XO.q (Q.add rfl rfl ⟨by omega, by omega⟩) ?_
          refine XO.q (Q.move rfl) ?_
          refine XO.done ?_
          exact ih0 (i + 1) _ _ (by omega) (by first | omega | (dsimp only; omega)) (.c rfl (.c rfl (.base 38 rfl rfl))) inferInstance
        · have _t3 := True.intro
          have hil : i = d.jobs.length := by omega
          subst hil
          refine XK.exit rfl ?_
          refine XK.seq ?_
          refine XK.seq ?_
          refine XK.region rfl ?_
          refine XO.q (Q.move rfl) ?_
          refine XO.q (Q.gtr rfl rfl) ?_
          refine XO.done ?_
          refine XK.if rfl (fun c4 => ?_) (fun c4 => ?_)
          · have _t4 := True.intro
            refine XK.seq ?_
            refine XK.region rfl ?_
            refine XO.q (Q.assign rfl) ?_
            refine XO.done ?_
            refine XK.rt [] Tryz.func10 Tryz.results10 (.t rfl .n) ?_
            exact ⟨by rw [kcheck, if_neg c0, if_neg c2, if_pos c4], rfl⟩
          · have _t4 := True.intro
            refine XK.skip ?_
            refine XK.seq ?_
            refine XK.region rfl ?_
            refine XO.q (Q.assign rfl) ?_
            refine XO.done ?_
            refine XK.rt [] Tryz.func10 Tryz.results10 (.t rfl .n) ?_
            exact ⟨by rw [kcheck, if_neg c0, if_neg c2, if_neg c4], rfl⟩
    · intro mt1
      dsimp only [List.cons_append, List.nil_append] at mt1
      refine XK.if rfl (fun c1 => ?_) (fun c1 => ?_)
      · have _t1 := True.intro
        refine XK.skip ?_
        exact mt1 (d.hours.any fun h => !hourR h) _ _ (by unfold kbad; rw [c1]; rfl) (.c rfl (.base 0 rfl rfl)) inferInstance
      · have _t1 := True.intro
        refine XK.seq ?_
        refine XK.region rfl ?_
        refine XO.q (Q.fieldAddr rfl) ?_
        refine XO.q (Q.ldA [_, _, _, _] rfl rfl rfl) ?_
        refine XO.call Tryz.call42 rfl rfl rfl (storeR_spec d.store) fun v29 s29 R29 => ?_
        obtain ⟨rfl, rfl⟩ := R29
        dsimp only [List.cons_append, List.nil_append]
        refine XO.q (Q.not rfl) ?_
        refine XO.q (Q.assign rfl) ?_
        refine XO.done ?_
        refine XK.if rfl (fun c5 => ?_) (fun c5 => ?_)
        · have _t5 := True.intro
          refine XK.skip ?_
          exact mt1 (!storeR d.store) _ _ (by unfold kbad; rw [Bool.eq_false_iff.2 c1, Bool.eq_false_iff.2 c5]; rfl) (.c rfl (.base 5 rfl rfl)) inferInstance
        · have _t5 := True.intro
          refine XK.seq ?_
          refine XK.region rfl ?_
          refine XO.q (Q.fieldAddr rfl) ?_
          refine XO.q (Q.ld rfl rfl) ?_
          refine XO.q (Q.func (fun _ he => rfl) (fun _ he => evs_rel he rfl)) ?_
          refine XO.call Tryz.call43 rfl rfl rfl (containsFuncJ vj hj d.jobs 44 [ptr b1 0] [blk b1 [vh, .int .i64 d.store.energy, .int .i64 d.store.full, .int .i64 d.store.power, .int .i64 d.store.fin, vj, .int .i64 d.most, .int .i64 d.peak] 27] (fun j => !jobR d.hours.length j) Tryz.call44 (fun x hx => check2 d vh vj hh hj x b1)) fun v34 s34 R34 => ?_
          obtain ⟨rfl, rfl⟩ := R34
          dsimp only [List.cons_append, List.nil_append]
          refine XO.q (Q.assign rfl) ?_
          refine XO.done ?_
          refine XK.if rfl (fun c6 => ?_) (fun c6 => ?_)
          · have _t6 := True.intro
            refine XK.skip ?_
            exact mt1 (d.jobs.any fun j => !jobR d.hours.length j) _ _ (by unfold kbad; rw [Bool.eq_false_iff.2 c1, Decidable.of_not_not c5, c6]; rfl) (.c rfl (.base 10 rfl rfl)) inferInstance
          · have _t6 := True.intro
            refine XK.seq ?_
            refine XK.region rfl ?_
            refine XO.q (Q.fieldAddr rfl) ?_
            refine XO.q (Q.ld rfl rfl) ?_
            refine XO.lit [_] [_] [d.most] encI (by rfl) (by rfl) rfl (by rfl) (by exact .c 0 1 rfl rfl rfl (.n _)) (fun _ => rfl) (by rfl) rfl (by infer_instance) rfl fun v37 h37 O37 => ?_
            refine XO.call Tryz.call46 rfl rfl rfl (kin_spec 40 v37 h37 [d.most]) fun v38 s38 R38 => ?_
            obtain ⟨rfl, rfl⟩ := R38
            dsimp only [List.cons_append, List.nil_append]
            refine XO.q (Q.not rfl) ?_
            refine XO.q (Q.assign rfl) ?_
            refine XO.done ?_
            refine XK.if rfl (fun c7 => ?_) (fun c7 => ?_)
            · have _t7 := True.intro
              refine XK.skip ?_
              exact mt1 (!kin 40 [d.most]) _ _ (by unfold kbad; rw [Bool.eq_false_iff.2 c1, Decidable.of_not_not c5, Bool.eq_false_iff.2 c6, Bool.eq_false_iff.2 c7]; rfl) (.c rfl (.base 16 rfl rfl)) inferInstance
            · have _t7 := True.intro
              refine XK.region rfl ?_
              refine XO.q (Q.fieldAddr rfl) ?_
              refine XO.q (Q.ld rfl rfl) ?_
              refine XO.lit [_] [_] [d.peak] encI (by rfl) (by rfl) rfl (by rfl) (by exact .c 0 1 rfl rfl rfl (.n _)) (fun _ => rfl) (by rfl) rfl (by infer_instance) rfl fun v42 h42 O42 => ?_
              refine XO.call Tryz.call46 rfl rfl rfl (kin_spec 1000 v42 h42 [d.peak]) fun v43 s43 R43 => ?_
              obtain ⟨rfl, rfl⟩ := R43
              dsimp only [List.cons_append, List.nil_append]
              refine XO.q (Q.not rfl) ?_
              refine XO.q (Q.assign rfl) ?_
              refine XO.done ?_
              exact mt1 (!kin 1000 [d.peak]) _ _ (by unfold kbad; rw [Bool.eq_false_iff.2 c1, Decidable.of_not_not c5, Bool.eq_false_iff.2 c6, Decidable.of_not_not c7]; rfl) (.c rfl (.base 22 rfl rfl)) inferInstance
end Go.X

set_option linter.unusedSimpArgs false
set_option linter.unusedVariables false
set_option maxRecDepth 20000
namespace Go.X
open Go.Proofs
theorem span_rng {d : KDay} (ok : DayOk d) {i : Nat} (hi : i < d.jobs.length) : 1 ≤ (spanS (d.jobs.getD i default)).toNat ∧ (spanS (d.jobs.getD i default)).toNat ≤ 24 := by
  have j := ok.job i hi
  have := j.b0; have := j.b1; have := j.t1; have := j.h0; have := ok.h2
  unfold spanS; omega
theorem addJob_take {out : List (List Int)} (j : KJob) : addJob (out.take out.length) j = addJob out j := by rw [List.take_length]
set_option maxHeartbeats 1000000 in
theorem starts_spec (d : KDay) (vh vj : Value) (hh hj : PHeap) [ih : Arr vh encHour 6 hh d.hours] [ij : Arr vj encJob 4 hj d.jobs] (ok : DayOk d) : Spec Tryz.prog 48 #[.agg #[vh, .int .i64 d.store.energy, .int .i64 d.store.full, .int .i64 d.store.power, .int .i64 d.store.fin, vj, .int .i64 d.most, .int .i64 d.peak]] [] [hh, hj] (fun v hs => ∃ ho us K, hs = [ho, K] ∧ OArr v encV 1 32 ho us ∧ RowsK us K (startsL d)) := by
  have lj := ij.le
  have j2 := ok.j2
  have h24 := ok.h2
  have pr := prod_rng ok.h2 ok.j2 ok.job
  have sl := starts_len ok.job
  have nV : OArr (.slice none 0 0) encV 1 32 emp ([] : List Value) := OArr.nil (fun _ => rfl)
  refine Spec.intro (fn := Tryz.f48) (N := 47) Tryz.func48 rfl Tryz.ntmps48 rfl fun B => ?_
  refine XK.seq ?_
  refine XK.region rfl ?_
  refine XO.box rfl fun b1 => ?_
  refine XO.q (Q.assign rfl) ?_
  refine XO.done ?_
  refine XK.seq ?_
  refine XK.region rfl ?_
  refine XO.lit [_] [_] [.slice none 0 0] encV (by rfl) (by rfl) rfl (by rfl) (by exact .c 0 1 rfl rfl rfl (.n _)) (fun _ => rfl) (by rfl) rfl (by infer_instance) rfl fun v10 h10 O10 => ?_
  refine XO.q (Q.assign rfl) ?_
  refine XO.done ?_
  refine XK.seq ?_
  refine XK.seq ?_
  refine XK.region rfl ?_
  refine XO.q (Q.fieldAddr rfl) ?_
  refine XO.q (Q.ld rfl rfl) ?_
  refine XO.len rfl fun l13 => ?_
  refine XO.q (Q.move rfl) ?_
  refine XO.done ?_
  refine XK.block ?_
  refine XK.while (X := Nat × Value × PHeap × List Value × PHeap) [3, 5, 6, 8, 9, 14, 15, 16, 17, 18, 19, 20, 21, 22, 23, 24, 25, 26, 27, 28, 29, 30, 31, 32, 33, 34, 35, 36, 37, 38, 39, 40, 41, 42, 43, 44, 45] (fun ⟨i, vo, ko, us, K⟩ => [(3, some (vo)), (14, some (.int .i64 (i : Nat)))]) (fun ⟨i, vo, ko, us, K⟩ => [ko, K]) (fun ⟨i, vo, ko, us, K⟩ => i ≤ d.jobs.length ∧ OArr vo encV 1 32 ko us ∧ RowsK us K (startsTo d.jobs (i))) (fun ⟨i, vo, ko, us, K⟩ => d.jobs.length - i) (0, v10, h10, [.slice none 0 0], emp) [h10, emp] rfl ⟨by omega, O10, ⟨rfl, fun i hi => (by have h0 : i = 0 := (by simpa using hi); subst h0; exact Arr.nil (fun _ => rfl))⟩⟩ (.c rfl (.c rfl (.base 0 rfl rfl))) ?_
  rintro ⟨i, vo, ko, us, K⟩ ⟨hi, OO, RO⟩ ih0
  dsimp only [List.cons_append, List.nil_append] at ih0 ⊢
  refine XK.seq ?_
  refine XK.region rfl ?_
  refine XO.q (Q.lss rfl rfl) ?_
  refine XO.done ?_
  refine XK.seq ?_
  refine XK.if rfl (fun c0 => ?_) (fun c0 => ?_)
  · have _t0 := True.intro
    have ji := ok.job i (by omega)
    have jb := ji.b0
    have jc := ji.b1
    have jt := ji.t1
    have jh := ji.h0
    have sp := span_rng ok (i := i) (by omega)
    have pi := pr i (by omega)
    have pi1 := pr (i + 1) (by omega)
    have si := sl i (by omega)
    have rl := RO.1
    have hi2 : i = 0 ∨ i = 1 := by omega
    have sl3 : (startsTo d.jobs (i)).length ≤ 24 := by rcases hi2 with h | h <;> (subst h; simp at pi; omega)
    refine XK.skip ?_
    refine XK.seq ?_
    refine XK.block ?_
    refine XK.seq ?_
    refine XK.region rfl ?_
    refine XO.ix rfl rfl (by omega) (by omega) fun i16 => ?_
    refine XO.q (Q.ldEA [_, _, _, _] rfl (by first | assumption | omega) rfl rfl) ?_
    refine XO.alloc fun b5 => ?_
    refine XO.st rfl rfl rfl ?_
    refine XO.done ?_
    refine XK.seq ?_
    refine XK.region rfl ?_
    refine XO.q (Q.assign rfl) ?_
    refine XO.done ?_
    refine XK.seq ?_
    refine XK.seq ?_
    refine XK.region rfl ?_
    refine XO.q (Q.move rfl) ?_
    refine XO.len rfl fun l19 => ?_
    refine XO.q (Q.move rfl) ?_
    refine XO.done ?_
    refine XK.block ?_
    refine XK.while (X := Nat × Value × PHeap × List Value × PHeap) [6, 8, 9, 20, 21, 22, 23, 24, 25, 26, 27, 28, 29, 30, 31, 32, 33, 34, 35, 36, 37, 38, 39, 40, 41, 42, 43] (fun ⟨k, vn, kn, un, K2⟩ => [(6, some (vn)), (20, some (.int .i64 (k : Nat)))]) (fun ⟨k, vn, kn, un, K2⟩ => [kn, K2]) (fun ⟨k, vn, kn, un, K2⟩ => k ≤ us.length ∧ OArr vn encV 1 32 kn un ∧ RowsK us K2 (startsTo d.jobs (i)) ∧ RowsK un K2 (addPart (startsTo d.jobs (i)) (d.jobs.getD i default) (k) (0))) (fun ⟨k, vn, kn, un, K2⟩ => us.length - k) (0, .slice none 0 0, emp, [], K) [emp, K] rfl ⟨by omega, nV, RO, by rw [addPart_zero, List.take_zero]; exact RowsK.nil⟩ (.c rfl (.c rfl (.base 0 rfl rfl))) ?_
    rintro ⟨k, vn, kn, un, K2⟩ ⟨hk, ON, RS, RP⟩ ih1
    dsimp only [List.cons_append, List.nil_append] at ih1 ⊢
    refine XK.seq ?_
    refine XK.region rfl ?_
    refine XO.q (Q.lss rfl rfl) ?_
    refine XO.done ?_
    refine XK.seq ?_
    refine XK.if rfl (fun c1 => ?_) (fun c1 => ?_)
    · have _t1 := True.intro
      have ak := RS.2 k (by omega)
      have lk := starts_each d.jobs i ((startsTo d.jobs (i)).getD k default) (getD_mem (by omega))
      refine XK.skip ?_
      refine XK.seq ?_
      refine XK.block ?_
      refine XK.seq ?_
      refine XK.region rfl ?_
      refine XO.ix rfl rfl (by omega) (by omega) fun i22 => ?_
      refine XO.q (Q.ldE rfl (by first | assumption | omega) rfl) ?_
      refine XO.q (Q.assign rfl) ?_
      refine XO.done ?_
      refine XK.seq ?_
      refine XK.region rfl ?_
      refine XO.q (Q.fieldAddr rfl) ?_
      refine XO.q (Q.ld rfl rfl) ?_
      refine XO.q (Q.assign rfl) ?_
      refine XO.done ?_
      refine XK.block ?_
      refine XK.while (X := Nat × Int × Value × PHeap × List Value × PHeap) [6, 9, 26, 27, 28, 29, 30, 31, 32, 33, 34, 35, 36, 37, 38, 39, 40, 41, 42] (fun ⟨q, tt, vn3, kn3, un3, K3⟩ => [(6, some (vn3)), (9, some (.int .i64 tt))]) (fun ⟨q, tt, vn3, kn3, un3, K3⟩ => [kn3, K3]) (fun ⟨q, tt, vn3, kn3, un3, K3⟩ => q ≤ (spanS (d.jobs.getD i default)).toNat ∧ tt = (d.jobs.getD i default).beg + ((q : Nat) : Int) ∧ OArr vn3 encV 1 32 kn3 un3 ∧ RowsK us K3 (startsTo d.jobs (i)) ∧ RowsK un3 K3 (addPart (startsTo d.jobs (i)) (d.jobs.getD i default) (k) (q))) (fun ⟨q, tt, vn3, kn3, un3, K3⟩ => (spanS (d.jobs.getD i default)).toNat - q) (0, (d.jobs.getD i default).beg, vn, kn, un, K2) [kn, K2] rfl ⟨by omega, by omega, ON, RS, RP⟩ (.c rfl (.c rfl (.base 0 rfl rfl))) ?_
      rintro ⟨q, tt, vn3, kn3, un3, K3⟩ ⟨hq, htt, ON3, RS3, RP3⟩ ih2
      dsimp only [List.cons_append, List.nil_append] at ih2 ⊢
      subst htt
      refine XK.seq ?_
      refine XK.seq ?_
      refine XK.region rfl ?_
      refine XO.q (Q.move rfl) ?_
      refine XO.q (Q.fieldAddr rfl) ?_
      refine XO.q (Q.ld rfl rfl) ?_
      refine XO.q (Q.fieldAddr rfl) ?_
      refine XO.q (Q.ld rfl rfl) ?_
      refine XO.q (Q.sub rfl rfl ⟨by omega, by omega⟩) ?_
      refine XO.q (Q.leq rfl rfl) ?_
      refine XO.done ?_
      refine XK.if rfl (fun c2 => ?_) (fun c2 => ?_)
      · have _t2 := True.intro
        have hq2 : q < (spanS (d.jobs.getD i default)).toNat := by unfold spanS; omega
        have ak3 := RS3.2 k (by omega)
        have al := addPart_len (out := (startsTo d.jobs (i))) (j := (d.jobs.getD i default)) (k := k) (q := q) (by omega) (by omega)
        have rl3 := RP3.1
        rw [al] at rl3
        have mq : k * (spanS (d.jobs.getD i default)).toNat ≤ 24 * 24 := Nat.mul_le_mul (by omega) (by omega)
        refine XK.skip ?_
        refine XK.seq ?_
        refine XK.block ?_
        refine XK.region rfl ?_
        refine XO.q (Q.move rfl) ?_
        refine XO.q (Q.move rfl) ?_
        refine XO.call Tryz.call31 rfl rfl rfl (cloneI (us.getD k default) K3 ((startsTo d.jobs (i)).getD k default) (by omega)) fun v37 s37 R37 => ?_
        obtain ⟨k37, rfl, O37⟩ := R37
        dsimp only [List.cons_append, List.nil_append]
        refine XO.q (Q.move rfl) ?_
        refine XO.lit [_] [_] [(d.jobs.getD i default).beg + ((q : Nat) : Int)] encI (by rfl) (by rfl) rfl (by rfl) (by exact .c 0 1 rfl rfl rfl (.n _)) (fun _ => rfl) (by rfl) rfl (by infer_instance) rfl fun v39 h39 O39 => ?_
        have AK : True := trivial
        refine XO.append rfl rfl rfl rfl (by simp only [List.length_cons, List.length_nil]; omega) fun v40 h40 O40 => ?_
        refine XO.lit [_] [_] [v40] encV (by rfl) (by rfl) rfl (by rfl) (by exact .c 0 1 rfl rfl rfl (.n _)) (fun _ => rfl) (by rfl) rfl (by infer_instance) rfl fun v41 h41 O41 => ?_
        refine XO.append rfl rfl rfl rfl (by simp only [List.length_cons, List.length_nil]; omega) fun v42 h42 O42 => ?_
        refine XO.q (Q.assign rfl) ?_
        refine XO.done ?_
        refine XK.inBlock ?_
        refine XK.region rfl ?_
        refine XO.q (Q.move rfl) ?_
        refine XO.q (Q.add rfl rfl ⟨by omega, by omega⟩) ?_
        refine XO.q (Q.assign rfl) ?_
        refine XO.done ?_
        refine XK.cat K3 h40 fun l1 l2 => ?_
        exact ih2 (q + 1, (d.jobs.getD i default).beg + ((q : Nat) : Int) + 1, v42, h42, un3 ++ [v40], cat K3 h40) _ _ ⟨by dsimp only; omega, by dsimp only; omega, O42, RS3.mono l1, by dsimp only; rw [addPart_succ hq2]; exact (RP3.mono l1).snoc (Arr.le_heap (OArr.arr (s := O40)) l2)⟩ (by first | omega | (dsimp only; omega)) (.c rfl (.c rfl (.base 40 rfl rfl))) inferInstance
      · have _t2 := True.intro
        have hqe : q = (spanS (d.jobs.getD i default)).toNat := by unfold spanS at hq ⊢; omega
        refine XK.exit rfl ?_
        refine XK.inBlock ?_
        refine XK.region rfl ?_
        refine XO.q (Q.add rfl rfl ⟨by omega, by omega⟩) ?_
        refine XO.q (Q.move rfl) ?_
        refine XO.done ?_
        exact ih1 (k + 1, vn3, kn3, un3, K3) _ _ ⟨by dsimp only; omega, ON3, RS3, by dsimp only; rw [hqe, addPart_all (by omega)] at RP3; rw [addPart_zero]; exact RP3⟩ (by first | omega | (dsimp only; omega)) (.c rfl (.c rfl (.base 66 rfl rfl))) inferInstance
    · have _t1 := True.intro
      have hkl : k = us.length := by omega
      subst hkl
      refine XK.exit rfl ?_
      refine XK.region rfl ?_
      refine XO.q (Q.move rfl) ?_
      refine XO.q (Q.assign rfl) ?_
      refine XO.done ?_
      refine XK.inBlock ?_
      refine XK.region rfl ?_
      refine XO.q (Q.add rfl rfl ⟨by omega, by omega⟩) ?_
      refine XO.q (Q.move rfl) ?_
      refine XO.done ?_
      exact ih0 (i + 1, vn, kn, un, K2) _ _ ⟨by dsimp only; omega, ON, by dsimp only; rw [rl, addPart_zero, addJob_take] at RP; exact RP⟩ (by first | omega | (dsimp only; omega)) (.c rfl (.c rfl (.base 81 rfl rfl))) inferInstance
  · have _t0 := True.intro
    have hil : i = d.jobs.length := by omega
    subst hil
    refine XK.exit rfl ?_
    refine XK.seq ?_
    refine XK.region rfl ?_
    refine XO.q (Q.move rfl) ?_
    refine XO.q (Q.assign rfl) ?_
    refine XO.done ?_
    refine XK.rt [ko, K] Tryz.func48 Tryz.results48 (.t rfl .n) ?_
    exact ⟨ko, us, K, rfl, OO, RO⟩
end Go.X

set_option linter.unusedSimpArgs false
set_option linter.unusedVariables false
set_option maxRecDepth 20000
namespace Go.X
open Go.Proofs
theorem range_snocI (f : Nat → Int) (n : Nat) : (List.range (n + 1)).map f = (List.range n).map f ++ [f n] := by rw [List.range_succ, List.map_append]; rfl
theorem used_spec (d : KDay) (vh vj : Value) (hh hj : PHeap) [ih : Arr vh encHour 6 hh d.hours] [ij : Arr vj encJob 4 hj d.jobs] (s : List Int) (vs : Value) (hs_ : PHeap) [js : Arr vs encI 1 hs_ s] (ok : DayOk d) (so : SOk d s) : Spec Tryz.prog 56 #[.agg #[vh, .int .i64 d.store.energy, .int .i64 d.store.full, .int .i64 d.store.power, .int .i64 d.store.fin, vj, .int .i64 d.most, .int .i64 d.peak], vs] [] [hh, hj, hs_] (fun v hs => ∃ k, hs = [k] ∧ OArr v encI 1 3 k (usedL d s)) := by
  have lh := ih.le
  have lj := ij.le
  have h24 := ok.h2
  have j2 := ok.j2
  have sl := so.len
  have nI : OArr (.slice none 0 0) encI 1 3 emp ([] : List Int) := OArr.nil (fun _ => rfl)
  refine Spec.intro (fn := Tryz.f56) (N := 53) Tryz.func56 rfl Tryz.ntmps56 rfl fun B => ?_
  refine XK.seq ?_
  refine XK.region rfl ?_
  refine XO.box rfl fun b2 => ?_
  refine XO.q (Q.assign rfl) ?_
  refine XO.done ?_
  refine XK.seq ?_
  refine XK.region rfl ?_
  refine XO.q (Q.assign rfl) ?_
  refine XO.done ?_
  refine XK.seq ?_
  refine XK.seq ?_
  refine XK.region rfl ?_
  refine XO.q (Q.fieldAddr rfl) ?_
  refine XO.q (Q.ld rfl rfl) ?_
  refine XO.len rfl fun l13 => ?_
  refine XO.q (Q.move rfl) ?_
  refine XO.done ?_
  refine XK.block ?_
  refine XK.while (X := Nat × Value × PHeap) [5, 7, 14, 15, 16, 17, 18, 19, 20, 21, 22, 23] (fun ⟨i, vo, ko⟩ => [(5, some (vo)), (14, some (.int .i64 (i : Nat)))]) (fun ⟨i, vo, ko⟩ => [ko]) (fun ⟨i, vo, ko⟩ => i ≤ d.hours.length ∧ OArr vo encI 1 3 ko ((List.range i).map (fun i => (d.hours.getD i default).load))) (fun ⟨i, vo, ko⟩ => d.hours.length - i) (0, .slice none 0 0, emp) [emp] rfl ⟨by omega, nI⟩ (.c rfl (.c rfl (.base 0 rfl rfl))) ?_
  rintro ⟨i, vo, ko⟩ ⟨hi, OL⟩ ih0
  dsimp only [List.cons_append, List.nil_append] at ih0 ⊢
  have ll : ((List.range i).map (fun i => (d.hours.getD i default).load)).length = i := range_len
  refine XK.seq ?_
  refine XK.region rfl ?_
  refine XO.q (Q.lss rfl rfl) ?_
  refine XO.done ?_
  refine XK.seq ?_
  refine XK.if rfl (fun c0 => ?_) (fun c0 => ?_)
  · have _t0 := True.intro
    refine XK.skip ?_
    refine XK.seq ?_
    refine XK.block ?_
    refine XK.seq ?_
    refine XK.region rfl ?_
    refine XO.ix rfl rfl (by omega) (by omega) fun i16 => ?_
    refine XO.q (Q.ldEA [_, _, _, _, _, _] rfl (by first | assumption | omega) rfl rfl) ?_
    refine XO.alloc fun b7 => ?_
    refine XO.st rfl rfl rfl ?_
    refine XO.done ?_
    refine XK.region rfl ?_
    refine XO.q (Q.move rfl) ?_
    refine XO.q (Q.fieldAddr rfl) ?_
    refine XO.q (Q.ld rfl rfl) ?_
    refine XO.lit [_] [_] [(d.hours.getD i default).load] encI (by rfl) (by rfl) rfl (by rfl) (by exact .c 0 1 rfl rfl rfl (.n _)) (fun _ => rfl) (by rfl) rfl (by infer_instance) rfl fun v21 h21 O21 => ?_
    refine XO.append rfl rfl rfl rfl (by first | omega | (simp; omega)) fun v22 h22 O22 => ?_
    refine XO.q (Q.assign rfl) ?_
    refine XO.done ?_
    refine XK.inBlock ?_
    refine XK.region rfl ?_
    refine XO.q (Q.add rfl rfl ⟨by omega, by omega⟩) ?_
    refine XO.q (Q.move rfl) ?_
    refine XO.done ?_
    exact ih0 (i + 1, v22, h22) _ _ ⟨by dsimp only; omega, by dsimp only; rw [range_snocI]; exact O22⟩ (by first | omega | (dsimp only; omega)) (.c rfl (.c rfl (.base 26 rfl rfl))) inferInstance
  · have _t0 := True.intro
    have hin : i = d.hours.length := by omega
    rw [hin, ← usedT_start d s] at OL
    clear ih0
    refine XK.exit rfl ?_
    refine XK.seq ?_
    refine XK.seq ?_
    refine XK.region rfl ?_
    refine XO.q (Q.fieldAddr rfl) ?_
    refine XO.q (Q.ld rfl rfl) ?_
    refine XO.len rfl fun l26 => ?_
    refine XO.q (Q.move rfl) ?_
    refine XO.done ?_
    refine XK.block ?_
    refine XK.while (X := Nat × PHeap) [8, 9, 10, 27, 28, 29, 30, 31, 32, 33, 34, 35, 36, 37, 38, 39, 40, 41, 42, 43, 44, 45, 46, 47, 48, 49, 50, 51] (fun ⟨k, kq⟩ => [(27, some (.int .i64 (k : Nat)))]) (fun ⟨k, kq⟩ => [kq]) (fun ⟨k, kq⟩ => k ≤ d.jobs.length ∧ OArr vo encI 1 3 kq (usedT d s k 0)) (fun ⟨k, kq⟩ => d.jobs.length - k) (0, ko) [ko] rfl ⟨by omega, OL⟩ (.c rfl (.base 0 rfl rfl)) ?_
    rintro ⟨k, kq⟩ ⟨hk, OU⟩ ih1
    dsimp only [List.cons_append, List.nil_append] at ih1 ⊢
    refine XK.seq ?_
    refine XK.region rfl ?_
    refine XO.q (Q.lss rfl rfl) ?_
    refine XO.done ?_
    refine XK.seq ?_
    refine XK.if rfl (fun c1 => ?_) (fun c1 => ?_)
    · have _t1 := True.intro
      have ji := ok.job k (by omega)
      have jb := ji.b0
      have jc := ji.b1
      have jt := ji.t1
      have jh := ji.h0
      have jp := ji.p0
      have jq := ji.p1
      have sk := so.at' k (by omega)
      refine XK.skip ?_
      refine XK.seq ?_
      refine XK.block ?_
      refine XK.seq ?_
      refine XK.region rfl ?_
      refine XO.q (Q.move rfl) ?_
      refine XO.ix rfl rfl (by omega) (by omega) fun i30 => ?_
      refine XO.q (Q.ldEA [_, _, _, _] rfl (by first | assumption | omega) rfl rfl) ?_
      refine XO.alloc fun b9 => ?_
      refine XO.q (Q.assign rfl) ?_
      refine XO.st rfl rfl rfl ?_
      refine XO.done ?_
      refine XK.seq ?_
      refine XK.region rfl ?_
      refine XO.q (Q.fieldAddr rfl) ?_
      refine XO.q (Q.ld rfl rfl) ?_
      refine XO.q (Q.move rfl) ?_
      refine XO.done ?_
      refine XK.block ?_
      refine XK.while (X := Nat × PHeap) [10, 34, 35, 36, 37, 38, 39, 40, 41, 42, 43, 44, 45, 46, 47, 48, 49, 50] (fun ⟨t, kr⟩ => [(34, some (.int .i64 (t : Nat)))]) (fun ⟨t, kr⟩ => [kr]) (fun ⟨t, kr⟩ => (t : Int) ≤ (d.jobs.getD k default).hours ∧ OArr vo encI 1 3 kr (usedT d s k t)) (fun ⟨t, kr⟩ => (d.jobs.getD k default).hours.toNat - t) (0, kq) [kq] rfl ⟨by (try dsimp only); omega, OU⟩ (.c rfl (.base 0 rfl rfl)) ?_
      rintro ⟨t, kr⟩ ⟨ht, OT⟩ ih2
      dsimp only [List.cons_append, List.nil_append] at ih2 ⊢
      refine XK.seq ?_
      refine XK.region rfl ?_
      refine XO.q (Q.lss rfl rfl) ?_
      refine XO.done ?_
      refine XK.seq ?_
      refine XK.if rfl (fun c2 => ?_) (fun c2 => ?_)
      · have _t2 := True.intro
        have ul := usedT_len d s k t
        have ha : (s.getD k default + ((t : Nat) : Int)).toNat < d.hours.length := by omega
        have ur := used_rng ok s ha k (by omega)
        have ue : (usedT d s k t).getD (s.getD k default + ((t : Nat) : Int)).toNat default = usedAt d s (s.getD k default + ((t : Nat) : Int)).toNat k + partS (d.jobs.getD k default) (s.getD k default) t (s.getD k default + ((t : Nat) : Int)).toNat := by rw [usedT, range_at ha]
        unfold partS at ue
        rw [if_neg (by omega), Int.add_zero] at ue
        refine XK.skip ?_
        refine XK.seq ?_
        refine XK.block ?_
        refine XK.seq ?_
        refine XK.region rfl ?_
        refine XO.q (Q.move rfl) ?_
        refine XO.q (Q.assign rfl) ?_
        refine XO.done ?_
        refine XK.drawn [0, 1, 2, 3, 4, 5, 6, 7, 8, 9, 10, 11, 12] [b9] [kr] (.q 0 (.q 1 (.q 2 (.q 3 (.q 4 (.q 5 (.q 6 (.q 7 (.q 8 (.q 9 (.q 10 (.q 11 (.q 12 (.br 13 false .done .stop)))))))))))))) Tryz.mixed rfl (by kernel_rfl) ?_
        refine XT.q rfl rfl (Q.move rfl) ?_
        refine XT.q rfl rfl (Q.move rfl) ?_
        refine XT.q rfl rfl (Q.move rfl) ?_
        refine XT.ix rfl rfl rfl rfl (by omega) (by omega) fun i40 => ?_
        refine XT.q rfl rfl (Q.ldE rfl (by first | assumption | omega) rfl) ?_
        refine XT.q rfl rfl (Q.move rfl) ?_
        refine XT.q rfl rfl (Q.add rfl rfl ⟨by omega, by omega⟩) ?_
        refine XT.ix rfl rfl rfl rfl (by omega) (by omega) fun i44 => ?_
        refine XT.q rfl rfl (Q.ldE rfl (by first | assumption | omega) rfl) ?_
        refine XT.q rfl rfl (Q.fieldAddr rfl) ?_
        refine XT.q rfl rfl (Q.ld rfl rfl) ?_
        refine XT.q rfl rfl (Q.add rfl rfl ⟨by omega, by omega⟩) ?_
        refine XT.ix rfl rfl rfl rfl (by omega) (by omega) fun i49 => ?_
        refine XT.stE _ rfl rfl rfl rfl rfl (by assumption) rfl rfl (fun h13_13 O13_13 => ⟨inferInstance, ?_⟩) XT.stop
        rw [usedT_step ha (by omega) (by omega)] at O13_13
        refine XT.done ?_
        refine XK.inBlock ?_
        refine XK.region rfl ?_
        refine XO.q (Q.add rfl rfl ⟨by omega, by omega⟩) ?_
        refine XO.q (Q.move rfl) ?_
        refine XO.done ?_
        exact ih2 (t + 1, h13_13) _ _ ⟨by dsimp only; omega, O13_13⟩ (by first | omega | (dsimp only; omega)) (.c rfl (.base 37 rfl rfl)) inferInstance
      · have _t2 := True.intro
        have hte : ((t : Nat) : Int) = (d.jobs.getD k default).hours := by omega
        refine XK.exit rfl ?_
        refine XK.inBlock ?_
        refine XK.region rfl ?_
        refine XO.q (Q.add rfl rfl ⟨by omega, by omega⟩) ?_
        refine XO.q (Q.move rfl) ?_
        refine XO.done ?_
        exact ih1 (k + 1, kr) _ _ ⟨by dsimp only; omega, by dsimp only; rw [← usedT_all hte]; exact OT⟩ (by first | omega | (dsimp only; omega)) (.c rfl (.base 60 rfl rfl)) inferInstance
    · have _t1 := True.intro
      have hkl : k = d.jobs.length := by omega
      rw [hkl, usedT_end] at OU
      refine XK.exit rfl ?_
      refine XK.seq ?_
      refine XK.region rfl ?_
      refine XO.q (Q.move rfl) ?_
      refine XO.q (Q.assign rfl) ?_
      refine XO.done ?_
      refine XK.rt [kq] Tryz.func56 Tryz.results56 (.t rfl .n) ?_
      exact ⟨kq, rfl, OU⟩
theorem needs_spec (d : KDay) (vh vj : Value) (hh hj : PHeap) [ih : Arr vh encHour 6 hh d.hours] [ij : Arr vj encJob 4 hj d.jobs] (s : List Int) (vs : Value) (hs_ : PHeap) [js : Arr vs encI 1 hs_ s] (ok : DayOk d) (so : SOk d s) : Spec Tryz.prog 66 #[.agg #[vh, .int .i64 d.store.energy, .int .i64 d.store.full, .int .i64 d.store.power, .int .i64 d.store.fin, vj, .int .i64 d.most, .int .i64 d.peak], vs] [] [hh, hj, hs_] (fun v hs => ∃ k, hs = [k] ∧ OArr v encI 1 3 k (needsL d s)) := by
  have lh := ih.le
  refine Spec.intro (fn := Tryz.f66) (N := 29) Tryz.func66 rfl Tryz.ntmps66 rfl fun B => ?_
  refine XK.seq ?_
  refine XK.region rfl ?_
  refine XO.box rfl fun b2 => ?_
  refine XO.q (Q.assign rfl) ?_
  refine XO.done ?_
  refine XK.seq ?_
  refine XK.region rfl ?_
  refine XO.q (Q.ldA [_, _, _, _, _, _, _, _] rfl rfl rfl) ?_
  refine XO.q (Q.move rfl) ?_
  refine XO.call Tryz.call56 rfl rfl rfl (used_spec d vh vj hh hj s vs hs_ ok so) fun v10 s10 R10 => ?_
  obtain ⟨ku, rfl, OU0⟩ := R10
  dsimp only [List.cons_append, List.nil_append]
  refine XO.q (Q.assign rfl) ?_
  refine XO.done ?_
  refine XK.seq ?_
  refine XK.seq ?_
  refine XK.region rfl ?_
  refine XO.q (Q.fieldAddr rfl) ?_
  refine XO.q (Q.ld rfl rfl) ?_
  refine XO.len rfl fun l13 => ?_
  refine XO.q (Q.move rfl) ?_
  refine XO.done ?_
  refine XK.block ?_
  refine XK.while (X := Nat × PHeap) [6, 7, 14, 15, 16, 17, 18, 19, 20, 21, 22, 23, 24, 25, 26, 27] (fun ⟨i, kq⟩ => [(14, some (.int .i64 (i : Nat)))]) (fun ⟨i, kq⟩ => [kq]) (fun ⟨i, kq⟩ => i ≤ d.hours.length ∧ OArr v10 encI 1 3 kq (needT d s i)) (fun ⟨i, kq⟩ => d.hours.length - i) (0, ku) [ku] rfl ⟨by omega, by rw [needT_zero]; exact OU0⟩ (.c rfl (.base 0 rfl rfl)) ?_
  rintro ⟨i, kq⟩ ⟨hi, OU⟩ ih0
  dsimp only [List.cons_append, List.nil_append] at ih0 ⊢
  refine XK.seq ?_
  refine XK.region rfl ?_
  refine XO.q (Q.lss rfl rfl) ?_
  refine XO.done ?_
  refine XK.seq ?_
  refine XK.if rfl (fun c0 => ?_) (fun c0 => ?_)
  · have _t0 := True.intro
    have nl := needT_len d s i
    have ur := used_rng ok s (show i < d.hours.length by omega) d.jobs.length (Nat.le_refl _)
    have j2 := ok.j2
    have hk := ok.hour i (by omega)
    have u0 := hk.u0
    have u1 := hk.u1
    have na := needT_at (s := s) (show i < d.hours.length by omega)
    refine XK.skip ?_
    refine XK.seq ?_
    refine XK.block ?_
    refine XK.seq ?_
    refine XK.region rfl ?_
    refine XO.q (Q.move rfl) ?_
    refine XO.ix rfl rfl (by omega) (by omega) fun i17 => ?_
    refine XO.q (Q.ldEA [_, _, _, _, _, _] rfl (by first | assumption | omega) rfl rfl) ?_
    refine XO.alloc fun b7 => ?_
    refine XO.q (Q.assign rfl) ?_
    refine XO.st rfl rfl rfl ?_
    refine XO.done ?_
    refine XK.drawn [0, 1, 2, 3, 4, 5, 6, 7] [b7] [kq] (.q 0 (.q 1 (.q 2 (.q 3 (.q 4 (.q 5 (.q 6 (.q 7 (.br 8 false .done .stop))))))))) Tryz.mixed rfl (by kernel_rfl) ?_
    refine XT.q rfl rfl (Q.move rfl) ?_
    refine XT.q rfl rfl (Q.move rfl) ?_
    refine XT.ix rfl rfl rfl rfl (by omega) (by omega) fun i21 => ?_
    refine XT.q rfl rfl (Q.ldE rfl (by first | assumption | omega) rfl) ?_
    refine XT.q rfl rfl (Q.fieldAddr rfl) ?_
    refine XT.q rfl rfl (Q.ld rfl rfl) ?_
    refine XT.q rfl rfl (Q.sub rfl rfl ⟨by omega, by omega⟩) ?_
    refine XT.ix rfl rfl rfl rfl (by omega) (by omega) fun i26 => ?_
    refine XT.stE _ rfl rfl rfl rfl rfl (by assumption) rfl rfl (fun h5_8 O5_8 => ⟨inferInstance, ?_⟩) XT.stop
    rw [needT_step (by omega)] at O5_8
    refine XT.done ?_
    refine XK.inBlock ?_
    refine XK.region rfl ?_
    refine XO.q (Q.add rfl rfl ⟨by omega, by omega⟩) ?_
    refine XO.q (Q.move rfl) ?_
    refine XO.done ?_
    exact ih0 (i + 1, h5_8) _ _ ⟨by dsimp only; omega, O5_8⟩ (by first | omega | (dsimp only; omega)) (.c rfl (.base 33 rfl rfl)) inferInstance
  · have _t0 := True.intro
    have hin : i = d.hours.length := by omega
    rw [hin, needT_all] at OU
    refine XK.exit rfl ?_
    refine XK.seq ?_
    refine XK.region rfl ?_
    refine XO.q (Q.move rfl) ?_
    refine XO.q (Q.assign rfl) ?_
    refine XO.done ?_
    refine XK.rt [kq] Tryz.func66 Tryz.results66 (.t rfl .n) ?_
    exact ⟨kq, rfl, OU⟩
theorem price_mul {a b : Int} (a0 : 0 ≤ a) (a1 : a ≤ 1000) (b0 : 0 ≤ b) (b1 : b ≤ 1000) : 0 ≤ a * b ∧ a * b ≤ 1000000 := ⟨Int.mul_nonneg a0 b0, Int.le_trans (Int.mul_le_mul a1 b1 b0 (by omega)) (by decide)⟩
theorem price_rng {h : KHour} (k : HourOk h) {n : Int} (h0 : -1000 ≤ n) (h1 : n ≤ 1000) : -1000000 ≤ priceH h n ∧ priceH h n ≤ 1000000 := by
  have := k.b0; have := k.b1; have := k.s0; have := k.s1
  have p1 := price_mul (a := max n 0) (b := h.buy) (by omega) (by omega) (by omega) (by omega)
  have p2 := price_mul (a := max (-n) 0) (b := h.sell) (by omega) (by omega) (by omega) (by omega)
  unfold priceH; omega
theorem price_spec (h : KHour) (k : HourOk h) (n : Int) (h0 : -1000 ≤ n) (h1 : n ≤ 1000) : Spec Tryz.prog 86 #[.agg #[.int .i64 h.buy, .int .i64 h.sell, .int .i64 h.sun, .int .i64 h.load, .int .i64 h.carbon, .int .i64 h.water], .int .i64 n] [] [] (fun v hs => v = .int .i64 (priceH h n) ∧ hs = []) := by
  have := k.b0
  have := k.b1
  have := k.s0
  have := k.s1
  have p1 := price_mul (a := max n 0) (b := h.buy) (by omega) (by omega) (by omega) (by omega)
  have p2 := price_mul (a := max (-n) 0) (b := h.sell) (by omega) (by omega) (by omega) (by omega)
  refine Spec.intro (fn := Tryz.f86) (N := 17) Tryz.func86 rfl Tryz.ntmps86 rfl fun B => ?_
  refine XK.seq ?_
  refine XK.region rfl ?_
  refine XO.box rfl fun b2 => ?_
  refine XO.q (Q.assign rfl) ?_
  refine XO.done ?_
  refine XK.seq ?_
  refine XK.region rfl ?_
  refine XO.q (Q.move rfl) ?_
  refine XO.q (Q.max rfl rfl) ?_
  refine XO.q (Q.fieldAddr rfl) ?_
  refine XO.q (Q.ld rfl rfl) ?_
  refine XO.q (Q.mul rfl rfl ⟨by omega, by omega⟩) ?_
  refine XO.q (Q.move rfl) ?_
  refine XO.q (Q.neg rfl ⟨by omega, by omega⟩) ?_
  rw [show (0 : Int) - n = -n by omega]
  refine XO.q (Q.max rfl rfl) ?_
  refine XO.q (Q.fieldAddr rfl) ?_
  refine XO.q (Q.ld rfl rfl) ?_
  refine XO.q (Q.mul rfl rfl ⟨by omega, by omega⟩) ?_
  refine XO.q (Q.sub rfl rfl ⟨by omega, by omega⟩) ?_
  refine XO.q (Q.assign rfl) ?_
  refine XO.done ?_
  refine XK.rt [] Tryz.func86 Tryz.results86 (.t rfl .n) ?_
  exact ⟨rfl, rfl⟩
end Go.X

set_option linter.unusedSimpArgs false
set_option linter.unusedVariables false
set_option maxRecDepth 20000
namespace Go.X
open Go.Proofs
theorem indexRows (v : Value) (h : PHeap) (us : List Value) [s : Arr v encV 1 h us] (K : PHeap) (rows : List (List Int)) (rk : RowsK us K rows) (gid : FuncId) (cap : List Value) (Hr : List PHeap) (p : List Int → Bool)
    (hc : ∀ args w, (callFunc gid args).run Tryz.prog w = .ok (.enter gid args) w) (hS : ∀ i, i < us.length → Spec Tryz.prog gid (us.getD i default :: cap).toArray [] (K :: Hr) (fun v hs => v = .bool (p (rows.getD i default)) ∧ hs = [])) :
    Spec Tryz.prog 98 #[v, .func (.func gid) #[] cap.toArray] [] (h :: K :: Hr) (fun v hs => v = .int .i64 (findFirst p rows) ∧ hs = []) := by
  have rl := rk.1
  refine Spec.intro (fn := Tryz.f98) (N := 19) Tryz.func98 rfl Tryz.ntmps98 rfl fun B => ?_
  refine XK.seq ?_
  refine XK.region rfl ?_
  refine XO.q (Q.assign rfl) ?_
  refine XO.done ?_
  refine XK.seq ?_
  refine XK.seq ?_
  refine XK.region rfl ?_
  refine XO.q (Q.move rfl) ?_
  refine XO.len rfl fun l7 => ?_
  refine XO.q (Q.move rfl) ?_
  refine XO.done ?_
  refine XK.block ?_
  refine XK.while (X := Nat) [4, 5, 8, 9, 10, 11, 12, 13, 14, 15, 16, 17, 18] (fun i => [(8, some (.int .i64 (i : Nat)))]) (fun i => []) (fun i => i ≤ us.length ∧ (rows.take i).any p = false) (fun i => us.length - i) (0) [] rfl ⟨by omega, rfl⟩ (.c rfl (.base 0 rfl rfl)) ?_
  rintro i ⟨hi, ht⟩ ih0
  dsimp only [List.cons_append, List.nil_append] at ih0 ⊢
  refine XK.seq ?_
  refine XK.region rfl ?_
  refine XO.q (Q.lss rfl rfl) ?_
  refine XO.done ?_
  refine XK.seq ?_
  refine XK.if rfl (fun c0 => ?_) (fun c0 => ?_)
  · have _t0 := True.intro
    refine XK.skip ?_
    refine XK.seq ?_
    refine XK.block ?_
    refine XK.seq ?_
    refine XK.region rfl ?_
    refine XO.q (Q.move rfl) ?_
    refine XO.q (Q.assign rfl) ?_
    refine XO.done ?_
    refine XK.seq ?_
    refine XK.region rfl ?_
    refine XO.q (Q.move rfl) ?_
    refine XO.q (Q.move rfl) ?_
    refine XO.q (Q.move rfl) ?_
    refine XO.ix rfl rfl (by omega) (by omega) fun i14 => ?_
    refine XO.q (Q.ldE rfl (by first | assumption | omega) rfl) ?_
    refine XO.call hc rfl rfl rfl (hS i (by omega)) fun v16 s16 R16 => ?_
    obtain ⟨rfl, rfl⟩ := R16
    dsimp only [List.cons_append, List.nil_append]
    refine XO.done ?_
    refine XK.if rfl (fun c1 => ?_) (fun c1 => ?_)
    · have _t1 := True.intro
      refine XK.seq ?_
      refine XK.region rfl ?_
      refine XO.q (Q.move rfl) ?_
      refine XO.q (Q.assign rfl) ?_
      refine XO.done ?_
      refine XK.rt [] Tryz.func98 Tryz.results98 (.t rfl .n) ?_
      exact ⟨by rw [findFirst_here ht (by omega) c1], rfl⟩
    · have _t1 := True.intro
      refine XK.skip ?_
      refine XK.inBlock ?_
      refine XK.region rfl ?_
      refine XO.q (Q.add rfl rfl ⟨by omega, by omega⟩) ?_
      refine XO.q (Q.move rfl) ?_
      refine XO.done ?_
      exact ih0 (i + 1) _ _ ⟨by omega, any_step ht (by omega) (Bool.eq_false_iff.2 c1)⟩ (by first | omega | (dsimp only; omega)) (.c rfl (.base 25 rfl rfl)) inferInstance
  · have _t0 := True.intro
    refine XK.exit rfl ?_
    refine XK.seq ?_
    refine XK.region rfl ?_
    refine XO.q (Q.assign rfl) ?_
    refine XO.done ?_
    refine XK.rt [] Tryz.func98 Tryz.results98 (.t rfl .n) ?_
    exact ⟨by rw [findFirst_none ht (by omega)], rfl⟩
theorem containsRows (v : Value) (h : PHeap) (us : List Value) [s : Arr v encV 1 h us] (K : PHeap) (rows : List (List Int)) (rk : RowsK us K rows) (gid : FuncId) (cap : List Value) (Hr : List PHeap) (p : List Int → Bool)
    (hc : ∀ args w, (callFunc gid args).run Tryz.prog w = .ok (.enter gid args) w) (hS : ∀ i, i < us.length → Spec Tryz.prog gid (us.getD i default :: cap).toArray [] (K :: Hr) (fun v hs => v = .bool (p (rows.getD i default)) ∧ hs = [])) :
    Spec Tryz.prog 76 #[v, .func (.func gid) #[] cap.toArray] [] (h :: K :: Hr) (fun v hs => v = .bool (rows.any p) ∧ hs = []) := by
  refine Spec.intro (fn := Tryz.f76) (N := 9) Tryz.func76 rfl Tryz.ntmps76 rfl fun B => ?_
  refine XK.seq ?_
  refine XK.region rfl ?_
  refine XO.q (Q.assign rfl) ?_
  refine XO.done ?_
  refine XK.seq ?_
  refine XK.region rfl ?_
  refine XO.q (Q.move rfl) ?_
  refine XO.q (Q.move rfl) ?_
  refine XO.call Tryz.call98 rfl rfl rfl (indexRows v h us K rows rk gid cap Hr p hc hS) fun v7 s7 R7 => ?_
  obtain ⟨rfl, rfl⟩ := R7
  dsimp only [List.cons_append, List.nil_append]
  refine XO.q (Q.geq rfl rfl) ?_
  refine XO.q (Q.assign rfl) ?_
  refine XO.done ?_
  refine XK.rt [] Tryz.func76 Tryz.results76 (.t rfl .n) ?_
  exact ⟨by rw [← findFirst_any], rfl⟩
theorem form1 (p : KPlan) (vs vc : Value) (hs_ hc : PHeap) [js : Arr vs encI 1 hs_ p.starts] [jc : Arr vc encI 1 hc p.charge] (b : Nat) (x : Value) (K : PHeap) (xs : List Int) [ix : Arr x encI 1 K xs] : Spec Tryz.prog 85 #[x, ptr b 0] [] [K, blk b [vs, vc, .int .i64 p.cost] 34, hs_] (fun v hs => v = .bool (decide (xs = p.starts)) ∧ hs = []) := by
  refine Spec.intro (fn := Tryz.f85) (N := 8) Tryz.func85 rfl Tryz.ntmps85 rfl fun B => ?_
  refine XK.seq ?_
  refine XK.region rfl ?_
  refine XO.q (Q.assign rfl) ?_
  refine XO.done ?_
  refine XK.seq ?_
  refine XK.region rfl ?_
  refine XO.q (Q.move rfl) ?_
  refine XO.q (Q.fieldAddr rfl) ?_
  refine XO.q (Q.ld rfl rfl) ?_
  refine XO.call Tryz.call34 rfl rfl rfl (equalI x vs K hs_ xs p.starts) fun v7 s7 R7 => ?_
  obtain ⟨rfl, rfl⟩ := R7
  dsimp only [List.cons_append, List.nil_append]
  refine XO.q (Q.assign rfl) ?_
  refine XO.done ?_
  refine XK.rt [] Tryz.func85 Tryz.results85 (.t rfl .n) ?_
  exact ⟨rfl, rfl⟩
theorem okAt_bad {d : KDay} {p : KPlan} {i : Nat} (h : (((p.charge.getD i default < -d.store.power ∨ d.store.power < p.charge.getD i default) ∨ ¬ kin d.store.full [energyTo d p.charge i + p.charge.getD i default] = true) ∨ d.most < (needsL d p.starts).getD i default + p.charge.getD i default)) : okAt d (needsL d p.starts) p.charge i = false := by
  unfold okAt
  simp only [Bool.and_eq_false_iff, Bool.not_eq_false', decide_eq_true_eq]
  rcases h with ((h | h) | h) | h
  · exact .inl (.inl (.inl h))
  · exact .inl (.inl (.inr h))
  · exact .inl (.inr (Bool.eq_false_iff.2 h))
  · exact .inr h
theorem okAt_good {d : KDay} {p : KPlan} {i : Nat} (h : ¬ (((p.charge.getD i default < -d.store.power ∨ d.store.power < p.charge.getD i default) ∨ ¬ kin d.store.full [energyTo d p.charge i + p.charge.getD i default] = true) ∨ d.most < (needsL d p.starts).getD i default + p.charge.getD i default)) : okAt d (needsL d p.starts) p.charge i = true := by
  unfold okAt
  simp only [not_or, Classical.not_not] at h
  simp only [Bool.and_eq_true, Bool.not_eq_true', decide_eq_false_iff_not]
  exact ⟨⟨⟨h.1.1.1, h.1.1.2⟩, h.1.2⟩, h.2⟩
set_option maxHeartbeats 1000000 in
theorem form_spec (d : KDay) (vh vj : Value) (hh hj : PHeap) [ih : Arr vh encHour 6 hh d.hours] [ij : Arr vj encJob 4 hj d.jobs] (p : KPlan) (vs vc : Value) (hs_ hc : PHeap) [js : Arr vs encI 1 hs_ p.starts] [jc : Arr vc encI 1 hc p.charge] : Spec Tryz.prog 51 #[.agg #[vh, .int .i64 d.store.energy, .int .i64 d.store.full, .int .i64 d.store.power, .int .i64 d.store.fin, vj, .int .i64 d.most, .int .i64 d.peak], .agg #[vs, vc, .int .i64 p.cost]] [] [hh, hj, hs_, hc] (fun v hs => ∃ v1 k1, v = .tuple #[v1, .int .i64 (formG d p).2] ∧ hs = [k1] ∧ OArr v1 encI 1 3 k1 (formG d p).1) := by
  have lh := ih.le
  have lc := jc.le
  have nI : OArr (.slice none 0 0) encI 1 3 emp ([] : List Int) := OArr.nil (fun _ => rfl)
  refine Spec.intro (fn := Tryz.f51) (N := 90) Tryz.func51 rfl Tryz.ntmps51 rfl fun B => ?_
  refine XK.seq ?_
  refine XK.region rfl ?_
  refine XO.box rfl fun b2 => ?_
  refine XO.box rfl fun b3 => ?_
  refine XO.q (Q.assign rfl) ?_
  refine XO.q (Q.assign rfl) ?_
  refine XO.done ?_
  refine XK.seq ?_
  refine XK.seq ?_
  refine XK.region rfl ?_
  refine XO.q (Q.ldA [_, _, _, _, _, _, _, _] rfl rfl rfl) ?_
  refine XO.call Tryz.call10 rfl rfl rfl (Check_spec d vh vj hh hj) fun v12 s12 R12 => ?_
  obtain ⟨rfl, rfl⟩ := R12
  dsimp only [List.cons_append, List.nil_append]
  refine XO.q (Q.assign rfl) ?_
  refine XO.done ?_
  refine XK.seq ?_
  refine XK.region rfl ?_
  refine XO.q (Q.move rfl) ?_
  refine XO.q (Q.neq rfl rfl) ?_
  refine XO.done ?_
  refine XK.if rfl (fun c0 => ?_) (fun c0 => ?_)
  · have _t0 := True.intro
    refine XK.seq ?_
    refine XK.region rfl ?_
    refine XO.q (Q.move rfl) ?_
    refine XO.q (Q.assign rfl) ?_
    refine XO.q (Q.assign rfl) ?_
    refine XO.done ?_
    refine XK.rt [emp] Tryz.func51 Tryz.results51 (.t rfl (.t rfl .n)) ?_
    have e : formG d p = ([], kcheck d) := by rw [formG, if_pos c0]
    rw [e]
    exact ⟨.slice none 0 0, emp, rfl, rfl, nI⟩
  · have _t0 := True.intro
    have ok := kcheck_iff.1 (Decidable.of_not_not c0)
    have st := ok.store
    have s1 := st.f0
    have s2 := st.f1
    have s3 := st.p0
    have s4 := st.p1
    have s5 := st.e0
    have s6 := st.e1
    refine XK.skip ?_
    refine XK.seq ?_
    refine XK.seq ?_
    refine XK.region rfl ?_
    refine XO.q (Q.ldA [_, _, _, _, _, _, _, _] rfl rfl rfl) ?_
    refine XO.call Tryz.call48 rfl rfl rfl (starts_spec d vh vj hh hj ok) fun v17 s17 R17 => ?_
    obtain ⟨ho, us, K, rfl, OO, RO⟩ := R17
    dsimp only [List.cons_append, List.nil_append]
    refine XO.q (Q.func (fun _ he => rfl) (fun _ he => evs_rel he rfl)) ?_
    refine XO.call Tryz.call76 rfl rfl rfl (containsRows v17 ho us K (startsL d) RO 85 [ptr b3 0] [blk b3 [vs, vc, .int .i64 p.cost] 34, hs_] (fun l => decide (l = p.starts)) Tryz.call85 (fun i hi => by haveI := RO.2 i hi; exact form1 p vs vc hs_ hc b3 (us.getD i default) K ((startsL d).getD i default))) fun v19 s19 R19 => ?_
    obtain ⟨rfl, rfl⟩ := R19
    dsimp only [List.cons_append, List.nil_append]
    refine XO.q (Q.not rfl) ?_
    refine XO.q (Q.move rfl) ?_
    refine XO.q (Quiet.guardF rfl rfl fun g22 p22 => Q.fieldAddr rfl) ?_
    refine XO.q (Quiet.guardF rfl rfl fun g23 p23 => Q.ld (lzv g23 rfl) rfl) ?_
    refine XO.q (Quiet.guardF rfl rfl fun g24 p24 => Q.len (lzv g24 rfl)) ?_
    refine XO.q (Quiet.guardF rfl rfl fun g25 p25 => Q.fieldAddr rfl) ?_
    refine XO.q (Quiet.guardF rfl rfl fun g26 p26 => Q.ld (lzv g26 rfl) rfl) ?_
    refine XO.q (Quiet.guardF rfl rfl fun g27 p27 => Q.len (lzv g27 rfl)) ?_
    refine XO.q (Quiet.guardF rfl rfl fun g28 p28 => Q.neq (lzv g28 rfl) (lzv g28 rfl)) ?_
    refine XO.q (Q.or rfl (fun hp => lzv hp rfl)) ?_
    refine XO.done ?_
    refine XK.if rfl (fun c1 => ?_) (fun c1 => ?_)
    · have _t1 := True.intro
      refine XK.seq ?_
      refine XK.region rfl ?_
      refine XO.q (Q.assign rfl) ?_
      refine XO.q (Q.assign rfl) ?_
      refine XO.done ?_
      refine XK.rt [emp] Tryz.func51 Tryz.results51 (.t rfl (.t rfl .n)) ?_
      have e : formG d p = ([], 1) := by rw [formG, if_neg c0, if_pos c1]
      rw [e]
      exact ⟨.slice none 0 0, emp, rfl, rfl, nI⟩
    · have _t1 := True.intro
      have c1a : (startsL d).any (fun l => decide (l = p.starts)) = true := Decidable.of_not_not fun h => c1 (.inl h)
      have so := starts_any c1a
      have cl : p.charge.length = d.hours.length := by have := fun h => c1 (.inr h); omega
      refine XK.skip ?_
      refine XK.seq ?_
      refine XK.region rfl ?_
      refine XO.q (Q.ldA [_, _, _, _, _, _, _, _] rfl rfl rfl) ?_
      refine XO.q (Q.fieldAddr rfl) ?_
      refine XO.q (Q.ld rfl rfl) ?_
      refine XO.call Tryz.call66 rfl rfl rfl (needs_spec d vh vj hh hj p.starts vs hs_ ok so) fun v33 s33 R33 => ?_
      obtain ⟨kb, rfl, OB⟩ := R33
      dsimp only [List.cons_append, List.nil_append]
      refine XO.q (Q.assign rfl) ?_
      refine XO.done ?_
      refine XK.seq ?_
      refine XK.region rfl ?_
      refine XO.q (Q.fieldAddr rfl) ?_
      refine XO.q (Q.fieldAddr rfl) ?_
      refine XO.q (Q.ld rfl rfl) ?_
      refine XO.q (Q.assign rfl) ?_
      refine XO.done ?_
      refine XK.seq ?_
      refine XK.seq ?_
      refine XK.region rfl ?_
      refine XO.q (Q.fieldAddr rfl) ?_
      refine XO.q (Q.ld rfl rfl) ?_
      refine XO.len rfl fun l39 => ?_
      refine XO.q (Q.move rfl) ?_
      refine XO.done ?_
      refine XK.block ?_
      refine XK.while (X := Nat) [4, 5, 8, 9, 10, 40, 41, 42, 43, 44, 45, 46, 47, 48, 49, 50, 51, 52, 53, 54, 55, 56, 57, 58, 59, 60, 61, 62, 63, 64, 65, 66, 67, 68, 69, 70, 71, 72, 73, 74, 75, 76, 77, 78, 79, 80, 81, 82, 83] (fun i => [(8, some (.int .i64 (energyTo d p.charge i))), (40, some (.int .i64 (i : Nat)))]) (fun i => []) (fun i => i ≤ p.charge.length ∧ allTo (okAt d (needsL d p.starts) p.charge) i = true ∧ 0 ≤ energyTo d p.charge i ∧ energyTo d p.charge i ≤ d.store.full) (fun i => p.charge.length - i) (0) [] rfl ⟨by omega, rfl, s5, s6⟩ (.c rfl (.c rfl (.base 0 rfl rfl))) ?_
      rintro i ⟨hi, ha, e0, e1⟩ ih0
      dsimp only [List.cons_append, List.nil_append] at ih0 ⊢
      refine XK.seq ?_
      refine XK.region rfl ?_
      refine XO.q (Q.lss rfl rfl) ?_
      refine XO.done ?_
      refine XK.seq ?_
      refine XK.if rfl (fun c2 => ?_) (fun c2 => ?_)
      · have _t2 := True.intro
        have nr := needs_rng ok p.starts (show i < d.hours.length by omega)
        have nl := needsL_len d p.starts
        refine XK.skip ?_
        refine XK.seq ?_
        refine XK.block ?_
        refine XK.seq ?_
        refine XK.region rfl ?_
        refine XO.q (Q.move rfl) ?_
        refine XO.ix rfl rfl (by omega) (by omega) fun i43 => ?_
        refine XO.q (Q.ldE rfl (by first | assumption | omega) rfl) ?_
        refine XO.q (Q.assign rfl) ?_
        refine XO.q (Q.assign rfl) ?_
        refine XO.done ?_
        refine XK.seq ?_
        refine XK.seq ?_
        refine XK.drawn [0, 1, 2, 3, 4, 5, 6, 7, 8, 9, 10, 11, 12, 13, 14, 15, 16, 17, 18, 19, 22, 23, 24, 25, 26, 27, 28, 29, 30, 31, 32, 33, 34] [b2] [kb] (.q 0 (.q 1 (.q 2 (.q 3 (.q 4 (.q 5 (.q 6 (.q 7 (.q 8 (.q 9 (.q 10 (.q 11 (.q 12 (.q 13 (.q 14 (.q 15 (.q 16 (.q 17 (.q 18 (.q 19 (.br 20 true (.br 21 true (.q 22 (.q 23 (.q 24 (.q 25 (.q 26 (.q 27 (.q 28 (.q 29 (.q 30 (.q 31 (.q 32 (.q 33 (.q 34 .done))))))))))))) .stop) .stop))))))))))))))))))))) Tryz.mixed rfl (by kernel_rfl) ?_
        refine XT.q rfl rfl (Q.move rfl) ?_
        refine XT.q rfl rfl (Q.fieldAddr rfl) ?_
        refine XT.q rfl rfl (Q.fieldAddr rfl) ?_
        refine XT.q rfl rfl (Q.ld rfl rfl) ?_
        refine XT.q rfl rfl (Q.neg rfl ⟨by omega, by omega⟩) ?_
        rw [show (0 : Int) - d.store.power = -d.store.power by omega]
        refine XT.q rfl rfl (Q.lss rfl rfl) ?_
        refine XT.q rfl rfl (Q.move rfl) ?_
        refine XT.q rfl rfl (Quiet.guardF rfl rfl fun g52 p52 => Q.move rfl) ?_
        refine XT.q rfl rfl (Quiet.guardF rfl rfl fun g53 p53 => Q.fieldAddr rfl) ?_
        refine XT.q rfl rfl (Quiet.guardF rfl rfl fun g54 p54 => Q.fieldAddr (lzv g54 rfl)) ?_
        refine XT.q rfl rfl (Quiet.guardF rfl rfl fun g55 p55 => Q.ld (lzv g55 rfl) rfl) ?_
        refine XT.q rfl rfl (Quiet.guardF rfl rfl fun g56 p56 => Q.gtr (lzv g56 rfl) (lzv g56 rfl)) ?_
        refine XT.q rfl rfl (Q.or rfl (fun hp => lzv hp rfl)) ?_
        refine XT.q rfl rfl (Q.move rfl) ?_
        refine XT.q rfl rfl (Quiet.guardF rfl rfl fun g59 p59 => Q.fieldAddr rfl) ?_
        refine XT.q rfl rfl (Quiet.guardF rfl rfl fun g60 p60 => Q.fieldAddr (lzv g60 rfl)) ?_
        refine XT.q rfl rfl (Quiet.guardF rfl rfl fun g61 p61 => Q.ld (lzv g61 rfl) rfl) ?_
        refine XT.q rfl rfl (Quiet.guardF rfl rfl fun g62 p62 => Q.move rfl) ?_
        refine XT.q rfl rfl (Quiet.guardF rfl rfl fun g63 p63 => Q.move rfl) ?_
        refine XT.q rfl rfl (Quiet.guardF rfl rfl fun g64 p64 => Q.add (lzv g64 rfl) (lzv g64 rfl) (by have q := p64; exact ⟨by omega, by omega⟩)) ?_
        refine XT.lit1 [_] [_] [energyTo d p.charge i + (p.charge.getD i default)] encI rfl rfl rfl rfl (by rfl) (by rfl) rfl (by rfl) (fun g65 => by exact .c 0 1 (lzv g65 rfl) rfl rfl (.n _)) (fun _ => rfl) (by rfl) rfl (fun _ => by infer_instance) rfl (fun v65 h65 O65 => ⟨inferInstance, ?_⟩) XT.stop
        refine XT.gcallF rfl rfl rfl rfl Tryz.call46 rfl (fun g66 => .c (lzv g66 rfl) (.c (lzv g66 rfl) .n)) rfl (fun g66 p66 => by haveI := O65 g66; exact kin_spec d.store.full v65 h65 [energyTo d p.charge i + (p.charge.getD i default)]) ⟨inferInstance, ?_⟩ XT.stop
        refine XT.q rfl rfl (Quiet.guardF rfl rfl fun g67 p67 => Q.not (lzv g67 rfl)) ?_
        refine XT.q rfl rfl (Q.or rfl (fun hp => lzv hp rfl)) ?_
        refine XT.q rfl rfl (Q.move rfl) ?_
        refine XT.q rfl rfl (Quiet.guardF rfl rfl fun g70 p70 => Q.move rfl) ?_
        refine XT.q rfl rfl (Quiet.guardF rfl rfl fun g71 p71 => Q.move rfl) ?_
        refine XT.q rfl rfl (Quiet.guardF rfl rfl fun g72 p72 => Q.ix (lzv g72 rfl) (lzv g72 rfl) (by omega) (by omega)) ?_
        refine XT.q rfl rfl (Quiet.guardF rfl rfl fun g73 p73 => Q.ldE (lzv g73 rfl) (by first | assumption | omega) rfl) ?_
        refine XT.q rfl rfl (Quiet.guardF rfl rfl fun g74 p74 => Q.move rfl) ?_
        refine XT.q rfl rfl (Quiet.guardF rfl rfl fun g75 p75 => Q.add (lzv g75 rfl) (lzv g75 rfl) (by have q := p75; exact ⟨by omega, by omega⟩)) ?_
        refine XT.q rfl rfl (Quiet.guardF rfl rfl fun g76 p76 => Q.fieldAddr rfl) ?_
        refine XT.q rfl rfl (Quiet.guardF rfl rfl fun g77 p77 => Q.ld (lzv g77 rfl) rfl) ?_
        refine XT.q rfl rfl (Quiet.guardF rfl rfl fun g78 p78 => Q.gtr (lzv g78 rfl) (lzv g78 rfl)) ?_
        refine XT.q rfl rfl (Q.or rfl (fun hp => lzv hp rfl)) ?_
        refine XT.done ?_
        refine XK.if rfl (fun c3 => ?_) (fun c3 => ?_)
        · have _t3 := True.intro
          refine XK.seq ?_
          refine XK.region rfl ?_
          refine XO.q (Q.assign rfl) ?_
          refine XO.q (Q.assign rfl) ?_
          refine XO.done ?_
          refine XK.rt [emp] Tryz.func51 Tryz.results51 (.t rfl (.t rfl .n)) ?_
          have e : formG d p = ([], 120) := by rw [formG, if_neg c0, if_neg c1, if_pos (by rw [allTo_false (s := i) (by omega) (okAt_bad c3)]; decide)]
          rw [e]
          exact ⟨.slice none 0 0, emp, rfl, rfl, nI⟩
        · have _t3 := True.intro
          have good := okAt_good c3
          have c3b := c3
          simp only [not_or, Classical.not_not] at c3b
          have k1 := kin_one.1 c3b.1.2
          refine XK.skip ?_
          refine XK.region rfl ?_
          refine XO.q (Q.move rfl) ?_
          refine XO.q (Q.move rfl) ?_
          refine XO.q (Q.add rfl rfl ⟨by omega, by omega⟩) ?_
          refine XO.q (Q.assign rfl) ?_
          refine XO.done ?_
          refine XK.inBlock ?_
          refine XK.region rfl ?_
          refine XO.q (Q.add rfl rfl ⟨by omega, by omega⟩) ?_
          refine XO.q (Q.move rfl) ?_
          refine XO.done ?_
          exact ih0 (i + 1) _ _ ⟨by omega, by rw [allTo_succ, ha, good]; rfl, by rw [energyTo]; omega, by rw [energyTo]; omega⟩ (by first | omega | (dsimp only; omega)) (.c rfl (.c rfl (.base 98 rfl rfl))) inferInstance
      · have _t2 := True.intro
        have hin : i = p.charge.length := by omega
        subst hin
        refine XK.exit rfl ?_
        refine XK.seq ?_
        refine XK.seq ?_
        refine XK.region rfl ?_
        refine XO.q (Q.move rfl) ?_
        refine XO.q (Q.fieldAddr rfl) ?_
        refine XO.q (Q.fieldAddr rfl) ?_
        refine XO.q (Q.ld rfl rfl) ?_
        refine XO.q (Q.lss rfl rfl) ?_
        refine XO.done ?_
        refine XK.if rfl (fun c4 => ?_) (fun c4 => ?_)
        · have _t4 := True.intro
          refine XK.seq ?_
          refine XK.region rfl ?_
          refine XO.q (Q.assign rfl) ?_
          refine XO.q (Q.assign rfl) ?_
          refine XO.done ?_
          refine XK.rt [emp] Tryz.func51 Tryz.results51 (.t rfl (.t rfl .n)) ?_
          have e : formG d p = ([], 120) := by rw [formG, if_neg c0, if_neg c1, if_neg (fun h => h ha), if_pos c4]
          rw [e]
          exact ⟨.slice none 0 0, emp, rfl, rfl, nI⟩
        · have _t4 := True.intro
          refine XK.skip ?_
          refine XK.seq ?_
          refine XK.region rfl ?_
          refine XO.q (Q.move rfl) ?_
          refine XO.q (Q.assign rfl) ?_
          refine XO.q (Q.assign rfl) ?_
          refine XO.done ?_
          refine XK.rt [kb] Tryz.func51 Tryz.results51 (.t rfl (.t rfl .n)) ?_
          have e : formG d p = (needsL d p.starts, 0) := by rw [formG, if_neg c0, if_neg c1, if_neg (fun h => h ha), if_neg c4]
          rw [e]
          exact ⟨v33, kb, rfl, rfl, OB⟩
theorem cost_rng {d : KDay} {base ch : List Int} (hok : ∀ i, i < d.hours.length → HourOk (d.hours.getD i default)) (hl : ch.length ≤ d.hours.length) (hr : ∀ i, i < ch.length → -1000 ≤ base.getD i default + ch.getD i default ∧ base.getD i default + ch.getD i default ≤ 1000) : ∀ i, i ≤ ch.length → (-(1000000 * (i : Int)) ≤ costTo d base ch i ∧ costTo d base ch i ≤ 1000000 * i) ∧ 0 ≤ peakTo base ch i ∧ peakTo base ch i ≤ 1000
  | 0, _ => by simp [costTo, peakTo]
  | i + 1, hi => by
    have h := cost_rng hok hl hr i (by omega)
    have r := hr i (by omega)
    have p := price_rng (hok i (by omega)) r.1 r.2
    rw [costTo, peakTo]
    omega
theorem cost_spec (d : KDay) (vh vj : Value) (hh hj : PHeap) [ih : Arr vh encHour 6 hh d.hours] [ij : Arr vj encJob 4 hj d.jobs] (base : List Int) (vb : Value) (hb : PHeap) [jb : Arr vb encI 1 hb base] (ch : List Int) (vc : Value) (hc : PHeap) [jc : Arr vc encI 1 hc ch] (ok : DayOk d) (hl : ch.length = d.hours.length) (hbl : base.length = d.hours.length) (hr : ∀ i, i < ch.length → (-1000 ≤ base.getD i default ∧ base.getD i default ≤ 1000) ∧ (-1000 ≤ ch.getD i default ∧ ch.getD i default ≤ 1000) ∧ -1000 ≤ base.getD i default + ch.getD i default ∧ base.getD i default + ch.getD i default ≤ 1000) :
    Spec Tryz.prog 52 #[.agg #[vh, .int .i64 d.store.energy, .int .i64 d.store.full, .int .i64 d.store.power, .int .i64 d.store.fin, vj, .int .i64 d.most, .int .i64 d.peak], vb, vc] [] [hh, hj, hb, hc] (fun v hs => v = .int .i64 (costL d base ch) ∧ hs = []) := by
  have lh := ih.le
  have h24 := ok.h2
  have cr := cost_rng ok.hour (by omega) (fun i hi => (hr i hi).2.2)
  have pk0 := ok.p0
  have pk1 := ok.p1
  refine Spec.intro (fn := Tryz.f52) (N := 47) Tryz.func52 rfl Tryz.ntmps52 rfl fun B => ?_
  refine XK.seq ?_
  refine XK.region rfl ?_
  refine XO.box rfl fun b3 => ?_
  refine XO.q (Q.assign rfl) ?_
  refine XO.done ?_
  refine XK.seq ?_
  refine XK.region rfl ?_
  refine XO.q (Q.assign rfl) ?_
  refine XO.q (Q.assign rfl) ?_
  refine XO.done ?_
  refine XK.seq ?_
  refine XK.seq ?_
  refine XK.region rfl ?_
  refine XO.q (Q.move rfl) ?_
  refine XO.len rfl fun l12 => ?_
  refine XO.q (Q.move rfl) ?_
  refine XO.done ?_
  refine XK.block ?_
  refine XK.while (X := Nat) [7, 8, 9, 10, 13, 14, 15, 16, 17, 18, 19, 20, 21, 22, 23, 24, 25, 26, 27, 28, 29, 30, 31, 32, 33, 34, 35, 36, 37, 38, 39, 40] (fun i => [(7, some (.int .i64 (costTo d base ch i))), (8, some (.int .i64 (peakTo base ch i))), (13, some (.int .i64 (i : Nat)))]) (fun i => []) (fun i => i ≤ ch.length) (fun i => ch.length - i) (0) [] rfl (by omega) (.c rfl (.c rfl (.c rfl (.base 0 rfl rfl)))) ?_
  rintro i hi ih0
  dsimp only [List.cons_append, List.nil_append] at ih0 ⊢
  refine XK.seq ?_
  refine XK.region rfl ?_
  refine XO.q (Q.lss rfl rfl) ?_
  refine XO.done ?_
  refine XK.seq ?_
  refine XK.if rfl (fun c0 => ?_) (fun c0 => ?_)
  · have _t0 := True.intro
    have ri := hr i (by omega)
    have ci := cr i (by omega)
    have pi := price_rng (ok.hour i (by omega)) ri.2.2.1 ri.2.2.2
    refine XK.skip ?_
    refine XK.seq ?_
    refine XK.block ?_
    refine XK.seq ?_
    refine XK.region rfl ?_
    refine XO.q (Q.move rfl) ?_
    refine XO.ix rfl rfl (by omega) (by omega) fun i16 => ?_
    refine XO.q (Q.ldE rfl (by first | assumption | omega) rfl) ?_
    refine XO.q (Q.assign rfl) ?_
    refine XO.q (Q.assign rfl) ?_
    refine XO.done ?_
    refine XK.seq ?_
    refine XK.drawn [0, 1, 2, 3, 4, 5, 6, 7, 8, 9, 10, 11, 13, 14] [b3] [] (.q 0 (.q 1 (.q 2 (.q 3 (.q 4 (.q 5 (.q 6 (.q 7 (.q 8 (.q 9 (.q 10 (.q 11 (.br 12 true (.q 13 (.q 14 .done)) .stop))))))))))))) Tryz.mixed rfl (by kernel_rfl) ?_
    refine XT.q rfl rfl (Q.move rfl) ?_
    refine XT.q rfl rfl (Q.fieldAddr rfl) ?_
    refine XT.q rfl rfl (Q.ld rfl rfl) ?_
    refine XT.q rfl rfl (Q.move rfl) ?_
    refine XT.ix rfl rfl rfl rfl (by omega) (by omega) fun i22 => ?_
    refine XT.q rfl rfl (Q.ldEA [_, _, _, _, _, _] rfl (by first | assumption | omega) rfl rfl) ?_
    refine XT.q rfl rfl (Q.move rfl) ?_
    refine XT.q rfl rfl (Q.move rfl) ?_
    refine XT.ix rfl rfl rfl rfl (by omega) (by omega) fun i26 => ?_
    refine XT.q rfl rfl (Q.ldE rfl (by first | assumption | omega) rfl) ?_
    refine XT.q rfl rfl (Q.move rfl) ?_
    refine XT.q rfl rfl (Q.add rfl rfl ⟨by omega, by omega⟩) ?_
    refine XT.call rfl rfl Tryz.call86 rfl rfl rfl (price_spec (d.hours.getD i default) (ok.hour i (by omega)) (base.getD i default + ch.getD i default) (by omega) (by omega)) (fun v30 s30 R30 => ?_) XT.stop
    obtain ⟨rfl, rfl⟩ := R30
    dsimp only [List.cons_append, List.nil_append]
    refine ⟨inferInstance, ?_⟩
    refine XT.q rfl rfl (Q.add rfl rfl ⟨by omega, by omega⟩) ?_
    refine XT.q rfl rfl (Q.assign rfl) ?_
    refine XT.done ?_
    refine XK.region rfl ?_
    refine XO.q (Q.move rfl) ?_
    refine XO.q (Q.move rfl) ?_
    refine XO.q (Q.move rfl) ?_
    refine XO.ix rfl rfl (by omega) (by omega) fun i35 => ?_
    refine XO.q (Q.ldE rfl (by first | assumption | omega) rfl) ?_
    refine XO.q (Q.move rfl) ?_
    refine XO.q (Q.add rfl rfl ⟨by omega, by omega⟩) ?_
    refine XO.q (Q.max rfl rfl) ?_
    refine XO.q (Q.assign rfl) ?_
    refine XO.done ?_
    refine XK.inBlock ?_
    refine XK.region rfl ?_
    refine XO.q (Q.add rfl rfl ⟨by omega, by omega⟩) ?_
    refine XO.q (Q.move rfl) ?_
    refine XO.done ?_
    exact ih0 (i + 1) _ _ (by omega) (by first | omega | (dsimp only; omega)) (.c rfl (.c rfl (.c rfl (.base 67 rfl rfl)))) inferInstance
  · have _t0 := True.intro
    have hin : i = ch.length := by omega
    subst hin
    have ci := cr ch.length (Nat.le_refl _)
    have pm := price_mul (a := d.peak) (b := peakTo base ch ch.length) pk0 pk1 ci.2.1 ci.2.2
    refine XK.exit rfl ?_
    refine XK.seq ?_
    refine XK.region rfl ?_
    refine XO.q (Q.move rfl) ?_
    refine XO.q (Q.fieldAddr rfl) ?_
    refine XO.q (Q.ld rfl rfl) ?_
    refine XO.q (Q.move rfl) ?_
    refine XO.q (Q.mul rfl rfl ⟨by omega, by omega⟩) ?_
    refine XO.q (Q.add rfl rfl ⟨by omega, by omega⟩) ?_
    refine XO.q (Q.assign rfl) ?_
    refine XO.done ?_
    refine XK.rt [] Tryz.func52 Tryz.results52 (.t rfl .n) ?_
    exact ⟨rfl, rfl⟩
theorem form_fine {d : KDay} {p : KPlan} (h : (formG d p).2 = 0) : DayOk d ∧ SOk d p.starts ∧ (startsL d).any (fun l => decide (l = p.starts)) = true ∧ p.charge.length = d.hours.length ∧ allTo (okAt d (needsL d p.starts) p.charge) p.charge.length = true ∧ d.store.fin ≤ energyTo d p.charge p.charge.length ∧ (formG d p).1 = needsL d p.starts := by
  unfold formG at h ⊢
  split at h
  · rename_i h0; exact absurd h h0
  · rename_i h0
    rw [if_neg h0]
    split at h
    · cases h
    · rename_i h1
      rw [if_neg h1]
      split at h
      · cases h
      · rename_i h2
        rw [if_neg h2]
        split at h
        · cases h
        · rename_i h3
          rw [if_neg h3]
          have c1a : (startsL d).any (fun l => decide (l = p.starts)) = true := Decidable.of_not_not fun h => h1 (.inl h)
          exact ⟨kcheck_iff.1 (Decidable.of_not_not h0), starts_any c1a, c1a, (by have := fun h => h1 (.inr h); omega), Decidable.of_not_not h2, by omega, rfl⟩
theorem okAt_iff {d : KDay} {base ch : List Int} {i : Nat} : okAt d base ch i = true ↔ (-d.store.power ≤ ch.getD i default ∧ ch.getD i default ≤ d.store.power) ∧ (0 ≤ energyTo d ch i + ch.getD i default ∧ energyTo d ch i + ch.getD i default ≤ d.store.full) ∧ base.getD i default + ch.getD i default ≤ d.most := by
  unfold okAt
  simp only [Bool.and_eq_true, Bool.not_eq_true', decide_eq_false_iff_not]
  rw [kin_one]
  omega
theorem form_rng {d : KDay} {p : KPlan} (h : (formG d p).2 = 0) : ∀ i, i < p.charge.length → ((formG d p).1.length = d.hours.length) ∧ (-1000 ≤ (formG d p).1.getD i default ∧ (formG d p).1.getD i default ≤ 1000) ∧ (-1000 ≤ p.charge.getD i default ∧ p.charge.getD i default ≤ 1000) ∧ -1000 ≤ (formG d p).1.getD i default + p.charge.getD i default ∧ (formG d p).1.getD i default + p.charge.getD i default ≤ 1000 := fun i hi => by
  obtain ⟨ok, so, _, hl, ha, _, e⟩ := form_fine h
  have nr := needs_rng ok p.starts (show i < d.hours.length by omega)
  have oi := okAt_iff.1 (allTo_at ha hi)
  have s3 := ok.store.p0; have s4 := ok.store.p1
  rw [e]
  exact ⟨needsL_len d _, by omega, by omega, by omega, by omega⟩
theorem Cost_spec (d : KDay) (vh vj : Value) (hh hj : PHeap) [ih : Arr vh encHour 6 hh d.hours] [ij : Arr vj encJob 4 hj d.jobs] (p : KPlan) (vs vc : Value) (hs_ hc : PHeap) [js : Arr vs encI 1 hs_ p.starts] [jc : Arr vc encI 1 hc p.charge] : Spec Tryz.prog 15 #[.agg #[vh, .int .i64 d.store.energy, .int .i64 d.store.full, .int .i64 d.store.power, .int .i64 d.store.fin, vj, .int .i64 d.most, .int .i64 d.peak], .agg #[vs, vc, .int .i64 p.cost]] [] [hh, hj, hs_, hc] (fun v hs => v = .tuple #[.int .i64 (costG d p).1, .int .i64 (costG d p).2] ∧ hs = []) := by
  refine Spec.intro (fn := Tryz.f15) (N := 22) Tryz.func15 rfl Tryz.ntmps15 rfl fun B => ?_
  refine XK.seq ?_
  refine XK.region rfl ?_
  refine XO.box rfl fun b2 => ?_
  refine XO.box rfl fun b3 => ?_
  refine XO.q (Q.assign rfl) ?_
  refine XO.q (Q.assign rfl) ?_
  refine XO.done ?_
  refine XK.seq ?_
  refine XK.region rfl ?_
  refine XO.q (Q.ldA [_, _, _, _, _, _, _, _] rfl rfl rfl) ?_
  refine XO.q (Q.ldA [_, _, _] rfl rfl rfl) ?_
  refine XO.call Tryz.call51 rfl rfl rfl (form_spec d vh vj hh hj p vs vc hs_ hc) fun v11 s11 R11 => ?_
  obtain ⟨v1, k1, rfl, rfl, O1⟩ := R11
  dsimp only [List.cons_append, List.nil_append]
  refine XO.q (Q.move rfl) ?_
  refine XO.q (Q.extract rfl rfl) ?_
  refine XO.q (Q.extract rfl rfl) ?_
  refine XO.q (Q.assign rfl) ?_
  refine XO.q (Q.assign rfl) ?_
  refine XO.done ?_
  refine XK.seq ?_
  refine XK.seq ?_
  refine XK.region rfl ?_
  refine XO.q (Q.move rfl) ?_
  refine XO.q (Q.neq rfl rfl) ?_
  refine XO.done ?_
  refine XK.if rfl (fun c0 => ?_) (fun c0 => ?_)
  · have _t0 := True.intro
    refine XK.seq ?_
    refine XK.region rfl ?_
    refine XO.q (Q.move rfl) ?_
    refine XO.q (Q.assign rfl) ?_
    refine XO.q (Q.assign rfl) ?_
    refine XO.done ?_
    refine XK.rt [] Tryz.func15 Tryz.results15 (.t rfl (.t rfl .n)) ?_
    exact ⟨by rw [costG, if_pos c0], rfl⟩
  · have _t0 := True.intro
    have e0 := Decidable.of_not_not c0
    have ff := form_fine e0
    refine XK.skip ?_
    refine XK.seq ?_
    refine XK.region rfl ?_
    refine XO.q (Q.ldA [_, _, _, _, _, _, _, _] rfl rfl rfl) ?_
    refine XO.q (Q.move rfl) ?_
    refine XO.q (Q.fieldAddr rfl) ?_
    refine XO.q (Q.ld rfl rfl) ?_
    refine XO.call Tryz.call52 rfl rfl rfl (cost_spec d vh vj hh hj (formG d p).1 v1 k1 p.charge vc hc ff.1 ff.2.2.2.1 (by rw [ff.2.2.2.2.2.2]; exact needsL_len d _) (fun i hi => (form_rng e0 i hi).2)) fun v21 s21 R21 => ?_
    obtain ⟨rfl, rfl⟩ := R21
    dsimp only [List.cons_append, List.nil_append]
    refine XO.q (Q.assign rfl) ?_
    refine XO.q (Q.assign rfl) ?_
    refine XO.done ?_
    refine XK.rt [] Tryz.func15 Tryz.results15 (.t rfl (.t rfl .n)) ?_
    exact ⟨by rw [costG, if_neg c0], rfl⟩
theorem Starts_spec (d : KDay) (vh vj : Value) (hh hj : PHeap) [ih : Arr vh encHour 6 hh d.hours] [ij : Arr vj encJob 4 hj d.jobs] : Spec Tryz.prog 12 #[.agg #[vh, .int .i64 d.store.energy, .int .i64 d.store.full, .int .i64 d.store.power, .int .i64 d.store.fin, vj, .int .i64 d.most, .int .i64 d.peak]] [] [hh, hj] (fun v hs => ∃ vo ho us K, v = .tuple #[vo, .int .i64 (kcheck d)] ∧ hs = [ho, K] ∧ OArr vo encV 1 32 ho us ∧ RowsK us K (if kcheck d = 0 then startsL d else [])) := by
  refine Spec.intro (fn := Tryz.f12) (N := 12) Tryz.func12 rfl Tryz.ntmps12 rfl fun B => ?_
  refine XK.seq ?_
  refine XK.region rfl ?_
  refine XO.box rfl fun b1 => ?_
  refine XO.q (Q.assign rfl) ?_
  refine XO.q (Q.assign rfl) ?_
  refine XO.done ?_
  refine XK.seq ?_
  refine XK.seq ?_
  refine XK.region rfl ?_
  refine XO.q (Q.ldA [_, _, _, _, _, _, _, _] rfl rfl rfl) ?_
  refine XO.call Tryz.call10 rfl rfl rfl (Check_spec d vh vj hh hj) fun v6 s6 R6 => ?_
  obtain ⟨rfl, rfl⟩ := R6
  dsimp only [List.cons_append, List.nil_append]
  refine XO.q (Q.assign rfl) ?_
  refine XO.done ?_
  refine XK.seq ?_
  refine XK.region rfl ?_
  refine XO.q (Q.move rfl) ?_
  refine XO.q (Q.neq rfl rfl) ?_
  refine XO.done ?_
  refine XK.if rfl (fun c0 => ?_) (fun c0 => ?_)
  · have _t0 := True.intro
    refine XK.seq ?_
    refine XK.region rfl ?_
    refine XO.q (Q.move rfl) ?_
    refine XO.q (Q.assign rfl) ?_
    refine XO.q (Q.assign rfl) ?_
    refine XO.done ?_
    refine XK.rt [emp, emp] Tryz.func12 Tryz.results12 (.t rfl (.t rfl .n)) ?_
    rw [if_neg c0]
    exact ⟨.slice none 0 0, emp, [], emp, rfl, rfl, OArr.nil (fun _ => rfl), RowsK.nil⟩
  · have _t0 := True.intro
    have e0 := Decidable.of_not_not c0
    refine XK.skip ?_
    refine XK.seq ?_
    refine XK.region rfl ?_
    refine XO.q (Q.ldA [_, _, _, _, _, _, _, _] rfl rfl rfl) ?_
    refine XO.call Tryz.call48 rfl rfl rfl (starts_spec d vh vj hh hj (kcheck_iff.1 e0)) fun v11 s11 R11 => ?_
    obtain ⟨ho, us, K, rfl, OO, RO⟩ := R11
    dsimp only [List.cons_append, List.nil_append]
    refine XO.q (Q.assign rfl) ?_
    refine XO.q (Q.assign rfl) ?_
    refine XO.done ?_
    refine XK.rt [ho, K] Tryz.func12 Tryz.results12 (.t rfl (.t rfl .n)) ?_
    rw [if_pos e0, e0]
    exact ⟨v11, ho, us, K, rfl, rfl, OO, RO⟩
end Go.X

set_option linter.unusedSimpArgs false
set_option linter.unusedVariables false
set_option maxRecDepth 20000
namespace Go.X
open Go.Proofs
theorem at_spec (d : KDay) (vh vj vb : Value) (vv : Value) (ok : DayOk d) (b : Nat) (h e m : Int) (h0 : 0 ≤ h ∧ h ≤ 100) (e0 : -100 ≤ e ∧ e ≤ 100) (m0 : -1000 ≤ m ∧ m ≤ 1000) : Spec Tryz.prog 60 #[ptr b 0, .int .i64 h, .int .i64 e, .int .i64 m] [] [blk b [vh, .int .i64 d.store.energy, .int .i64 d.store.full, .int .i64 d.store.power, .int .i64 d.store.fin, vj, .int .i64 d.most, .int .i64 d.peak, vb, vv] 123] (fun v hs => v = .int .i64 (atK d h e m) ∧ hs = []) := by
  have f0 := ok.store.f0
  have f1 := ok.store.f1
  have q0 := ok.m0
  have q1 := ok.m1
  have p1 : 0 ≤ h * (d.store.full + 1) ∧ h * (d.store.full + 1) ≤ 1100 := ⟨Int.mul_nonneg h0.1 (by omega), Int.le_trans (Int.mul_le_mul h0.2 (show d.store.full + 1 ≤ 11 by omega) (by omega) (by omega)) (by decide)⟩
  have p2 : -100 * 41 ≤ (h * (d.store.full + 1) + e) * (d.most + 1) ∧ (h * (d.store.full + 1) + e) * (d.most + 1) ≤ 1200 * 41 := by
    constructor
    · rcases Int.le_total 0 (h * (d.store.full + 1) + e) with hp | hp
      · have := Int.mul_nonneg hp (show 0 ≤ d.most + 1 by omega); omega
      · have := Int.mul_le_mul_of_nonneg_right (show -100 ≤ h * (d.store.full + 1) + e by omega) (show 0 ≤ d.most + 1 by omega)
        omega
    · rcases Int.le_total 0 (h * (d.store.full + 1) + e) with hp | hp
      · exact Int.mul_le_mul (by omega) (by omega) (by omega) (by omega)
      · have := Int.mul_nonneg (show 0 ≤ -(h * (d.store.full + 1) + e) by omega) (show 0 ≤ d.most + 1 by omega)
        rw [Int.neg_mul] at this; omega
  refine Spec.intro (fn := Tryz.f60) (N := 29) Tryz.func60 rfl Tryz.ntmps60 rfl fun B => ?_
  refine XK.seq ?_
  refine XK.region rfl ?_
  refine XO.q (Q.assign rfl) ?_
  refine XO.done ?_
  refine XK.seq ?_
  refine XK.drawn [0, 1, 2, 3, 4, 5, 6, 7, 8, 9, 10, 11, 12, 13, 14, 15, 16, 17, 18, 19, 20] [] [] (.q 0 (.q 1 (.q 2 (.q 3 (.q 4 (.q 5 (.q 6 (.q 7 (.q 8 (.q 9 (.q 10 (.q 11 (.q 12 (.q 13 (.q 14 (.q 15 (.q 16 (.q 17 (.q 18 (.q 19 (.q 20 .done))))))))))))))))))))) Tryz.mixed rfl (by kernel_rfl) ?_
  refine XT.q rfl rfl (Q.move rfl) ?_
  refine XT.q rfl rfl (Q.move rfl) ?_
  refine XT.q rfl rfl (Q.nilCheck rfl) ?_
  refine XT.q rfl rfl (Q.fieldAddr rfl) ?_
  refine XT.q rfl rfl (Q.fieldAddr rfl) ?_
  refine XT.q rfl rfl (Q.fieldAddr rfl) ?_
  refine XT.q rfl rfl (Q.ld rfl rfl) ?_
  refine XT.q rfl rfl (Q.add rfl rfl ⟨by omega, by omega⟩) ?_
  refine XT.q rfl rfl (Q.mul rfl rfl ⟨by omega, by omega⟩) ?_
  refine XT.q rfl rfl (Q.move rfl) ?_
  refine XT.q rfl rfl (Q.add rfl rfl ⟨by omega, by omega⟩) ?_
  refine XT.q rfl rfl (Q.move rfl) ?_
  refine XT.q rfl rfl (Q.nilCheck rfl) ?_
  refine XT.q rfl rfl (Q.fieldAddr rfl) ?_
  refine XT.q rfl rfl (Q.fieldAddr rfl) ?_
  refine XT.q rfl rfl (Q.ld rfl rfl) ?_
  refine XT.q rfl rfl (Q.add rfl rfl ⟨by omega, by omega⟩) ?_
  refine XT.q rfl rfl (Q.mul rfl rfl ⟨by omega, by omega⟩) ?_
  refine XT.q rfl rfl (Q.move rfl) ?_
  refine XT.q rfl rfl (Q.add rfl rfl ⟨by omega, by omega⟩) ?_
  refine XT.q rfl rfl (Q.assign rfl) ?_
  refine XT.done ?_
  refine XK.rt [] Tryz.func60 Tryz.results60 (.t rfl .n) ?_
  exact ⟨rfl, rfl⟩
def nextC (d : KDay) (base : List Int) (hour : Nat) (e m c : Int) : Int := atK d ((hour : Int) + 1) (e + c) (max m (base.getD hour default + c))
def chItem (d : KDay) (base : List Int) (hour : Nat) (e m c : Int) : List Value := [.int .i64 c, .agg #[.int .i64 (nextC d base hour e m c), .int .i64 (priceH (d.hours.getD hour default) (base.getD hour default + c))]]
def chItems (d : KDay) (base : List Int) (hour : Nat) (e m : Int) : List (List Value) := (List.range (cntC d (base.getD hour default) e)).map fun (k : Nat) => chItem d base hour e m (lowC d e + (k : Int))
theorem chItems_len (d : KDay) (base : List Int) (hour : Nat) (e m : Int) : (chItems d base hour e m).length = cntC d (base.getD hour default) e := by simp [chItems]
theorem chItems_at {d : KDay} {base : List Int} {hour : Nat} {e m : Int} {k : Nat} (h : k < cntC d (base.getD hour default) e) : (chItems d base hour e m).getD k [] = chItem d base hour e m (lowC d e + (k : Int)) := by
  rw [List.getD_eq_getElem?_getD, chItems, List.getElem?_map, List.getElem?_range h]; rfl
theorem chItems_two {d : KDay} {base : List Int} {hour : Nat} {e m : Int} : ∀ i, i < (chItems d base hour e m).length → ((chItems d base hour e m).getD i []).length = 2 := fun i hi => by
  rw [chItems_len] at hi
  rw [chItems_at hi]; rfl
theorem charges1 (d : KDay) (vh vj : Value) (hh hj : PHeap) [ih : Arr vh encHour 6 hh d.hours] [ij : Arr vj encJob 4 hj d.jobs] (vb vv : Value) (hb : PHeap) (base : List Int) [jb : Arr vb encI 1 hb base] (ok : DayOk d) (bo : BaseOk d base) (b b1 b2 b3 b4 hour : Nat) (hh1 : hour < d.hours.length) (e m : Int) (so : StateOk d e m) :
    It Tryz.prog (.func (.func 102) #[] #[ptr b1 0, ptr b2 0, ptr b3 0, ptr b4 0]) (chItems d base hour e m) [blk b1 [ptr b 0] 120, blk b2 [.int .i64 e] 3, blk b3 [.int .i64 ((hour : Nat) : Int)] 3, blk b4 [.int .i64 m] 3, blk b [vh, .int .i64 d.store.energy, .int .i64 d.store.full, .int .i64 d.store.power, .int .i64 d.store.fin, vj, .int .i64 d.most, .int .i64 d.peak, vb, vv] 123, hb, hh] := by
  intro f Hr QQ XX hy q hq
  refine VSpec.fn (P := Tryz.prog) (g := 102) (fst := []) (vs := [f]) (cap := [ptr b1 0, ptr b2 0, ptr b3 0, ptr b4 0]) (A := [f, ptr b1 0, ptr b2 0, ptr b3 0, ptr b4 0]) (Hm := [q]) Tryz.call102 rfl ?_
  dsimp only [List.cons_append, List.nil_append]
  rw [chItems_len] at *
  have lh := ih.le
  have f0 := ok.store.f0
  have f1 := ok.store.f1
  have p0 := ok.store.p0
  have p1 := ok.store.p1
  have q0 := ok.m0
  have q1 := ok.m1
  have e0 := so.e0
  have e1 := so.e1
  have m0 := so.m0
  have m1 := so.m1
  have h24 := ok.h2
  have bl := bo.len
  have br := bo.rng hour hh1
  have hk := ok.hour hour hh1
  have hcall : ∀ k : Nat, k < cntC d (base.getD hour default) e → ∀ q, QQ k q →
      VSpec Tryz.prog f (chItem d base hour e m (lowC d e + (k : Int))) [q] Hr (fun v hs => ∃ bb q', v = .bool bb ∧ hs = [q'] ∧ (bb = true → QQ (k + 1) q') ∧ (bb = false → XX q')) := by
    intro k hk q hq
    have := hy k hk q hq
    rwa [chItems_at hk] at this
  refine Spec.intro (fn := Tryz.f102) (N := 78) Tryz.func102 rfl Tryz.ntmps102 rfl fun B => ?_
  refine XK.seq ?_
  refine XK.region rfl ?_
  refine XO.q (Q.ld rfl rfl) ?_
  refine XO.q (Q.nilCheck rfl) ?_
  refine XO.q (Q.fieldAddr rfl) ?_
  refine XO.q (Q.fieldAddr rfl) ?_
  refine XO.q (Q.ldA [_, _, _, _] rfl rfl rfl) ?_
  refine XO.alloc fun b6 => ?_
  refine XO.st rfl rfl rfl ?_
  refine XO.done ?_
  refine XK.seq ?_
  refine XK.region rfl ?_
  refine XO.q (Q.fieldAddr rfl) ?_
  refine XO.q (Q.ld rfl rfl) ?_
  refine XO.q (Q.neg rfl ⟨by omega, by omega⟩) ?_
  refine XO.q (Q.ld rfl rfl) ?_
  refine XO.q (Q.neg rfl ⟨by omega, by omega⟩) ?_
  refine XO.q (Q.max rfl rfl) ?_
  refine XO.q (Q.assign rfl) ?_
  refine XO.done ?_
  refine XK.block ?_
  refine XK.while (X := Nat × Int × PHeap) [7, 8, 20, 21, 22, 23, 24, 25, 26, 27, 28, 29, 30, 31, 32, 33, 34, 35, 36, 37, 38, 39, 40, 41, 42, 43, 44, 45, 46, 47, 48, 49, 50, 51, 52, 53, 54, 55, 56, 57, 58, 59, 60, 61, 62, 63, 64, 65, 66, 67, 68, 69, 70, 71, 72, 73, 74, 75, 76, 77] (fun ⟨k, c, q1⟩ => [(7, some (.int .i64 c))]) (fun ⟨k, c, q1⟩ => [q1]) (fun ⟨k, c, q1⟩ => k ≤ cntC d (base.getD hour default) e ∧ c = lowC d e + (k : Int) ∧ QQ k q1) (fun ⟨k, c, q1⟩ => cntC d (base.getD hour default) e - k) (0, _, q) [q] rfl ⟨by omega, by unfold lowC; omega, hq⟩ (.c rfl (.base 0 rfl rfl)) ?_
  rintro ⟨k, c, q1⟩ ⟨hk2, hc, hQ⟩ ih0
  dsimp only [List.cons_append, List.nil_append] at ih0 ⊢
  refine XK.seq ?_
  refine XK.seq ?_
  refine XK.drawn [0, 1, 2, 3, 4, 5, 6, 7, 8, 9, 10, 11, 12, 13, 14, 15, 16, 17, 18, 19, 20, 21] [b6, b2, b1, b3] [] (.q 0 (.q 1 (.q 2 (.q 3 (.q 4 (.q 5 (.q 6 (.q 7 (.q 8 (.q 9 (.q 10 (.q 11 (.q 12 (.q 13 (.q 14 (.q 15 (.q 16 (.q 17 (.q 18 (.q 19 (.q 20 (.q 21 .done)))))))))))))))))))))) Tryz.mixed rfl (by kernel_rfl) ?_
  refine XT.q rfl rfl (Q.move rfl) ?_
  refine XT.q rfl rfl (Q.fieldAddr rfl) ?_
  refine XT.q rfl rfl (Q.ld rfl rfl) ?_
  refine XT.q rfl rfl (Q.fieldAddr rfl) ?_
  refine XT.q rfl rfl (Q.ld rfl rfl) ?_
  refine XT.q rfl rfl (Q.ld rfl rfl) ?_
  refine XT.q rfl rfl (Q.sub rfl rfl ⟨by omega, by omega⟩) ?_
  refine XT.q rfl rfl (Q.ld rfl rfl) ?_
  refine XT.q rfl rfl (Q.nilCheck rfl) ?_
  refine XT.q rfl rfl (Q.fieldAddr rfl) ?_
  refine XT.q rfl rfl (Q.fieldAddr rfl) ?_
  refine XT.q rfl rfl (Q.ld rfl rfl) ?_
  refine XT.q rfl rfl (Q.ld rfl rfl) ?_
  refine XT.q rfl rfl (Q.nilCheck rfl) ?_
  refine XT.q rfl rfl (Q.fieldAddr rfl) ?_
  refine XT.q rfl rfl (Q.ld rfl rfl) ?_
  refine XT.q rfl rfl (Q.ld rfl rfl) ?_
  refine XT.ix rfl rfl rfl rfl (by omega) (by omega) fun i37 => ?_
  refine XT.q rfl rfl (Q.ldE rfl (by first | assumption | omega) rfl) ?_
  refine XT.q rfl rfl (Q.sub rfl rfl ⟨by omega, by omega⟩) ?_
  refine XT.q rfl rfl (Q.min3 rfl rfl rfl) ?_
  refine XT.q rfl rfl (Q.leq rfl rfl) ?_
  refine XT.done ?_
  refine XK.if rfl (fun c0 => ?_) (fun c0 => ?_)
  · have _t0 := True.intro
    have hkc : k < cntC d (base.getD hour default) e := by unfold cntC highC; omega
    have cr : -10 ≤ c ∧ c ≤ 10 ∧ 0 ≤ e + c ∧ e + c ≤ 10 := by unfold lowC at hc; omega
    refine XK.skip ?_
    refine XK.seq ?_
    refine XK.block ?_
    refine XK.seq ?_
    refine XK.drawn [0, 1, 2, 3, 4, 5, 6, 7, 8, 9] [b1, b3] [] (.q 0 (.q 1 (.q 2 (.q 3 (.q 4 (.q 5 (.q 6 (.q 7 (.q 8 (.q 9 .done)))))))))) Tryz.mixed rfl (by kernel_rfl) ?_
    refine XT.q rfl rfl (Q.ld rfl rfl) ?_
    refine XT.q rfl rfl (Q.nilCheck rfl) ?_
    refine XT.q rfl rfl (Q.fieldAddr rfl) ?_
    refine XT.q rfl rfl (Q.ld rfl rfl) ?_
    refine XT.q rfl rfl (Q.ld rfl rfl) ?_
    refine XT.ix rfl rfl rfl rfl (by omega) (by omega) fun i49 => ?_
    refine XT.q rfl rfl (Q.ldE rfl (by first | assumption | omega) rfl) ?_
    refine XT.q rfl rfl (Q.move rfl) ?_
    refine XT.q rfl rfl (Q.add rfl rfl ⟨by omega, by omega⟩) ?_
    refine XT.q rfl rfl (Q.assign rfl) ?_
    refine XT.done ?_
    refine XK.seq ?_
    refine XK.drawn [0, 1, 2, 3, 4, 5, 6, 7, 8, 9, 10, 12, 13, 14, 15, 16, 17, 18, 19, 20, 22, 24] [b1, b3, b2, b4] [] (.q 0 (.q 1 (.q 2 (.q 3 (.q 4 (.q 5 (.q 6 (.q 7 (.q 8 (.q 9 (.q 10 (.q 12 (.q 13 (.q 14 (.q 15 (.q 16 (.q 17 (.q 18 (.q 19 (.q 20 (.br 11 true (.br 21 true (.q 22 (.br 23 true (.q 24 .done) .stop)) .stop) .stop))))))))))))))))))))) Tryz.mixed rfl (by kernel_rfl) ?_
    refine XT.q rfl rfl (Q.move rfl) ?_
    refine XT.q rfl rfl (Q.move rfl) ?_
    refine XT.q rfl rfl (Q.ld rfl rfl) ?_
    refine XT.q rfl rfl (Q.ld rfl rfl) ?_
    refine XT.q rfl rfl (Q.add rfl rfl ⟨by omega, by omega⟩) ?_
    refine XT.q rfl rfl (Q.ld rfl rfl) ?_
    refine XT.q rfl rfl (Q.move rfl) ?_
    refine XT.q rfl rfl (Q.add rfl rfl ⟨by omega, by omega⟩) ?_
    refine XT.q rfl rfl (Q.ld rfl rfl) ?_
    refine XT.q rfl rfl (Q.move rfl) ?_
    refine XT.q rfl rfl (Q.max rfl rfl) ?_
    refine XT.q rfl rfl (Q.ld rfl rfl) ?_
    refine XT.q rfl rfl (Q.nilCheck rfl) ?_
    refine XT.q rfl rfl (Q.fieldAddr rfl) ?_
    refine XT.q rfl rfl (Q.fieldAddr rfl) ?_
    refine XT.q rfl rfl (Q.ld rfl rfl) ?_
    refine XT.q rfl rfl (Q.ld rfl rfl) ?_
    refine XT.ix rfl rfl rfl rfl (by omega) (by omega) fun i71 => ?_
    refine XT.q rfl rfl (Q.ldEA [_, _, _, _, _, _] rfl (by first | assumption | omega) rfl rfl) ?_
    refine XT.q rfl rfl (Q.move rfl) ?_
    refine XT.call rfl rfl Tryz.call60 rfl rfl rfl (at_spec d vh vj vb vv ok b ((hour : Int) + 1) (e + c) (max m (base.getD hour default + c)) (by omega) (by omega) (by omega)) (fun v64 s64 R64 => ?_) XT.stop
    obtain ⟨rfl, rfl⟩ := R64
    dsimp only [List.cons_append, List.nil_append]
    refine ⟨inferInstance, ?_⟩
    refine XT.call rfl rfl Tryz.call86 rfl rfl rfl (price_spec (d.hours.getD hour default) hk (base.getD hour default + c) (by omega) (by omega)) (fun v74 s74 R74 => ?_) XT.stop
    obtain ⟨rfl, rfl⟩ := R74
    dsimp only [List.cons_append, List.nil_append]
    refine ⟨inferInstance, ?_⟩
    refine XT.q rfl rfl (Q.build [_, _] (.c 0 1 rfl rfl rfl (.c 1 1 rfl rfl rfl (.n _)))) ?_
    subst hc
    refine XT.vcall rfl rfl rfl rfl (hcall k hkc q1 hQ) (fun v76 s76 R76 => ?_) XT.stop
    obtain ⟨bb, q2, rfl, rfl, hT, hF⟩ := R76
    dsimp only [List.cons_append, List.nil_append]
    refine ⟨inferInstance, ?_⟩
    refine XT.q rfl rfl (Q.not rfl) ?_
    refine XT.done ?_
    refine XK.if rfl (fun c1 => ?_) (fun c1 => ?_)
    · have _t1 := True.intro
      refine XK.rt [q2] Tryz.func102 Tryz.results102 (.n) ?_
      exact ⟨q2, rfl, .inr (hF (by cases bb <;> simp_all))⟩
    · have _t1 := True.intro
      refine XK.skip ?_
      refine XK.inBlock ?_
      refine XK.region rfl ?_
      refine XO.q (Q.move rfl) ?_
      refine XO.q (Q.add rfl rfl ⟨by omega, by omega⟩) ?_
      refine XO.q (Q.assign rfl) ?_
      refine XO.done ?_
      exact ih0 (k + 1, _, q2) _ _ ⟨by dsimp only; omega, by dsimp only; omega, hT (by cases bb <;> simp_all)⟩ (by first | omega | (dsimp only; omega)) (.c rfl (.base 121 rfl rfl)) inferInstance
  · have _t0 := True.intro
    refine XK.exit rfl ?_
    refine XK.fn [q1] Tryz.func102 Tryz.results102 (.n) ?_
    have hke : k = cntC d (base.getD hour default) e := by unfold cntC highC at hk2 ⊢; omega
    rw [hke] at hQ
    exact ⟨q1, rfl, .inl hQ⟩
end Go.X
