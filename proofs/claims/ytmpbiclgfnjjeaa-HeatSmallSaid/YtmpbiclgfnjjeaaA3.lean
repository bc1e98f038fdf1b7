/- A part of the proof: a small program logic, plain laws and contracts of functions, each proved by a walk through its operations. No condition but those that stand in each theorem. -/
import Derived.Test.YtmpbiclgfnjjeaaA2
import Derived.KernelRfl
import Derived.Test.YtmpbiclgfnjjeaaProg
/- A region that draws its order over operations that have nothing to do with each other: each part is proved alone. No condition. -/
set_option linter.unusedSimpArgs false
set_option linter.unusedVariables false
namespace Go.X
def depsOf (ops : Array Oper) (i : Nat) : List Nat := match ops[i]? with
  | some x => (x.after.toList.filter fun e => Region.binds .any e).map (·.on)
  | none => []
def rdyC (ops : Array Oper) (L0 : Array Bool) (dn : List Nat) (i : Nat) : Bool := !dn.contains i && (depsOf ops i).all fun j => L0.getD j false || dn.contains j
def okC (ops : Array Oper) (L0 : Array Bool) (C : List Nat) : Plan → List Nat → List Nat → Bool
  | .done, dn, _ => C.all dn.contains
  | .q _ _, _, _ => false
  | .br i _ t u, dn, acc => C.contains i && rdyC ops L0 dn i && okC ops L0 C t (i :: dn) [] && okC ops L0 C u dn (i :: acc)
  | .stop, dn, acc => !acc.isEmpty && C.all fun i => !rdyC ops L0 dn i || acc.contains i
def alts : Plan → List (Nat × Plan)
  | .br i _ t u => (i, t) :: alts u
  | _ => []
def cdepth : Plan → Nat
  | .br _ _ t u => max (cdepth t + 1) (cdepth u)
  | _ => 0
theorem okC_alts {ops : Array Oper} {L0 : Array Bool} {C : List Nat} : ∀ (p : Plan) (dn acc : List Nat), okC ops L0 C p dn acc = true → (∀ i ∈ acc, rdyC ops L0 dn i = true) →
    (p = .done ∧ ∀ i ∈ C, i ∈ dn) ∨ ((∀ i ∈ C, rdyC ops L0 dn i = true → i ∈ acc ∨ ∃ t, (i, t) ∈ alts p) ∧ (∀ i t, (i, t) ∈ alts p → i ∈ C ∧ rdyC ops L0 dn i = true ∧ okC ops L0 C t (i :: dn) [] = true ∧ cdepth t + 1 ≤ cdepth p) ∧ (acc = [] → alts p ≠ []))
  | .done, dn, acc, h, _ => .inl ⟨rfl, fun i hi => by
    simp only [okC, List.all_eq_true] at h
    simpa using h i hi⟩
  | .q _ _, dn, acc, h, _ => by simp [okC] at h
  | .stop, dn, acc, h, _ => by
    simp only [okC, Bool.and_eq_true, List.all_eq_true] at h
    refine .inr ⟨fun i hi hr => ?_, fun i t hm => absurd hm List.not_mem_nil, fun ha => ?_⟩
    · have := h.2 i hi
      rw [hr] at this
      exact .inl (by simpa using this)
    · subst ha
      simp at h
  | .br i b t u, dn, acc, h, hacc => by
    simp only [okC, Bool.and_eq_true] at h
    obtain ⟨⟨⟨h1, h2⟩, h3⟩, h4⟩ := h
    rcases okC_alts u dn (i :: acc) h4 (fun j hj => by
      rcases List.mem_cons.1 hj with rfl | hj
      · exact h2
      · exact hacc j hj) with ⟨rfl, hall⟩ | ⟨a1, a2, a3⟩
    · exfalso
      have hi := hall i (by simpa using h1)
      unfold rdyC at h2
      rw [Bool.and_eq_true] at h2
      have := h2.1
      simp [hi] at this
    · refine .inr ⟨fun j hj hr => ?_, fun j tt hm => ?_, fun _ => by simp [alts]⟩
      · rcases a1 j hj hr with h | ⟨tt, h⟩
        · rcases List.mem_cons.1 h with rfl | h
          · exact .inr ⟨t, List.mem_cons_self⟩
          · exact .inl h
        · exact .inr ⟨tt, List.mem_cons_of_mem _ h⟩
      · rcases List.mem_cons.1 hm with h | h
        · cases h
          exact ⟨by simpa using h1, h2, h3, by rw [cdepth]; omega⟩
        · obtain ⟨b1, b2, b3, b4⟩ := a2 j tt h
          exact ⟨b1, b2, b3, by rw [cdepth]; omega⟩
/-! ### the parts -/
def CT (c : Cx) (ops : Array Oper) (e : Env) (r : List PHeap) (post : Env → List PHeap → Prop) : Plan → Env → List PHeap → Prop
  | .done, el, ol => post el ol
  | .q _ _, _, _ => False
  | .br i _ t u, el, ol => (∃ x Ψ, ops[i]? = some x ∧ okOper c.N x = true ∧ Stp c.P ops x (el ++ e) ol (c.B :: r) Ψ ∧ ∀ v o', Ψ v o' → CT c ops e r post t (puts el x.dst v) o') ∧ CT c ops e r post u el ol
  | .stop, _, _ => True
theorem CT.alt {c : Cx} {ops : Array Oper} {e : Env} {r : List PHeap} {post : Env → List PHeap → Prop} {el : Env} {ol : List PHeap} {i : Nat} {t : Plan} : ∀ {p : Plan}, CT c ops e r post p el ol → (i, t) ∈ alts p →
    ∃ x Ψ, ops[i]? = some x ∧ okOper c.N x = true ∧ Stp c.P ops x (el ++ e) ol (c.B :: r) Ψ ∧ ∀ v o', Ψ v o' → CT c ops e r post t (puts el x.dst v) o'
  | .done, _, hm => by cases hm
  | .q _ _, _, hm => by cases hm
  | .stop, _, hm => by cases hm
  | .br j b tt u, h, hm => by
    rcases List.mem_cons.1 hm with hm | hm
    · cases hm; exact h.1
    · exact CT.alt h.2 hm
/-- A part: its operations, the last one, what it may do still, what is done, what it knows and owns. -/
structure CS where
  C : List Nat
  z : Nat
  p : Plan
  dn : List Nat
  el : Env
  ol : List PHeap
  post : Env → List PHeap → Prop
def dstO (ops : Array Oper) (i : Nat) : Option Tmp := (ops[i]?).bind (·.dst)
def dstsOf (ops : Array Oper) (C : List Nat) : List Nat := C.filterMap (dstO ops)
def clo (ops : Array Oper) (C : List Nat) : Nat → List Nat → List Nat
  | 0, s => s
  | k + 1, s => clo ops C k (s ++ (s.flatMap (depsOf ops)).filter (fun j => C.contains j))
theorem clo_in {ops : Array Oper} {L0 : Array Bool} {C dn : List Nat} (hC : ∀ j ∈ C, L0.getD j false = false) (hcl : ∀ i ∈ dn, ∀ j ∈ depsOf ops i, L0.getD j false = true ∨ j ∈ dn) : ∀ (k : Nat) (s : List Nat), (∀ j ∈ s, j ∈ dn) → ∀ j ∈ clo ops C k s, j ∈ dn
  | 0, s, h, j, hj => h j hj
  | k + 1, s, h, j, hj => clo_in hC hcl k _ (fun i hi => by
    rcases List.mem_append.1 hi with hi | hi
    · exact h i hi
    · obtain ⟨h1, h2⟩ := List.mem_filter.1 hi
      obtain ⟨q, hq, hqi⟩ := List.mem_flatMap.1 h1
      rcases hcl q (h q hq) i hqi with h3 | h3
      · rw [hC i (by simpa using h2)] at h3; cases h3
      · exact h3) j hj
def usesC (ops : Array Oper) (L0 : Array Bool) (C : List Nat) (z : Nat) : Bool := C.contains z && C.all fun i => Nat.blt i ops.size && !L0.getD i true && (clo ops C C.length [z]).contains i && (depsOf ops i).all fun j => L0.getD j false || C.contains j
def nodupB : List Nat → Bool
  | [] => true
  | a :: l => !l.contains a && nodupB l
theorem nodupB_iff : ∀ {l : List Nat}, nodupB l = true → l.Nodup
  | [], _ => List.nodup_nil
  | a :: l, h => by
    simp only [nodupB, Bool.and_eq_true] at h
    exact List.nodup_cons.2 ⟨by simpa using h.1, nodupB_iff h.2⟩
def netOk (ops : Array Oper) (L0 : Array Bool) (cs : List (List Nat × Nat × Plan)) : Bool :=
  (cs.all fun s => okC ops L0 s.1 s.2.2 [] [] && usesC ops L0 s.1 s.2.1) && nodupB (cs.flatMap (·.1)) && nodupB (dstsOf ops (cs.flatMap (·.1))) &&
  (List.range ops.size).all fun i => L0.getD i true || (cs.flatMap (·.1)).contains i || (depsOf ops i).any (fun j => !L0.getD j false && !(cs.flatMap (·.1)).contains j) || cs.all fun s => (depsOf ops i).contains s.2.1
/-- What holds of a part while the parts are run. -/
structure CSOk (c : Cx) (ops : Array Oper) (L0 : Array Bool) (U : List Nat) (e : Env) (r : List PHeap) (s : CS) : Prop where
  ok : okC ops L0 s.C s.p s.dn [] = true
  uses : usesC ops L0 s.C s.z = true
  sub : ∀ i ∈ s.dn, i ∈ s.C
  closed : ∀ i ∈ s.dn, ∀ j ∈ depsOf ops i, L0.getD j false = true ∨ j ∈ s.dn
  ct : CT c ops e r s.post s.p s.el s.ol
  far : ∀ d ∈ dstsOf ops U, d ∉ dstsOf ops s.C → find (s.el ++ e) d = none
theorem mem_depsOf {ops : Array Oper} {i j : Nat} {x : Oper} (hx : ops[i]? = some x) : j ∈ depsOf ops i ↔ ∃ e ∈ x.after, Region.binds .any e = true ∧ e.on = j := by
  unfold depsOf
  rw [hx]
  simp only [List.mem_map, List.mem_filter, Array.mem_toList_iff]
  constructor
  · rintro ⟨e, ⟨h1, h2⟩, h3⟩; exact ⟨e, h1, h2, h3⟩
  · rintro ⟨e, h1, h2, h3⟩; exact ⟨e, ⟨h1, h2⟩, h3⟩
theorem find_app {A B : Env} {t : Nat} {v : Value} (h : find (A ++ B) t = some v) : find A t = some v ∨ find B t = some v := by
  induction A with
  | nil => exact .inr h
  | cons p A ih =>
    obtain ⟨k, u⟩ := p
    simp only [List.cons_append, find] at h ⊢
    split at h
    · rename_i hb; exact .inl h
    · exact ih h
theorem find_left {A B : Env} {t : Nat} {v : Value} (h : find A t = some v) : find (A ++ B) t = some v := by
  induction A with
  | nil => cases h
  | cons p A ih =>
    obtain ⟨k, u⟩ := p
    simp only [List.cons_append, find] at h ⊢
    split at h
    · exact h
    · exact ih h
theorem ERel.far {e : Env} {a : Array Value} {d : Option Tmp} {v : Value} (h : ERel e a) (hf : ∀ t, d = some t → find e t = none) : ERel e (X.put a d v) := by
  cases d with
  | none => exact h
  | some d =>
    intro t u hu
    have hne : d ≠ t := by
      rintro rfl
      rw [hf d rfl] at hu; cases hu
    have := h t u hu
    simpa [X.put, Array.getElem?_setIfInBounds_ne hne] using this
def FinAll : List (Env → List PHeap → Prop) → (Env → List PHeap → Prop) → Prop
  | [], K => K [] []
  | p :: ps, K => ∀ el ol, p el ol → FinAll ps (fun e2 o2 => K (el ++ e2) (ol ++ o2))
theorem FinAll.app : ∀ (cs : List CS) (K : Env → List PHeap → Prop), (∀ s ∈ cs, s.post s.el s.ol) → FinAll (cs.map (·.post)) K → K (cs.flatMap (·.el)) (cs.flatMap (·.ol))
  | [], K, _, h => h
  | s :: cs, K, hp, h => by
    have := FinAll.app cs _ (fun x hx => hp x (List.mem_cons_of_mem _ hx)) (h s.el s.ol (hp s List.mem_cons_self))
    simpa using this
theorem split_mid {α β : Type} (f : α → List β) {cs : List α} {s : α} {pre suf : List α} (h : cs = pre ++ s :: suf) : cs.flatMap f = pre.flatMap f ++ (f s ++ suf.flatMap f) := by
  rw [h, List.flatMap_append, List.flatMap_cons]

theorem mem_flat {cs : List CS} {i : Nat} : i ∈ cs.flatMap (·.C) ↔ ∃ s ∈ cs, i ∈ s.C := List.mem_flatMap
/-- Where two operations of a list without repeats write one variable, they are one. -/
theorem dst_one {ops : Array Oper} : ∀ {U : List Nat}, (dstsOf ops U).Nodup → ∀ {i j d : Nat}, i ∈ U → j ∈ U → dstO ops i = some d → dstO ops j = some d → i = j
  | [], _, _, _, _, hi, _, _, _ => by cases hi
  | a :: U, hn, i, j, d, hi, hj, h1, h2 => by
    have key : ∀ x, x ∈ U → dstO ops x = some d → dstO ops a = some d → False := fun x hx hx2 ha => by
      unfold dstsOf at hn
      rw [List.filterMap_cons_some ha] at hn
      exact (List.nodup_cons.1 hn).1 (List.mem_filterMap.2 ⟨x, hx, hx2⟩)
    have hn' : (dstsOf ops U).Nodup := by
      unfold dstsOf at hn ⊢
      cases ha : dstO ops a with
      | none => rwa [List.filterMap_cons_none ha] at hn
      | some y => rw [List.filterMap_cons_some ha] at hn; exact (List.nodup_cons.1 hn).2
    rcases List.mem_cons.1 hi with h3 | h3
    · rcases List.mem_cons.1 hj with h4 | h4
      · rw [h3, h4]
      · rw [h3] at h1; exact (key j h4 h2 h1).elim
    · rcases List.mem_cons.1 hj with h4 | h4
      · rw [h4] at h2; exact (key i h3 h1 h2).elim
      · exact dst_one hn' h3 h4 h1 h2
theorem nodup_mid {pre suf : List CS} {s s2 : CS} {i : Nat} (hn : ((pre ++ s :: suf).flatMap (·.C)).Nodup) (h1 : i ∈ s.C) (h2 : s2 ∈ pre ∨ s2 ∈ suf) : i ∉ s2.C := fun hc => by
  rw [List.flatMap_append, List.flatMap_cons, List.nodup_append] at hn
  obtain ⟨_, hb, hx⟩ := hn
  rw [List.nodup_append] at hb
  rcases h2 with h2 | h2
  · exact hx i (mem_flat.2 ⟨s2, h2, hc⟩) i (List.mem_append_left _ h1) rfl
  · exact hb.2.2 i h1 i (mem_flat.2 ⟨s2, h2, hc⟩) rfl
section
variable {c : Cx} {ops : Array Oper} {L0 : Array Bool} {e : Env} {o f r : List PHeap} {fl : List Nat} {D : PHeap}
/-- What is listed is what was at the start and what the parts have done. -/
def Lst (L0 : Array Bool) (cs : List CS) (l : Array Bool) (n : Nat) : Prop := l.size = n ∧ ∀ j, l.getD j false = true ↔ (L0.getD j false = true ∨ ∃ s ∈ cs, j ∈ s.dn)
theorem getD_lt {l : Array Bool} {j : Nat} (h : j < l.size) : l.getD j true = l.getD j false := by
  simp [h]
theorem net_ready {U : List Nat} {cs : List CS} (hcs : ∀ s ∈ cs, CSOk c ops L0 U e (o ++ r) s) (hU : U = cs.flatMap (·.C)) (hn : U.Nodup)
    (hrest : ∀ i, i < ops.size → L0.getD i true = true ∨ i ∈ U ∨ (∃ j ∈ depsOf ops i, L0.getD j false = false ∧ j ∉ U) ∨ ∀ s ∈ cs, s.z ∈ depsOf ops i)
    {l : Array Bool} (hl : Lst L0 cs l ops.size) (hsz : L0.size = ops.size) {i : Nat} (hi : i ∈ Region.ready .any ops l) (hinc : ∃ s ∈ cs, s.p ≠ .done) :
    ∃ pre s suf, cs = pre ++ s :: suf ∧ i ∈ s.C ∧ rdyC ops L0 s.dn i = true := by
  obtain ⟨h0, x, hx, hall⟩ := mem_ready.1 hi
  have hlt : i < ops.size := (Array.getElem?_eq_some_iff.1 hx).1
  have hun : l.getD i false = false := by rw [← getD_lt (by rw [hl.1]; exact hlt)]; exact h0
  have hdep : ∀ j ∈ depsOf ops i, l.getD j false = true := fun j hj => by
    obtain ⟨ed, he, hb, rfl⟩ := (mem_depsOf hx).1 hj
    exact hall ed he hb
  have hL : L0.getD i true = false := by
    rw [getD_lt (by rw [hsz]; exact hlt)]
    cases hc : L0.getD i false with
    | false => rfl
    | true => rw [(hl.2 i).2 (.inl hc)] at hun; cases hun
  rcases hrest i hlt with h | h | ⟨j, hj, hj0, hjU⟩ | h
  · rw [h] at hL; cases hL
  · rw [hU] at h
    obtain ⟨s, hs, hiC⟩ := mem_flat.1 h
    obtain ⟨pre, suf, hcs2⟩ := List.append_of_mem hs
    refine ⟨pre, s, suf, hcs2, hiC, ?_⟩
    have so := hcs s hs
    have us := so.uses
    simp only [usesC, Bool.and_eq_true, List.all_eq_true] at us
    have hA := (us.2 i hiC).2
    unfold rdyC
    simp only [Bool.and_eq_true, List.all_eq_true, Bool.not_eq_true', Bool.or_eq_true] at hA ⊢
    refine ⟨?_, fun j hj => ?_⟩
    · cases hc : s.dn.contains i with
      | false => rfl
      | true => rw [(hl.2 i).2 (.inr ⟨s, hs, by simpa using hc⟩)] at hun; cases hun
    · rcases (hl.2 j).1 (hdep j hj) with h1 | ⟨s2, hs2, hd⟩
      · exact .inl h1
      · rcases hA j hj with h1 | h1
        · exact .inl h1
        · have hjC : j ∈ s.C := by simpa using h1
          have hj2 := (hcs s2 hs2).sub j hd
          rw [hcs2] at hs2
          rcases List.mem_append.1 hs2 with h2 | h2
          · exact absurd hj2 (nodup_mid (by rw [← hcs2, ← hU]; exact hn) hjC (.inl h2))
          · rcases List.mem_cons.1 h2 with rfl | h2
            · right; simpa using hd
            · exact absurd hj2 (nodup_mid (by rw [← hcs2, ← hU]; exact hn) hjC (.inr h2))
  · exfalso
    have := hdep j hj
    rcases (hl.2 j).1 this with h1 | ⟨s, hs, hd⟩
    · rw [h1] at hj0; cases hj0
    · exact hjU (by rw [hU]; exact mem_flat.2 ⟨s, hs, (hcs s hs).sub j hd⟩)
  · exfalso
    obtain ⟨s, hs, hne⟩ := hinc
    have so := hcs s hs
    have us := so.uses
    simp only [usesC, Bool.and_eq_true, List.all_eq_true] at us
    have hzC : s.z ∈ s.C := by simpa using us.1
    have hz := hdep s.z (h s hs)
    have hz0 : L0.getD s.z false = false := by
      have h1 := (us.2 s.z hzC).1.1.2
      have h2 := (us.2 s.z hzC).1.1.1
      rw [Nat.blt_eq] at h2
      rw [← getD_lt (by rw [hsz]; exact h2)]
      simpa using h1
    have hzd : s.z ∈ s.dn := by
      rcases (hl.2 s.z).1 hz with h1 | ⟨s2, hs2, hd⟩
      · rw [h1] at hz0; cases hz0
      · obtain ⟨pre, suf, hcs2⟩ := List.append_of_mem hs
        have hj2 := (hcs s2 hs2).sub s.z hd
        rw [hcs2] at hs2
        rcases List.mem_append.1 hs2 with h2 | h2
        · exact absurd hj2 (nodup_mid (by rw [← hcs2, ← hU]; exact hn) hzC (.inl h2))
        · rcases List.mem_cons.1 h2 with rfl | h2
          · exact hd
          · exact absurd hj2 (nodup_mid (by rw [← hcs2, ← hU]; exact hn) hzC (.inr h2))
    have hC0 : ∀ k ∈ s.C, L0.getD k false = false := fun k hk => by
      have h3 := (us.2 k hk).1.1.2
      have h4 := (us.2 k hk).1.1.1
      rw [Nat.blt_eq] at h4
      rw [← getD_lt (by rw [hsz]; exact h4)]
      simpa using h3
    have hfull : ∀ k ∈ s.C, k ∈ s.dn := fun k hk =>
      clo_in hC0 so.closed _ [s.z] (fun j hj => by rw [List.mem_singleton] at hj; rw [hj]; exact hzd) k (by simpa using (us.2 k hk).1.2)
    rcases okC_alts s.p s.dn [] so.ok (fun i hi => by cases hi) with ⟨hp, _⟩ | ⟨_, h2, h3⟩
    · exact hne hp
    · have h4 := h3 rfl
      cases ha : alts s.p with
      | nil => exact h4 ha
      | cons q qs =>
        obtain ⟨k, t⟩ := q
        obtain ⟨b1, b2, _⟩ := h2 k t (by rw [ha]; exact List.mem_cons_self)
        have := hfull k b1
        unfold rdyC at b2
        rw [Bool.and_eq_true] at b2
        have b3 := b2.1
        simp [this] at b3

theorem Sep.toRead {D : PHeap} {ol o r : List PHeap} {B : PHeap} {w : World} (s : Sep (D :: (ol ++ o)) (B :: r) w) : Sep (D :: ol) (B :: (o ++ r)) w where
  pw := by
    have h := List.pairwise_cons.1 s.pw
    exact List.pairwise_cons.2 ⟨fun g hg => h.1 g (List.mem_append_left _ hg), (List.pairwise_append.1 h.2).1⟩
  dr := fun h hh g hg => by
    have hp := List.pairwise_cons.1 s.pw
    rcases List.mem_cons.1 hg with rfl | hg
    · refine s.dr h ?_ g List.mem_cons_self
      rcases List.mem_cons.1 hh with rfl | hh
      · exact List.mem_cons_self
      · exact List.mem_cons_of_mem _ (List.mem_append_left _ hh)
    · rcases List.mem_append.1 hg with hg | hg
      · rcases List.mem_cons.1 hh with rfl | hh
        · exact hp.1 g (List.mem_append_right _ hg)
        · exact (List.pairwise_append.1 hp.2).2.2 h hh g hg
      · refine s.dr h ?_ g (List.mem_cons_of_mem _ hg)
        rcases List.mem_cons.1 hh with rfl | hh
        · exact List.mem_cons_self
        · exact List.mem_cons_of_mem _ (List.mem_append_left _ hh)
  so := fun h hh => s.so h (by
    rcases List.mem_cons.1 hh with rfl | hh
    · exact List.mem_cons_self
    · exact List.mem_cons_of_mem _ (List.mem_append_left _ hh))
  sr := fun g hg => by
    rcases List.mem_cons.1 hg with rfl | hg
    · exact s.sr g List.mem_cons_self
    · rcases List.mem_append.1 hg with hg | hg
      · exact s.so g (List.mem_cons_of_mem _ (List.mem_append_right _ hg))
      · exact s.sr g (List.mem_cons_of_mem _ hg)
  no := fun h hh => s.no h (by
    rcases List.mem_cons.1 hh with rfl | hh
    · exact List.mem_cons_self
    · exact List.mem_cons_of_mem _ (List.mem_append_left _ hh))
  sm := fun g hg m hm => by
    rcases List.mem_cons.1 hg with rfl | hg
    · exact s.sm g List.mem_cons_self m hm
    · rcases List.mem_append.1 hg with hg | hg
      · rw [s.no g (List.mem_cons_of_mem _ (List.mem_append_right _ hg))] at hm; cases hm
      · exact s.sm g (List.mem_cons_of_mem _ hg) m hm
theorem Sep.toOwn {D : PHeap} {ol o r : List PHeap} {B : PHeap} {w : World} (s : Sep (D :: ol) (B :: (o ++ r)) w) (hpw : (D :: o).Pairwise Disj) (hno : ∀ h ∈ o, h.m = none) (hdr : ∀ h ∈ o, ∀ g ∈ B :: r, Disj h g) : Sep (D :: (ol ++ o)) (B :: r) w where
  pw := by
    have h := List.pairwise_cons.1 s.pw
    have h2 := List.pairwise_cons.1 hpw
    refine List.pairwise_cons.2 ⟨fun g hg => ?_, List.pairwise_append.2 ⟨h.2, h2.2, fun a ha b hb => s.dr a (List.mem_cons_of_mem _ ha) b (List.mem_cons_of_mem _ (List.mem_append_left _ hb))⟩⟩
    rcases List.mem_append.1 hg with hg | hg
    · exact h.1 g hg
    · exact h2.1 g hg
  dr := fun h hh g hg => by
    have hg' : g ∈ B :: (o ++ r) := by
      rcases List.mem_cons.1 hg with rfl | hg
      · exact List.mem_cons_self
      · exact List.mem_cons_of_mem _ (List.mem_append_right _ hg)
    rcases List.mem_cons.1 hh with rfl | hh
    · exact s.dr h List.mem_cons_self g hg'
    · rcases List.mem_append.1 hh with hh | hh
      · exact s.dr h (List.mem_cons_of_mem _ hh) g hg'
      · exact hdr h hh g hg
  so := fun h hh => by
    rcases List.mem_cons.1 hh with rfl | hh
    · exact s.so h List.mem_cons_self
    · rcases List.mem_append.1 hh with hh | hh
      · exact s.so h (List.mem_cons_of_mem _ hh)
      · exact s.sr h (List.mem_cons_of_mem _ (List.mem_append_left _ hh))
  sr := fun g hg => s.sr g (by
    rcases List.mem_cons.1 hg with rfl | hg
    · exact List.mem_cons_self
    · exact List.mem_cons_of_mem _ (List.mem_append_right _ hg))
  no := fun h hh => by
    rcases List.mem_cons.1 hh with rfl | hh
    · exact s.no h List.mem_cons_self
    · rcases List.mem_append.1 hh with hh | hh
      · exact s.no h (List.mem_cons_of_mem _ hh)
      · exact hno h hh
  sm := fun g hg => s.sm g (by
    rcases List.mem_cons.1 hg with rfl | hg
    · exact List.mem_cons_self
    · exact List.mem_cons_of_mem _ (List.mem_append_right _ hg))
theorem Stp.away {P : Program} {x : Oper} {e : Env} {ol r : List PHeap} {Ψ : Value → List PHeap → Prop} (s : Stp P ops x e ol r Ψ) {oth : List PHeap} {a : Array Value} {w : World} (he : ERel e a) (hs : Sep (oth ++ ol) r w) :
    Does P ops x a w fun v w' => ∃ o', Ψ v o' ∧ Sep (oth ++ o') r w' := by
  have pd : PD oth := ⟨(List.pairwise_append.1 hs.pw).1, fun h hh => hs.no h (List.mem_append_left _ hh)⟩
  have hj : Sep (X.join oth :: ol) r w := Sep.join hs
  refine (s (X.join oth) a w he hj).mono fun v w' ⟨o2, ⟨o', hΨ, hp⟩, h2⟩ => ⟨o', hΨ, Sep.split pd (h2.perm hp)⟩
def cdepths (cs : List CS) : Nat := (cs.map fun s => cdepth s.p).sum
theorem cdepths_mid {pre suf : List CS} {s : CS} : cdepths (pre ++ s :: suf) = cdepths pre + (cdepth s.p + cdepths suf) := by
  unfold cdepths
  rw [List.map_append, List.map_cons, List.sum_append, List.sum_cons]
theorem net_alt {cs : List CS} {U : List Nat} (hcs : ∀ s ∈ cs, CSOk c ops L0 U e (o ++ r) s) {s : CS} (hs : s ∈ cs) (hne : s.p ≠ .done) : ∃ k t, (k, t) ∈ alts s.p ∧ k ∈ s.C ∧ rdyC ops L0 s.dn k = true ∧ cdepth t + 1 ≤ cdepth s.p := by
  have so := hcs s hs
  rcases okC_alts s.p s.dn [] so.ok (fun i hi => by cases hi) with ⟨hp, _⟩ | ⟨_, h2, h3⟩
  · exact absurd hp hne
  · cases ha : alts s.p with
    | nil => exact absurd ha (h3 rfl)
    | cons q qs =>
      obtain ⟨k, t⟩ := q
      obtain ⟨b1, b2, _, b4⟩ := h2 k t (by rw [ha]; exact List.mem_cons_self)
      exact ⟨k, t, List.mem_cons_self, b1, b2, b4⟩
theorem net_more {cs : List CS} {U : List Nat} (hcs : ∀ s ∈ cs, CSOk c ops L0 U e (o ++ r) s) {s : CS} (hs : s ∈ cs) (hne : s.p ≠ .done) : 1 ≤ cdepths cs := by
  obtain ⟨k, t, _, _, _, h⟩ := net_alt hcs hs hne
  obtain ⟨pre, suf, hcs2⟩ := List.append_of_mem hs
  rw [hcs2, cdepths_mid]; omega
theorem net_some {cs : List CS} {U : List Nat} (hcs : ∀ s ∈ cs, CSOk c ops L0 U e (o ++ r) s) (hU : U = cs.flatMap (·.C)) (hn : U.Nodup) {l : Array Bool} (hl : Lst L0 cs l ops.size) (hsz : L0.size = ops.size) {s : CS} (hs : s ∈ cs) (hne : s.p ≠ .done) :
    ∃ k, k ∈ Region.ready .any ops l := by
  obtain ⟨k, t, hm, hkC, hrd, _⟩ := net_alt hcs hs hne
  have so := hcs s hs
  obtain ⟨x, Ψ, hx, _⟩ := so.ct.alt hm
  have hlt : k < ops.size := (Array.getElem?_eq_some_iff.1 hx).1
  have us := so.uses
  simp only [usesC, Bool.and_eq_true, List.all_eq_true] at us
  have hk0 := (us.2 k hkC).1.1.2
  unfold rdyC at hrd
  simp only [Bool.and_eq_true, List.all_eq_true, Bool.or_eq_true] at hrd
  refine ⟨k, mem_ready.2 ⟨?_, x, hx, fun ed he hb => ?_⟩⟩
  · rw [getD_lt (by rw [hl.1]; exact hlt)]
    cases hc : l.getD k false with
    | false => rfl
    | true =>
      exfalso
      rcases (hl.2 k).1 hc with h1 | ⟨s2, hs2, hd⟩
      · rw [getD_lt (by rw [hsz]; exact hlt), h1] at hk0; cases hk0
      · have hk2 := (hcs s2 hs2).sub k hd
        obtain ⟨pre, suf, hcs2⟩ := List.append_of_mem hs
        rw [hcs2] at hs2
        rcases List.mem_append.1 hs2 with h2 | h2
        · exact nodup_mid (by rw [← hcs2, ← hU]; exact hn) hkC (.inl h2) hk2
        · rcases List.mem_cons.1 h2 with rfl | h2
          · have b3 := hrd.1
            simp [hd] at b3
          · exact nodup_mid (by rw [← hcs2, ← hU]; exact hn) hkC (.inr h2) hk2
  · refine (hl.2 _).2 ?_
    rcases hrd.2 ed.on ((mem_depsOf hx).2 ⟨ed, he, hb, rfl⟩) with h1 | h1
    · exact .inl h1
    · exact .inr ⟨s, hs, by simpa using h1⟩
theorem ERel.flat {cs : List CS} {a : Array Value} (hes : ∀ s ∈ cs, ERel (s.el ++ e) a) (he : ERel e a) : ERel (cs.flatMap (·.el) ++ e) a := by
  induction cs with
  | nil => exact he
  | cons s cs ih =>
    intro t v h
    rw [List.flatMap_cons, List.append_assoc] at h
    rcases find_app h with h1 | h1
    · exact hes s List.mem_cons_self t v (find_left h1)
    · exact ih (fun x hx => hes x (List.mem_cons_of_mem _ hx)) t v h1
theorem net_end {U : List Nat} {Q : Array Value → World → Prop} {K : Env → List PHeap → Prop} {posts : List (Env → List PHeap → Prop)} {T n : Nat} {cs : List CS} {l : Array Bool} {a : Array Value} {w : World} (hcs : ∀ s ∈ cs, CSOk c ops L0 U e (o ++ r) s) (hU : cs.flatMap (·.C) = U) (hp : cs.map (·.post) = posts)
    (hl : Lst L0 cs l ops.size) (ha : a.size = c.N) (hes : ∀ s ∈ cs, ERel (s.el ++ e) a) (he : ERel e a) (hs : Sep (D :: cs.flatMap (·.ol)) (c.B :: (o ++ r)) w) (hT : cdepths cs + T ≤ n) (hall : ∀ s ∈ cs, s.p = .done)
    (hpw : (D :: o).Pairwise Disj) (hno : ∀ h ∈ o, h.m = none) (hdr : ∀ h ∈ o, ∀ g ∈ c.B :: r, Disj h g) (hK : FinAll posts K)
    (hfin : ∀ n l a w el ol, K el ol → T ≤ n → l.size = ops.size → (∀ j, l.getD j false = true ↔ (L0.getD j false = true ∨ j ∈ U)) → a.size = c.N → ERel (el ++ e) a → Sep (D :: (ol ++ o)) (c.B :: r) w → Any c.P ops (Sf f (c.B :: r)) fl Q n l a w) :
    Any c.P ops (Sf f (c.B :: r)) fl Q n l a w := by
  have hposts : ∀ s ∈ cs, s.post s.el s.ol := fun s hs => by
    have := (hcs s hs).ct
    rw [hall s hs] at this
    exact this
  have hk := FinAll.app cs K hposts (by rw [hp]; exact hK)
  refine hfin n l a w _ _ hk (by omega) hl.1 (fun j => ?_) ha (ERel.flat hes he) (hs.toOwn hpw hno hdr)
  rw [hl.2 j]
  constructor
  · rintro (h | ⟨s, hs, hj⟩)
    · exact .inl h
    · exact .inr (by rw [← hU]; exact mem_flat.2 ⟨s, hs, (hcs s hs).sub j hj⟩)
  · rintro (h | h)
    · exact .inl h
    · right
      rw [← hU] at h
      obtain ⟨s, hs, hj⟩ := mem_flat.1 h
      refine ⟨s, hs, ?_⟩
      rcases okC_alts s.p s.dn [] (hcs s hs).ok (fun i hi => by cases hi) with ⟨_, hf⟩ | ⟨_, _, h3⟩
      · exact hf j hj
      · exact absurd (by rw [hall s hs]; rfl) (h3 rfl)
theorem net_sound {U zs : List Nat} {Q : Array Value → World → Prop} {K : Env → List PHeap → Prop} {posts : List (Env → List PHeap → Prop)} {T : Nat} (hn : U.Nodup) (hdn : (dstsOf ops U).Nodup) (hkill : ∀ d ∈ dstsOf ops U, find e d = none) (hsz : L0.size = ops.size)
    (hrest : ∀ i, i < ops.size → L0.getD i true = true ∨ i ∈ U ∨ (∃ j ∈ depsOf ops i, L0.getD j false = false ∧ j ∉ U) ∨ ∀ z ∈ zs, z ∈ depsOf ops i)
    (hf : ∀ h ∈ f, h ∈ o) (hpw : (D :: o).Pairwise Disj) (hno : ∀ h ∈ o, h.m = none) (hdr : ∀ h ∈ o, ∀ g ∈ c.B :: r, Disj h g) (hK : FinAll posts K)
    (hfin : ∀ n l a w el ol, K el ol → T ≤ n → l.size = ops.size → (∀ j, l.getD j false = true ↔ (L0.getD j false = true ∨ j ∈ U)) → a.size = c.N → ERel (el ++ e) a → Sep (D :: (ol ++ o)) (c.B :: r) w → Any c.P ops (Sf f (c.B :: r)) fl Q n l a w) :
    ∀ (n : Nat) (cs : List CS) (l : Array Bool) (a : Array Value) (w : World), (∀ s ∈ cs, CSOk c ops L0 U e (o ++ r) s) → cs.flatMap (·.C) = U → cs.map (·.z) = zs → cs.map (·.post) = posts → Lst L0 cs l ops.size → a.size = c.N →
      (∀ s ∈ cs, ERel (s.el ++ e) a) → ERel e a → Sep (D :: cs.flatMap (·.ol)) (c.B :: (o ++ r)) w → cdepths cs + T ≤ n → Any c.P ops (Sf f (c.B :: r)) fl Q n l a w := by
  intro n
  induction n with
  | zero =>
    intro cs l a w hcs hU hz hp hl ha hes he hs hT
    by_cases hall : ∀ s ∈ cs, s.p = .done
    · exact net_end hcs hU hp hl ha hes he hs hT hall hpw hno hdr hK hfin
    · exfalso
      simp only [Classical.not_forall] at hall
      obtain ⟨s, hs1, hne⟩ := hall
      have := net_more hcs hs1 hne
      omega
  | succ n ih =>
    intro cs l a w hcs hU hz hp hl ha hes he hs hT
    by_cases hall : ∀ s ∈ cs, s.p = .done
    · exact net_end hcs hU hp hl ha hes he hs hT hall hpw hno hdr hK hfin
    · simp only [Classical.not_forall] at hall
      obtain ⟨s0, hs0, hne0⟩ := hall
      refine ⟨fun hnil => ?_, fun i hi x hx => ?_⟩
      · exfalso
        obtain ⟨k, hk⟩ := net_some hcs hU.symm hn hl hsz hs0 hne0
        rw [hnil] at hk; cases hk
      · obtain ⟨pre, s, suf, hcs2, hiC, hrd⟩ := net_ready hcs hU.symm hn (fun i hi => by
          rcases hrest i hi with h | h | h | h
          · exact .inl h
          · exact .inr (.inl h)
          · exact .inr (.inr (.inl h))
          · exact .inr (.inr (.inr fun s hs => h s.z (by rw [← hz]; exact List.mem_map.2 ⟨s, hs, rfl⟩)))) hl hsz hi ⟨s0, hs0, hne0⟩
        have hsm : s ∈ cs := by rw [hcs2]; simp
        have so := hcs s hsm
        rcases okC_alts s.p s.dn [] so.ok (fun i hi => by cases hi) with ⟨hpd, hfull⟩ | ⟨h1, h2, _⟩
        · exfalso
          have := hfull i hiC
          unfold rdyC at hrd
          rw [Bool.and_eq_true] at hrd
          have b3 := hrd.1
          simp [this] at b3
        · obtain ⟨t, ht⟩ := (h1 i hiC hrd).resolve_left (fun h => by cases h)
          obtain ⟨_, _, hokt, hcd⟩ := h2 i t ht
          obtain ⟨x', Ψ, hx', hko, hst, hnx⟩ := so.ct.alt ht
          rw [hx] at hx'; cases hx'
          have hperm : (D :: cs.flatMap (·.ol)).Perm ((D :: (pre.flatMap (·.ol) ++ suf.flatMap (·.ol))) ++ s.ol) := by
            rw [split_mid _ hcs2]
            show (D :: (pre.flatMap (·.ol) ++ (s.ol ++ suf.flatMap (·.ol)))).Perm (D :: ((pre.flatMap (·.ol) ++ suf.flatMap (·.ol)) ++ s.ol))
            refine List.Perm.cons _ ?_
            rw [List.append_assoc]
            exact List.Perm.append_left _ List.perm_append_comm
          refine (hst.away (he := hes s hsm) (hs.perm hperm)).mono fun v w' ⟨o', hΨ, hs'⟩ => ⟨fun _ => ⟨fun h hh => hs'.sr h (List.mem_cons_of_mem _ (List.mem_append_left _ (hf h hh))), fun h hh => hs'.sr h (by
            rcases List.mem_cons.1 hh with rfl | hh
            · exact List.mem_cons_self
            · exact List.mem_cons_of_mem _ (List.mem_append_right _ hh))⟩, ?_⟩
          have hUi : i ∈ U := by rw [← hU]; exact mem_flat.2 ⟨s, hsm, hiC⟩
          have hdi : ∀ d, x.dst = some d → dstO ops i = some d := fun d hd => by unfold dstO; rw [hx]; exact hd
          have hCsub : ∀ k ∈ s.C, k ∈ U := fun k hk => by rw [← hU]; exact mem_flat.2 ⟨s, hsm, hk⟩
          -- another part knows nothing of this operation's variable
          have hother : ∀ s2, s2 ∈ pre ∨ s2 ∈ suf → ∀ d, x.dst = some d → find (s2.el ++ e) d = none := fun s2 hs2 d hd => by
            have hs2m : s2 ∈ cs := by rw [hcs2]; rcases hs2 with h | h <;> simp [h]
            refine (hcs s2 hs2m).far d (List.mem_filterMap.2 ⟨i, hUi, hdi d hd⟩) fun hc => ?_
            obtain ⟨j, hj, hjd⟩ := List.mem_filterMap.1 hc
            have hjU : j ∈ U := by rw [← hU]; exact mem_flat.2 ⟨s2, hs2m, hj⟩
            have := dst_one hdn hUi hjU (hdi d hd) hjd
            subst this
            exact nodup_mid (by rw [← hcs2, hU]; exact hn) hiC hs2 hj
          refine ih (pre ++ { s with p := t, dn := i :: s.dn, el := puts s.el x.dst v, ol := o' } :: suf) (l.setIfInBounds i true) (X.put a x.dst v) w' ?_ ?_ ?_ ?_ ?_ ?_ ?_ ?_ ?_ ?_
          · intro s2 hs2
            rcases List.mem_append.1 hs2 with h | h
            · exact hcs s2 (by rw [hcs2]; simp [h])
            · rcases List.mem_cons.1 h with rfl | h
              · refine ⟨hokt, so.uses, fun k hk => ?_, fun k hk j hj => ?_, hnx v o' hΨ, fun d hdU hdC => ?_⟩
                · rcases List.mem_cons.1 hk with rfl | hk
                  · exact hiC
                  · exact so.sub k hk
                · rcases List.mem_cons.1 hk with rfl | hk
                  · unfold rdyC at hrd
                    simp only [Bool.and_eq_true, List.all_eq_true, Bool.or_eq_true] at hrd
                    rcases hrd.2 j hj with h5 | h5
                    · exact .inl h5
                    · exact .inr (List.mem_cons_of_mem _ (by simpa using h5))
                  · rcases so.closed k hk j hj with h5 | h5
                    · exact .inl h5
                    · exact .inr (List.mem_cons_of_mem _ h5)
                · have h0 := so.far d hdU hdC
                  cases hxd : x.dst with
                  | none => exact h0
                  | some d2 =>
                    have hne : d ≠ d2 := by
                      rintro rfl
                      exact hdC (List.mem_filterMap.2 ⟨i, hiC, hdi d hxd⟩)
                    show find ((d2, some v) :: (s.el ++ e)) d = none
                    rw [find]
                    have : Nat.beq d d2 = false := by
                      cases hb : Nat.beq d d2 with
                      | false => rfl
                      | true => exact absurd (Nat.eq_of_beq_eq_true hb) hne
                    rw [this]; exact h0
              · exact hcs s2 (by rw [hcs2]; simp [h])
          · rw [← hU, hcs2]; simp
          · rw [← hz, hcs2]; simp
          · rw [← hp, hcs2]; simp
          · refine ⟨by simp [hl.1], fun j => ?_⟩
            have hlt : i < l.size := by rw [hl.1]; exact (Array.getElem?_eq_some_iff.1 hx).1
            by_cases hij : i = j
            · subst hij
              have : (l.setIfInBounds i true).getD i false = true := by simp [hlt]
              rw [this]
              exact ⟨fun _ => .inr ⟨_, List.mem_append_right _ List.mem_cons_self, List.mem_cons_self⟩, fun _ => rfl⟩
            · rw [getD_set_ne false hij, hl.2 j]
              constructor
              · rintro (h | ⟨s2, hs2, hj⟩)
                · exact .inl h
                · right
                  rw [hcs2] at hs2
                  rcases List.mem_append.1 hs2 with h | h
                  · exact ⟨s2, List.mem_append_left _ h, hj⟩
                  · rcases List.mem_cons.1 h with rfl | h
                    · exact ⟨_, List.mem_append_right _ List.mem_cons_self, List.mem_cons_of_mem _ hj⟩
                    · exact ⟨s2, List.mem_append_right _ (List.mem_cons_of_mem _ h), hj⟩
              · rintro (h | ⟨s2, hs2, hj⟩)
                · exact .inl h
                · right
                  rcases List.mem_append.1 hs2 with h | h
                  · exact ⟨s2, by rw [hcs2]; simp [h], hj⟩
                  · rcases List.mem_cons.1 h with rfl | h
                    · rcases List.mem_cons.1 hj with rfl | hj
                      · exact absurd rfl hij
                      · exact ⟨s, hsm, hj⟩
                    · exact ⟨s2, by rw [hcs2]; simp [h], hj⟩
          · rw [size_put, ha]
          · intro s2 hs2
            rcases List.mem_append.1 hs2 with h | h
            · exact (hes s2 (by rw [hcs2]; simp [h])).far (hother s2 (.inl h))
            · rcases List.mem_cons.1 h with rfl | h
              · have := (hes s hsm).puts (v := v) ha hko
                cases hxd : x.dst with
                | none => rw [hxd] at this; exact this
                | some d => rw [hxd] at this; exact this
              · exact (hes s2 (by rw [hcs2]; simp [h])).far (hother s2 (.inr h))
          · exact he.far fun d hd => hkill d (List.mem_filterMap.2 ⟨i, hUi, hdi d hd⟩)
          · refine hs'.perm ?_
            rw [List.flatMap_append, List.flatMap_cons]
            show (D :: ((pre.flatMap (·.ol) ++ suf.flatMap (·.ol)) ++ o')).Perm (D :: _)
            refine List.Perm.cons _ ?_
            rw [List.append_assoc]
            exact List.Perm.append_left _ List.perm_append_comm
          · rw [hcs2, cdepths_mid] at hT
            rw [cdepths_mid]
            dsimp only
            omega
end
/-! ### the region -/
def XQ (c : Cx) (ops : Array Oper) (f r : List PHeap) (fin : Env → List PHeap → Prop) : List Nat → Env → List PHeap → Prop
  | [], e, o => fin e o
  | i :: qs, e, o => ∃ x v, ops[i]? = some x ∧ okOper c.N x = true ∧ Quiet c.P ops x e f (c.B :: r) v ∧ XQ c ops f r fin qs (puts e x.dst v) o
def qsOk (ops : Array Oper) (fl : List Nat) : List Nat → Array Bool → Bool
  | [], _ => true
  | i :: qs, l => (Region.ready .any ops l).contains i && Region.free .any ops l i && fl.contains i && qsOk ops fl qs (l.setIfInBounds i true)
def listQ (qs : List Nat) (l : Array Bool) : Array Bool := qs.foldl (fun l i => l.setIfInBounds i true) l
def CTs (c : Cx) (ops : Array Oper) (e : Env) (r : List PHeap) : List (List Nat × Nat × Plan) → List (Env → List PHeap → Prop) → Prop
  | [], [] => True
  | s :: cs, p :: ps => CT c ops e r p s.2.2 [] [] ∧ CTs c ops e r cs ps
  | _, _ => False
/-- The parts, each alone, and what follows when all are done. -/
def XN (c : Cx) (ops : Array Oper) (fl : List Nat) (f : List PHeap) (k : List Item) (r : List PHeap) (cs : List (List Nat × Nat × Plan)) (ds : List Nat) (t : Plan) (e : Env) (o : List PHeap) : Prop :=
  ∃ posts, CTs c ops (kills ds e) (o ++ r) cs posts ∧ FinAll posts (fun el ol => XT c ops fl f k r t (el ++ kills ds e) (ol ++ o))
def cdep (cs : List (List Nat × Nat × Plan)) : Nat := (cs.map fun s => cdepth s.2.2).sum
theorem listQ_size (qs : List Nat) : ∀ l : Array Bool, (listQ qs l).size = l.size := by
  induction qs with
  | nil => intro l; rfl
  | cons i qs ih => intro l; show (listQ qs (l.setIfInBounds i true)).size = _; rw [ih]; simp
theorem listQ_get {qs : List Nat} : ∀ {l : Array Bool} {j : Nat}, (∀ i ∈ qs, i < l.size) → ((listQ qs l).getD j false = true ↔ (l.getD j false = true ∨ j ∈ qs)) := by
  induction qs with
  | nil => intro l j _; simp [listQ]
  | cons i qs ih =>
    intro l j h
    show (listQ qs (l.setIfInBounds i true)).getD j false = true ↔ _
    rw [ih fun k hk => by rw [Array.size_setIfInBounds]; exact h k (List.mem_cons_of_mem _ hk)]
    have hi := h i List.mem_cons_self
    by_cases hij : i = j
    · subst hij
      have : (l.setIfInBounds i true).getD i false = true := by simp [hi]
      simp [this]
    · rw [getD_set_ne false hij, List.mem_cons]
      constructor
      · rintro (h | h)
        · exact .inl h
        · exact .inr (.inr h)
      · rintro (h | h | h)
        · exact .inl h
        · exact absurd h.symm hij
        · exact .inr h
theorem bools_eq {a b : Array Bool} (hs : a.size = b.size) (h : ∀ j, a.getD j false = true ↔ b.getD j false = true) : a = b := by
  refine Array.ext hs fun i h1 h2 => ?_
  have := h i
  simp only [Array.getD_eq_getD_getElem?, Array.getElem?_eq_getElem h1, Array.getElem?_eq_getElem h2, Option.getD_some] at this
  cases ha : a[i] <;> cases hb : b[i] <;> simp_all
theorem memN_false {t : Nat} : ∀ {ks : List Nat}, memN t ks = false → t ∉ ks
  | [], _ => by simp
  | s :: ss, h => by
    rw [memN] at h
    split at h
    · cases h
    · rename_i hb
      rw [List.mem_cons, not_or]
      exact ⟨(fun he => by subst he; rw [Nat.beq_refl] at hb; cases hb), memN_false h⟩
theorem find_killed {ks : List Nat} {e : Env} {d : Nat} (h : d ∈ ks) : find (kills ks e) d = none := by
  cases hf : find (kills ks e) d with
  | none => rfl
  | some v => exact absurd h (memN_false (find_kills hf).1)
section
variable {c : Cx} {k : List Item} {f r : List PHeap} {fl : List Nat} {ops : Array Oper}
theorem CTs.states {e : Env} {rr : List PHeap} : ∀ {cs : List (List Nat × Nat × Plan)} {posts : List (Env → List PHeap → Prop)}, CTs c ops e rr cs posts →
    ∃ ss : List CS, ss.map (·.post) = posts ∧ ss.flatMap (·.C) = cs.flatMap (·.1) ∧ ss.map (·.z) = cs.map (·.2.1) ∧ ss.flatMap (·.ol) = [] ∧ cdepths ss = cdep cs ∧
      ∀ s ∈ ss, s.dn = [] ∧ s.el = [] ∧ CT c ops e rr s.post s.p s.el s.ol ∧ (s.C, s.z, s.p) ∈ cs
  | [], [], _ => ⟨[], rfl, rfl, rfl, rfl, rfl, (fun s h => absurd h List.not_mem_nil)⟩
  | s :: cs, p :: ps, h => by
    obtain ⟨ss, h1, h2, h3, h4, h5, h6⟩ := CTs.states h.2
    refine ⟨⟨s.1, s.2.1, s.2.2, [], [], [], p⟩ :: ss, by rw [List.map_cons, h1], by rw [List.flatMap_cons, List.flatMap_cons, h2], by rw [List.map_cons, List.map_cons, h3], by rw [List.flatMap_cons, h4]; rfl, ?_, fun x hx => ?_⟩
    · unfold cdepths cdep at h5 ⊢
      rw [List.map_cons, List.map_cons, List.sum_cons, List.sum_cons, h5]
    · rcases List.mem_cons.1 hx with rfl | hx
      · exact ⟨rfl, rfl, h.1, List.mem_cons_self⟩
      · obtain ⟨a, b, d, e⟩ := h6 x hx
        exact ⟨a, b, d, List.mem_cons_of_mem _ e⟩
  | [], _ :: _, h => h.elim
  | _ :: _, [], h => h.elim
theorem xq_sound {D : PHeap} {Q : Array Value → World → Prop} {fin : Env → List PHeap → Prop} (hsel : Region.noSelect ops = true) (M : Nat) :
    ∀ (qs : List Nat) (n : Nat) (l : Array Bool) (e : Env) (o : List PHeap) (a : Array Value) (w : World), qsOk ops fl qs l = true → qs.length + M ≤ n → XQ c ops f r fin qs e o → a.size = c.N → ERel e a → Sep (D :: o) (c.B :: r) w → Sf f (c.B :: r) w →
      (∀ n e a w, M ≤ n → fin e o → a.size = c.N → ERel e a → Sep (D :: o) (c.B :: r) w → Sf f (c.B :: r) w → Any c.P ops (Sf f (c.B :: r)) fl Q n (listQ qs l) a w) → Any c.P ops (Sf f (c.B :: r)) fl Q n l a w
  | [], n, l, e, o, a, w, _, hn, hX, ha, he, hs, hS, hfin => hfin n e a w (by simpa using hn) hX ha he hs hS
  | i :: qs, n, l, e, o, a, w, hok, hn, hX, ha, he, hs, hS, hfin => by
    simp only [qsOk, Bool.and_eq_true] at hok
    obtain ⟨⟨⟨hr, hf⟩, hfl⟩, hok'⟩ := hok
    obtain ⟨x, v, hx, hko, hq, hX'⟩ := hX
    simp only [List.length_cons] at hn
    obtain ⟨m, rfl⟩ : ∃ m, n = m + 1 := ⟨n - 1, by omega⟩
    refine any_first hx (Region.noSelect_spec hsel) (by simpa using hfl) m l a w (Region.free_spec hx hf) (by simpa using hr) (fun w' hw' => hq a w' he hw') hS ?_
    exact xq_sound hsel M qs m _ _ o _ w hok' (by omega) hX' (by rw [size_put, ha]) (he.puts ha hko) hs hS hfin
def drawOk (ops : Array Oper) (fl qs : List Nat) (cs : List (List Nat × Nat × Plan)) (ds : List Nat) (t : Plan) : Bool :=
  let l0 := Array.replicate ops.size false
  let L0 := listQ qs l0
  Region.noSelect ops && qsOk ops fl qs l0 && netOk ops L0 cs && (dstsOf ops (cs.flatMap (·.1))).all (fun d => ds.contains d) && t.ok ops fl (listQ (cs.flatMap (·.1)) L0) [] && Nat.ble (qs.length + (cdep cs + t.depth)) ops.size
theorem XK.drawNet {id : Nat} {l : List Oper} {e : Env} {o : List PHeap} (fl : List Nat) (f : List PHeap) (qs : List Nat) (cs : List (List Nat × Nat × Plan)) (ds : List Nat) (t : Plan) (hmix : c.P.follows .mixedOrders = true) (hl : l.all (okOper c.N) = true)
    (hok : drawOk l.toArray fl qs cs ds t = true) (hf : AllIn f o [])
    (h : XQ c l.toArray f r (XN c l.toArray fl f k r cs ds t) qs e o) : XK c (.code (.region id l.toArray true) :: k) e o r := fun D dd a w cs0 ha he hD hs => by
  unfold drawOk at hok
  simp only [Bool.and_eq_true] at hok
  obtain ⟨⟨⟨⟨⟨hsel, hqs⟩, hnet⟩, hds⟩, htok⟩, hdep⟩ := hok
  have hdep := Nat.le_of_ble_eq_true hdep
  simp only [List.size_toArray] at hqs hnet htok hdep
  have hs1 : Sep (D :: o) (c.B :: r) { w with drawn := w.drawn + 1 } := ⟨hs.pw, hs.dr, hs.so, hs.sr, hs.no, hs.sm⟩
  have hfo : ∀ g ∈ f, g ∈ o := fun g hg => (hf.pf g hg).elim (fun h => h) (fun h => by cases h)
  have hA : Any c.P l.toArray (Sf f (c.B :: r)) fl (fun a' w' => ∀ cs, ∃ fr w'', c.E fr w'' ∧ Steps c.P (lone (mk c.f c.rd a' (marks dd) k) cs w') (lone fr cs w'')) l.length (Array.replicate l.length false) a { w with drawn := w.drawn + 1 } := by
    refine xq_sound hsel (cdep cs + t.depth) qs l.length _ e o a _ hqs (by omega) h ha he hs1 ⟨fun g hg => hs1.so g (List.mem_cons_of_mem _ (hfo g hg)), hs1.sr⟩ ?_
    intro n e1 a1 w1 hn1 ⟨posts, hC, hF⟩ ha1 he1 hs2 hSf
    obtain ⟨ss, p1, p2, p3, p4, p5, p6⟩ := hC.states
    simp only [netOk, Bool.and_eq_true, List.all_eq_true] at hnet
    obtain ⟨⟨⟨hparts, hnd⟩, hdd⟩, hrest⟩ := hnet
    have hnd := nodupB_iff hnd
    have hdd := nodupB_iff hdd
    have hL0 : (listQ qs (Array.replicate l.length false)).size = l.toArray.size := by rw [listQ_size]; simp
    have hkill : ∀ d ∈ dstsOf l.toArray (cs.flatMap (·.1)), find (kills ds e1) d = none := fun d hd => find_killed (by
      have := (List.all_eq_true.1 hds) d hd
      simpa using this)
    have hek : ERel (kills ds e1) a1 := fun t v hv => he1 t v (find_kills hv).2
    have hq := List.pairwise_cons.1 hs2.pw
    refine net_sound (U := cs.flatMap (·.1)) (zs := cs.map (·.2.1)) (T := t.depth) (o := o) hnd hdd hkill hL0 ?_ hfo hs2.pw (fun g hg => hs2.no g (List.mem_cons_of_mem _ hg)) (fun g hg => hs2.dr g (List.mem_cons_of_mem _ hg)) hF ?_ n ss _ a1 w1 ?_ p2 p3 p1 ⟨hL0, fun j => ?_⟩ ha1 ?_ hek ?_ (by rw [p5]; exact hn1)
    · intro i hi
      have := hrest i (List.mem_range.2 (by simpa using hi))
      simp only [Bool.or_eq_true, List.any_eq_true, List.all_eq_true, Bool.and_eq_true, Bool.not_eq_true'] at this
      rcases this with ((h1 | h1) | ⟨j, hj, h2, h3⟩) | h1
      · exact .inl h1
      · exact .inr (.inl (by simpa using h1))
      · exact .inr (.inr (.inl ⟨j, hj, h2, by simpa using h3⟩))
      · refine .inr (.inr (.inr fun z hz => ?_))
        obtain ⟨s, hs, rfl⟩ := List.mem_map.1 hz
        simpa using h1 s hs
    · intro n l2 a2 w2 el ol hX hT hl2 hg ha2 he2 hs3
      have hall : ∀ i ∈ cs.flatMap (·.1), i < (listQ qs (Array.replicate l.length false)).size := fun i hi => by
        obtain ⟨s, hs, his⟩ := List.mem_flatMap.1 hi
        have := (hparts s hs).2
        simp only [usesC, Bool.and_eq_true, List.all_eq_true] at this
        have := (this.2 i his).1.1.1
        rw [Nat.blt_eq] at this
        rw [hL0]; exact this
      have hl3 : l2 = listQ (cs.flatMap (·.1)) (listQ qs (Array.replicate l.length false)) := by
        refine bools_eq (by rw [hl2, listQ_size, hL0]) fun j => ?_
        rw [hg j, listQ_get hall]
      subst hl3
      exact plan_sound (D := D) (Q := fun a' w' => ∀ cs, ∃ fr w'', c.E fr w'' ∧ Steps c.P (lone (mk c.f c.rd a' (marks dd) k) cs w') (lone fr cs w'')) hsel
        (fun e o hX a w ha he hs cs => hX D dd a w cs ha he hD hs) t n _ [] _ _ a2 w2 htok hT hX ha2 he2 hs3 (.inr ⟨fun g hg => hs3.so g (List.mem_cons_of_mem _ (List.mem_append_right _ (hfo g hg))), hs3.sr⟩) (fun i hi => by cases hi)
    · intro s hs
      obtain ⟨q1, q2, q3, q4⟩ := p6 s hs
      obtain ⟨r1, r2⟩ := hparts _ q4
      refine ⟨by rw [q1]; exact r1, r2, (fun i hi => by rw [q1] at hi; exact absurd hi List.not_mem_nil), (fun i hi => by rw [q1] at hi; exact absurd hi List.not_mem_nil), q3, fun d hd _ => ?_⟩
      rw [q2]; exact hkill d hd
    · constructor
      · exact fun h => .inl h
      · rintro (h | ⟨s, hs, hj⟩)
        · exact h
        · rw [(p6 s hs).1] at hj; cases hj
    · intro s hs
      rw [(p6 s hs).2.1]; exact hek
    · rw [p4]
      exact Sep.toRead (ol := []) hs2
  have hnd : ∀ (i : Nat) (x : Oper), l.toArray[i]? = some x → noDefer x = true := fun i x hx => by
    have := List.all_eq_true.1 hl x (by
      rw [List.getElem?_toArray] at hx
      exact List.mem_of_getElem? hx)
    unfold okOper at this
    simp only [Bool.and_eq_true] at this
    exact this.1
  obtain ⟨a', w', hQ, st⟩ := any_steps (f := c.f) (rd := c.rd) (ds := marks dd) (k := k) (cs := cs0) hnd l.length (w.tape w.drawn (.order c.f id)) _ a _ hA
  obtain ⟨fr, w'', hE, st'⟩ := hQ cs0
  refine ⟨fr, w'', hE, .head step_region_draw ?_⟩
  have hsch : Region.schedule (c.P.follows .mixedOrders) l.toArray (w.tape w.drawn (.order c.f id)) =
      Region.linearise.go .any l.toArray l.length (w.tape w.drawn (.order c.f id)) (Array.replicate l.length false) [] := by
    simp [Region.schedule, hmix, Region.linearise]
  rw [hsch]
  exact Steps.trans st st'
end
end Go.X

/- Rules for the parts of a drawn region. No condition. -/
set_option linter.unusedSimpArgs false
set_option linter.unusedVariables false
namespace Go.X
section
variable {c : Cx} {ops : Array Oper} {e el : Env} {ol r : List PHeap} {post : Env → List PHeap → Prop} {i0 d : Nat} {ty : TypeId} {pos : String} {aft : Array Edge} {bb : Bool} {tt uu : Plan}
variable {α : Type} {enc : α → List Value} {sz : Nat} {h : PHeap} {xs : List α} {v : Value}
theorem CT.done (h : post el ol) : CT c ops e r post .done el ol := h
theorem CT.stop : CT c ops e r post .stop el ol := trivial
theorem CT.s {op : Op} {g : Option (Nat × Bool)} {Ψ : Value → List PHeap → Prop} (hx : ops[i0]? = some ⟨some d, op, ty, pos, aft, g⟩) (hok : okOper c.N ⟨some d, op, ty, pos, aft, g⟩ = true) (s : Stp c.P ops ⟨some d, op, ty, pos, aft, g⟩ (el ++ e) ol (c.B :: r) Ψ)
    (h : ∀ v o', Ψ v o' → CT c ops e r post tt ((d, some v) :: el) o') (hu : CT c ops e r post uu el ol) : CT c ops e r post (.br i0 bb tt uu) el ol := ⟨⟨_, Ψ, hx, hok, s, fun v o' hΨ => h v o' hΨ⟩, hu⟩
theorem CT.s0 {op : Op} {g : Option (Nat × Bool)} {Ψ : Value → List PHeap → Prop} (hx : ops[i0]? = some ⟨none, op, ty, pos, aft, g⟩) (hok : okOper c.N ⟨none, op, ty, pos, aft, g⟩ = true) (s : Stp c.P ops ⟨none, op, ty, pos, aft, g⟩ (el ++ e) ol (c.B :: r) Ψ)
    (h : ∀ v o', Ψ v o' → CT c ops e r post tt el o') (hu : CT c ops e r post uu el ol) : CT c ops e r post (.br i0 bb tt uu) el ol := ⟨⟨_, Ψ, hx, hok, s, fun v o' hΨ => h v o' hΨ⟩, hu⟩
theorem CT.qs {op : Op} {g : Option (Nat × Bool)} {v : Value} (hi : ops[i0]? = some ⟨some d, op, ty, pos, aft, g⟩) (hok : okOper c.N ⟨some d, op, ty, pos, aft, g⟩ = true)
    (q : Quiet c.P ops ⟨some d, op, ty, pos, aft, g⟩ (el ++ e) ol (c.B :: r) v) (hn : CT c ops e r post tt ((d, some v) :: el) ol) (hu : CT c ops e r post uu el ol) : CT c ops e r post (.br i0 bb tt uu) el ol :=
  CT.s hi hok q.stp (fun _ _ ⟨hv, ho⟩ => by subst hv ho; exact hn) hu
theorem CT.lit {t el1 : TypeId} [u : Und c.P t (.slice el1)] [z : TySize c.P el1 sz] {zs : List Value} [zz : Zero c.P el1 zs] {n : Nat} {l : List (Nat × Operand)} (zl cs : List Value) (xs : List α) (enc : α → List Value)
    (hi : ops[i0]? = some ⟨some d, .buildSlice t n l.toArray, ty, pos, aft, none⟩) (hok : okOper c.N ⟨some d, .buildSlice t n l.toArray, ty, pos, aft, none⟩ = true)
    (hzs : zs.length = sz) (hsz : Nat.blt 0 sz = true) (hn : Nat.ble (n * sz) 16777216 = true) (hzl : (List.replicate n zs).flatten = zl) (hf : Fill (el ++ e) (fun i => some (i * sz, sz)) l zl cs)
    (henc : ∀ x, (enc x).length = sz) (hcs : xs.flatMap enc = cs) (hxn : xs.length = n) (ho : Ones cs) (hle : Nat.ble n 16777216 = true)
    (hnx : ∀ v' h', OArr v' enc sz el1 h' xs → CT c ops e r post tt ((d, some v') :: el) (h' :: ol)) (hu : CT c ops e r post uu el ol) : CT c ops e r post (.br i0 bb tt uu) el ol :=
  CT.s hi hok ((Makes.lit cs hzs hsz hn (by rw [hzl]; exact hf)).stp _ _) (fun v' o' ⟨b, hv, ho'⟩ => by subst hv ho'; exact hnx _ _ (OArr.lit xs enc henc hcs hxn ho hle)) hu
theorem CT.make {t el1 : TypeId} [u : Und c.P t (.slice el1)] [z : TySize c.P el1 sz] {zs : List Value} [zz : Zero c.P el1 zs] {by' : Nat} [tb : TyBytes c.P el1 by'] {x y : Operand} {kk k' : IntKind} {n n' : Int} {i : Nat}
    (enc : α → List Value) (x0 : α) (hi : ops[i0]? = some ⟨some d, .makeSlice t x y, ty, pos, aft, none⟩) (hok : okOper c.N ⟨some d, .makeSlice t x y, ty, pos, aft, none⟩ = true)
    (hx : ev (el ++ e) x = some (.int kk n)) (hy : ev (el ++ e) y = some (.int k' n')) (hnn : n = n') [ix : Idx n i] (h0 : 0 ≤ n) (h1 : n ≤ 68719476736)
    (henc : ∀ x, (enc x).length = sz) (hz : enc x0 = zs) (hsz : Nat.blt 0 sz = true) (hby : Nat.ble by' 128 = true) (ho : Ones (enc x0))
    (hnx : ∀ v' h', OArr v' enc sz el1 h' (List.replicate i x0) → CT c ops e r post tt ((d, some v') :: el) (h' :: ol)) (hu : CT c ops e r post uu el ol) : CT c ops e r post (.br i0 bb tt uu) el ol :=
  CT.s hi hok (Stp.make enc x0 hx hy hnn h0 h1 henc hz hsz hby ho) (fun v' _ ⟨h', hO, h2⟩ => by subst h2; exact hnx v' h' hO) hu
theorem CT.append {t0 t1 el0 el1 : TypeId} [u : Und c.P t0 (.slice el0)] [u1 : Und c.P t1 (.slice el1)] [z : TySize c.P el0 sz] {zs : List Value} [zz : Zero c.P el0 zs] {by' : Nat} [tb : TyBytes c.P el0 by']
    {x y : Operand} {v2 : Value} {h2 : PHeap} {ys : List α} {o1 : List PHeap} (hi : ops[i0]? = some ⟨some d, .call ⟨.builtin .append, #[x, y], #[t0, t1]⟩, ty, pos, aft, none⟩)
    (hok : okOper c.N ⟨some d, .call ⟨.builtin .append, #[x, y], #[t0, t1]⟩, ty, pos, aft, none⟩ = true) (hx : ev (el ++ e) x = some v) (hy : ev (el ++ e) y = some v2) [s : OArr v enc sz el0 h xs] [t : Take h ol o1] [s2 : Arr v2 enc sz h2 ys] [m : InM h2 o1 (c.B :: r)]
    (hzs : zs.length = sz) (hby : Nat.ble by' 128 = true) (hn : xs.length + ys.length ≤ 68719476736)
    (hnx : ∀ v' h', OArr v' enc sz el0 h' (xs ++ ys) → CT c ops e r post tt ((d, some v') :: el) (h' :: o1)) (hu : CT c ops e r post uu el ol) : CT c ops e r post (.br i0 bb tt uu) el ol :=
  CT.s hi hok (Stp.append hx hy hzs hby hn) (fun v' _ ⟨h', hO, h2⟩ => by subst h2; exact hnx v' h' hO) hu
theorem CT.alloc {t : TypeId} {zs : List Value} [z : Zero c.P t zs] (hi : ops[i0]? = some ⟨some d, .alloc t, ty, pos, aft, none⟩) (hok : okOper c.N ⟨some d, .alloc t, ty, pos, aft, none⟩ = true)
    (hn : ∀ b, CT c ops e r post tt ((d, some (ptr b 0)) :: el) (blk b zs t :: ol)) (hu : CT c ops e r post uu el ol) : CT c ops e r post (.br i0 bb tt uu) el ol :=
  CT.s hi hok (Makes.alloc.stp _ _) (fun v' o' ⟨b, hv, ho'⟩ => by subst hv ho'; exact hn b) hu
theorem CT.call {g : FuncId} {x : Operand} {l : List Operand} {tys : Array TypeId} {fst vs cap A : List Value} {Hm Hr : List PHeap} {R : Value → List PHeap → Prop} {o1 : List PHeap}
    (hi : ops[i0]? = some ⟨some d, .call ⟨.value x, l.toArray, tys⟩, ty, pos, aft, none⟩) (hok : okOper c.N ⟨some d, .call ⟨.value x, l.toArray, tys⟩, ty, pos, aft, none⟩ = true)
    (hc : ∀ args w, (callFunc g args).run c.P w = .ok (.enter g args) w) (hx : ev (el ++ e) x = some (.func (.func g) fst.toArray cap.toArray)) (hl : evs (el ++ e) l = some vs) (hA : fst ++ vs ++ cap = A)
    (hS : Spec c.P g A.toArray Hm Hr R) [t : Takes Hm ol o1] [al : AllIn Hr o1 (c.B :: r)] (h : ∀ v hs, R v hs → CT c ops e r post tt ((d, some v) :: el) (hs ++ o1)) (hu : CT c ops e r post uu el ol) :
    CT c ops e r post (.br i0 bb tt uu) el ol := CT.s hi hok (Stp.call hc hx hl hA hS) (fun v o2 ⟨hs, hR, h2⟩ => by subst h2; exact h v hs hR) hu
end
section
variable {c : Cx} {ops : Array Oper} {fl : List Nat} {f r : List PHeap} {k : List Item} {e : Env} {o : List PHeap} {qs : List Nat} {fin : Env → List PHeap → Prop}
theorem XQ.nil (h : fin e o) : XQ c ops f r fin [] e o := h
theorem XQ.q {i d : Nat} {op : Op} {ty : TypeId} {pos : String} {aft : Array Edge} {g : Option (Nat × Bool)} {v : Value} (hx : ops[i]? = some ⟨some d, op, ty, pos, aft, g⟩) (hok : okOper c.N ⟨some d, op, ty, pos, aft, g⟩ = true)
    (q : Quiet c.P ops ⟨some d, op, ty, pos, aft, g⟩ e f (c.B :: r) v) (h : XQ c ops f r fin qs ((d, some v) :: e) o) : XQ c ops f r fin (i :: qs) e o := ⟨_, v, hx, hok, q, h⟩
theorem XN.intro {cs : List (List Nat × Nat × Plan)} {ds : List Nat} {t : Plan} (posts : List (Env → List PHeap → Prop)) (h : CTs c ops (kills ds e) (o ++ r) cs posts) (hf : FinAll posts (fun el ol => XT c ops fl f k r t (el ++ kills ds e) (ol ++ o))) : XN c ops fl f k r cs ds t e o := ⟨posts, h, hf⟩
theorem CTs.nil {rr : List PHeap} : CTs c ops e rr [] [] := trivial
theorem CTs.cons {rr : List PHeap} {s : List Nat × Nat × Plan} {cs : List (List Nat × Nat × Plan)} {p : Env → List PHeap → Prop} {ps : List (Env → List PHeap → Prop)} (h : CT c ops e rr p s.2.2 [] []) (hs : CTs c ops e rr cs ps) : CTs c ops e rr (s :: cs) (p :: ps) := ⟨h, hs⟩
end

/-! ### what a part leaves -/
/-- Whatever e knows, e' knows. -/
def Le (e e' : Env) : Prop := ∀ t u, find e t = some u → find e' t = some u
theorem Le.erel {e e' : Env} (h : Le e e') {a : Array Value} (ha : ERel e' a) : ERel e a := fun t v hv => ha t v (h t v hv)
theorem Le.puts {e e' : Env} (h : Le e e') (d : Option Tmp) (v : Value) : Le (X.puts e d v) (X.puts e' d v) := by
  cases d with
  | none => exact h
  | some d =>
    intro t u hu
    simp only [X.puts, find] at hu ⊢
    split
    · rename_i hb; simp only [hb] at hu; exact hu
    · rename_i hb; simp only [hb] at hu; exact h t u hu
theorem XT.mono {c : Cx} {ops : Array Oper} {fl : List Nat} {f : List PHeap} {k : List Item} {r : List PHeap} : ∀ {p : Plan} {e e' : Env} {o : List PHeap}, Le e e' → XT c ops fl f k r p e o → XT c ops fl f k r p e' o
  | .done, e, e', o, h, hx => XK.weaken (e' := e) (o' := o) (r' := r) hx (fun a ha => h.erel ha) (fun D w hs => hs)
  | .q i t, e, e', o, h, ⟨x, v, h1, h2, h3, h4⟩ => ⟨x, v, h1, h2, fun a w ha hr => h3 a w (h.erel ha) hr, XT.mono (h.puts x.dst v) h4⟩
  | .br i b t u, e, e', o, h, ⟨⟨x, Ψ, h1, h2, h3, h4⟩, h5⟩ => ⟨⟨x, Ψ, h1, h2, fun D a w ha hs => h3 D a w (h.erel ha) hs, fun v o' hΨ => ⟨(h4 v o' hΨ).1, XT.mono (h.puts x.dst v) (h4 v o' hΨ).2⟩⟩, XT.mono h h5⟩
  | .stop, _, _, _, _, _ => trivial
/-- Of a part's variables only one is asked. -/
structure Gives (ks : List Nat) (d : Nat) (v : Value) (el : Env) : Prop where
  has : ∀ R, find (el ++ R) d = some v
  far : ∀ R t, memN t ks = false → find (el ++ R) t = find R t
theorem Gives.of {ks : List Nat} {d : Nat} {v : Value} {tl : Env} (hd : memN d ks = true) (ht : tl.all (fun p => memN p.1 ks) = true) : Gives ks d v ((d, some v) :: tl) where
  has R := by simp [find, Nat.beq_refl]
  far R t hk := by
    have key : ∀ l : Env, l.all (fun p => memN p.1 ks) = true → find (l ++ R) t = find R t := fun l => by
      induction l with
      | nil => intro _; rfl
      | cons p l ih =>
        intro h
        obtain ⟨q, u⟩ := p
        simp only [List.all_cons, Bool.and_eq_true] at h
        rw [List.cons_append, find]
        have : Nat.beq t q = false := by
          cases hb : Nat.beq t q with
          | false => rfl
          | true =>
            rw [Nat.eq_of_beq_eq_true hb, h.1] at hk; cases hk
        rw [this]
        exact ih h.2
    exact key ((d, some v) :: tl) (by rw [List.all_cons, hd, ht]; rfl)
theorem XT.gives {c : Cx} {ops : Array Oper} {fl : List Nat} {f : List PHeap} {k : List Item} {r : List PHeap} {p : Plan} {ks : List Nat} {d : Nat} {v : Value} {el R : Env} {o : List PHeap} (g : Gives ks d v el) (hk : ks.all (fun k => (find R k).isNone) = true)
    (h : XT c ops fl f k r p ((d, some v) :: R) o) : XT c ops fl f k r p (el ++ R) o := by
  refine XT.mono (fun t u hu => ?_) h
  rw [find] at hu
  split at hu
  · rename_i hb
    rw [Nat.eq_of_beq_eq_true hb, g.has R]; exact hu
  · cases hm : memN t ks with
    | false => rw [g.far R t hm]; exact hu
    | true =>
      exfalso
      have : ∀ l : List Nat, memN t l = true → l.all (fun k => (find R k).isNone) = true → False := fun l => by
        induction l with
        | nil => intro h; cases h
        | cons s l ih =>
          intro h1 h2
          rw [List.all_cons, Bool.and_eq_true] at h2
          rw [memN] at h1
          split at h1
          · rename_i hb
            rw [← Nat.eq_of_beq_eq_true hb, hu] at h2
            cases h2.1
          · exact ih h1 h2.2
      exact this ks hm hk
section
variable {c : Cx} {ops : Array Oper} {rest : List Oper} {fl : List Nat} {f : List PHeap} {k : List Item} {e : Env} {o r : List PHeap} {i0 d : Nat} {ty : TypeId} {pos : String} {aft : Array Edge} {bb : Bool} {tt uu : Plan} {α : Type} {sz : Nat}
end
end Go.X

/- Two heaps that a call reads are read as one. No condition. -/
set_option linter.unusedVariables false
namespace Go.X
theorem Spec.catR {P : Program} {f : FuncId} {args : Array Value} {Hm Hr : List PHeap} {R : Value → List PHeap → Prop} {a b : PHeap} (h : ∀ c, leH a c → leH b c → Spec P f args Hm (c :: Hr) R) : Spec P f args Hm (a :: b :: Hr) R := fun o r w hs hr => by
  have h1 := frame_in hs hr
  have sa : sub a w := h1.sr a (List.mem_cons_of_mem _ List.mem_cons_self)
  have sb : sub b w := h1.sr b (List.mem_cons_of_mem _ (List.mem_cons_of_mem _ List.mem_cons_self))
  have lb : leH b (cat a b) := fun x ob hx => by
    show ((a x).or ((b x).or none)) = _
    cases ha : a x with
    | none => rw [hx]; rfl
    | some ob' =>
      have e1 := sa x ob' ha
      rw [sb x ob hx] at e1
      exact e1.symm
  have hc : ∀ x ob, cat a b x = some ob → a x = some ob ∨ b x = some ob := fun x ob hx => by
    change ((a x).or ((b x).or none)) = _ at hx
    cases ha : a x with
    | none => rw [ha] at hx; right; simpa using hx
    | some ob' => rw [ha] at hx; left; exact hx
  have h2 : Sep Hm (hole w Hm :: cat a b :: Hr) w := by
    refine ⟨h1.pw, ?_, h1.so, ?_, h1.no, ?_⟩
    · intro g hg x hx
      rcases List.mem_cons.1 hx with rfl | hx
      · exact h1.dr g hg _ List.mem_cons_self
      · rcases List.mem_cons.1 hx with rfl | hx
        · intro y
          rcases h1.dr g hg a (List.mem_cons_of_mem _ List.mem_cons_self) y with h3 | h3
          · exact .inl h3
          · rcases h1.dr g hg b (List.mem_cons_of_mem _ (List.mem_cons_of_mem _ List.mem_cons_self)) y with h4 | h4
            · exact .inl h4
            · right
              show ((a y).or ((b y).or none)) = none
              rw [h3, h4]; rfl
        · exact h1.dr g hg x (List.mem_cons_of_mem _ (List.mem_cons_of_mem _ (List.mem_cons_of_mem _ hx)))
    · intro x hx
      rcases List.mem_cons.1 hx with rfl | hx
      · exact h1.sr _ List.mem_cons_self
      · rcases List.mem_cons.1 hx with rfl | hx
        · exact fun y ob hy => (hc y ob hy).elim (sa y ob) (sb y ob)
        · exact h1.sr x (List.mem_cons_of_mem _ (List.mem_cons_of_mem _ (List.mem_cons_of_mem _ hx)))
    · intro x hx m hm
      rcases List.mem_cons.1 hx with rfl | hx
      · exact h1.sm _ List.mem_cons_self m hm
      · rcases List.mem_cons.1 hx with rfl | hx
        · rw [cat, join_m] at hm; cases hm
        · exact h1.sm x (List.mem_cons_of_mem _ (List.mem_cons_of_mem _ (List.mem_cons_of_mem _ hx))) m hm
  refine (h (cat a b) (cat_left a b) lb [] (hole w Hm :: cat a b :: Hr) w (by rw [List.append_nil]; exact h2) (fun x hx => .inr (List.mem_cons_of_mem _ hx))).mono fun e w' ⟨v, hs', he, hR, hS⟩ => ⟨v, hs', he, hR, frame_out hs ?_⟩
  rw [List.append_nil] at hS
  exact hS.reads fun g hg => by rw [List.mem_singleton] at hg; subst hg; exact List.mem_cons_self
end Go.X

/- The type table of this seat as instances; written by program. No condition. -/
namespace Go.X
open Go.Proofs
set_option maxRecDepth 10000
instance : Und Try.prog 0 (Go.TypeDesc.tuple #[]) := ⟨Try.runUnderlying0⟩
instance : IsAgg Try.prog 0 false := ⟨Try.isAgg0⟩
instance : TySize Try.prog 0 1 := ⟨Try.sizeOf0⟩
instance : TyBytes Try.prog 0 0 := ⟨_, Try.typeInfo0, rfl⟩
instance : Zero Try.prog 0 [(Go.Value.tuple #[])] := ⟨_, Try.zeroValue0, rfl⟩
instance : Und Try.prog 1 (Go.TypeDesc.func #[] #[] Bool.false) := ⟨Try.runUnderlying1⟩
instance : IsAgg Try.prog 1 false := ⟨Try.isAgg1⟩
instance : TySize Try.prog 1 1 := ⟨Try.sizeOf1⟩
instance : TyBytes Try.prog 1 8 := ⟨_, Try.typeInfo1, rfl⟩
instance : Zero Try.prog 1 [Go.Value.nilFunc] := ⟨_, Try.zeroValue1, rfl⟩
instance : Und Try.prog 2 (Go.TypeDesc.int Go.IntKind.i64) := ⟨Try.runUnderlying2⟩
instance : IsAgg Try.prog 2 false := ⟨Try.isAgg2⟩
instance : TySize Try.prog 2 1 := ⟨Try.sizeOf2⟩
instance : TyBytes Try.prog 2 8 := ⟨_, Try.typeInfo2, rfl⟩
instance : Zero Try.prog 2 [(Go.Value.int Go.IntKind.i64 0)] := ⟨_, Try.zeroValue2, rfl⟩
instance : Und Try.prog 3 (Go.TypeDesc.int Go.IntKind.i64) := ⟨Try.runUnderlying3⟩
instance : IsAgg Try.prog 3 false := ⟨Try.isAgg3⟩
instance : TySize Try.prog 3 1 := ⟨Try.sizeOf3⟩
instance : TyBytes Try.prog 3 8 := ⟨_, Try.typeInfo3, rfl⟩
instance : Zero Try.prog 3 [(Go.Value.int Go.IntKind.i64 0)] := ⟨_, Try.zeroValue3, rfl⟩
instance : Und Try.prog 4 Go.TypeDesc.bool := ⟨Try.runUnderlying4⟩
instance : IsAgg Try.prog 4 false := ⟨Try.isAgg4⟩
instance : TySize Try.prog 4 1 := ⟨Try.sizeOf4⟩
instance : TyBytes Try.prog 4 1 := ⟨_, Try.typeInfo4, rfl⟩
instance : Zero Try.prog 4 [(Go.Value.bool Bool.false)] := ⟨_, Try.zeroValue4, rfl⟩
instance : Und Try.prog 5 (Go.TypeDesc.int Go.IntKind.u8) := ⟨Try.runUnderlying5⟩
instance : IsAgg Try.prog 5 false := ⟨Try.isAgg5⟩
instance : TySize Try.prog 5 1 := ⟨Try.sizeOf5⟩
instance : TyBytes Try.prog 5 1 := ⟨_, Try.typeInfo5, rfl⟩
instance : Zero Try.prog 5 [(Go.Value.int Go.IntKind.u8 0)] := ⟨_, Try.zeroValue5, rfl⟩
instance : Und Try.prog 6 (Go.TypeDesc.int Go.IntKind.u8) := ⟨Try.runUnderlying6⟩
instance : IsAgg Try.prog 6 false := ⟨Try.isAgg6⟩
instance : TySize Try.prog 6 1 := ⟨Try.sizeOf6⟩
instance : TyBytes Try.prog 6 1 := ⟨_, Try.typeInfo6, rfl⟩
instance : Zero Try.prog 6 [(Go.Value.int Go.IntKind.u8 0)] := ⟨_, Try.zeroValue6, rfl⟩
instance : Und Try.prog 7 (Go.TypeDesc.struct #[(Go.Field.mk "x" 2 0 Bool.false "" "runtime" 0), (Go.Field.mk "y" 3 1 Bool.false "" "runtime" 8), (Go.Field.mk "signed" 4 2 Bool.false "" "runtime" 16), (Go.Field.mk "code" 6 3 Bool.false "" "runtime" 17)]) := ⟨Try.runUnderlying7⟩
instance : IsAgg Try.prog 7 true := ⟨Try.isAgg7⟩
instance : TySize Try.prog 7 4 := ⟨Try.sizeOf7⟩
instance : TyBytes Try.prog 7 24 := ⟨_, Try.typeInfo7, rfl⟩
instance : Zero Try.prog 7 [(Go.Value.int Go.IntKind.i64 0), (Go.Value.int Go.IntKind.i64 0), (Go.Value.bool Bool.false), (Go.Value.int Go.IntKind.u8 0)] := ⟨_, Try.zeroValue7, rfl⟩
instance : Fld Try.prog 7 0 0 := Fld.of (n := 1) ⟨Try.runUnderlying7⟩ rfl ⟨Try.sizeOf2⟩ (by decide) rfl
instance : Fld Try.prog 7 1 1 := Fld.of (n := 1) ⟨Try.runUnderlying7⟩ rfl ⟨Try.sizeOf3⟩ (by decide) rfl
instance : Fld Try.prog 7 2 2 := Fld.of (n := 1) ⟨Try.runUnderlying7⟩ rfl ⟨Try.sizeOf4⟩ (by decide) rfl
instance : Fld Try.prog 7 3 3 := Fld.of (n := 1) ⟨Try.runUnderlying7⟩ rfl ⟨Try.sizeOf6⟩ (by decide) rfl
instance : Places Try.prog 7 (fun i => ([(0, 1), (1, 1), (2, 1), (3, 1)] : List (Nat × Nat))[i]?) := Places.struct ⟨Try.runUnderlying7⟩ (.c Try.sizeOf2 (.c Try.sizeOf3 (.c Try.sizeOf4 (.c Try.sizeOf6 .n))))
instance : Und Try.prog 9 Go.TypeDesc.string := ⟨Try.runUnderlying9⟩
instance : IsAgg Try.prog 9 false := ⟨Try.isAgg9⟩
instance : TySize Try.prog 9 1 := ⟨Try.sizeOf9⟩
instance : TyBytes Try.prog 9 16 := ⟨_, Try.typeInfo9, rfl⟩
instance : Zero Try.prog 9 [(Go.Value.string (ByteArray.mk #[]))] := ⟨_, Try.zeroValue9, rfl⟩
instance : Und Try.prog 12 (Go.TypeDesc.int Go.IntKind.u64) := ⟨Try.runUnderlying12⟩
instance : IsAgg Try.prog 12 false := ⟨Try.isAgg12⟩
instance : TySize Try.prog 12 1 := ⟨Try.sizeOf12⟩
instance : TyBytes Try.prog 12 8 := ⟨_, Try.typeInfo12, rfl⟩
instance : Zero Try.prog 12 [(Go.Value.int Go.IntKind.u64 0)] := ⟨_, Try.zeroValue12, rfl⟩
instance : Und Try.prog 13 (Go.TypeDesc.struct #[(Go.Field.mk "msg" 9 0 Bool.false "" "runtime" 0), (Go.Field.mk "addr" 12 1 Bool.false "" "runtime" 16)]) := ⟨Try.runUnderlying13⟩
instance : IsAgg Try.prog 13 true := ⟨Try.isAgg13⟩
instance : TySize Try.prog 13 2 := ⟨Try.sizeOf13⟩
instance : TyBytes Try.prog 13 24 := ⟨_, Try.typeInfo13, rfl⟩
instance : Zero Try.prog 13 [(Go.Value.string (ByteArray.mk #[])), (Go.Value.int Go.IntKind.u64 0)] := ⟨_, Try.zeroValue13, rfl⟩
instance : Fld Try.prog 13 0 0 := Fld.of (n := 1) ⟨Try.runUnderlying13⟩ rfl ⟨Try.sizeOf9⟩ (by decide) rfl
instance : Fld Try.prog 13 1 1 := Fld.of (n := 1) ⟨Try.runUnderlying13⟩ rfl ⟨Try.sizeOf12⟩ (by decide) rfl
instance : Places Try.prog 13 (fun i => ([(0, 1), (1, 1)] : List (Nat × Nat))[i]?) := Places.struct ⟨Try.runUnderlying13⟩ (.c Try.sizeOf9 (.c Try.sizeOf12 .n))
instance : Und Try.prog 22 (Go.TypeDesc.slice 5) := ⟨Try.runUnderlying22⟩
instance : IsAgg Try.prog 22 false := ⟨Try.isAgg22⟩
instance : TySize Try.prog 22 1 := ⟨Try.sizeOf22⟩
instance : TyBytes Try.prog 22 24 := ⟨_, Try.typeInfo22, rfl⟩
instance : Zero Try.prog 22 [(Go.Value.slice none 0 0)] := ⟨_, Try.zeroValue22, rfl⟩
instance : Und Try.prog 23 (Go.TypeDesc.int Go.IntKind.u16) := ⟨Try.runUnderlying23⟩
instance : IsAgg Try.prog 23 false := ⟨Try.isAgg23⟩
instance : TySize Try.prog 23 1 := ⟨Try.sizeOf23⟩
instance : TyBytes Try.prog 23 2 := ⟨_, Try.typeInfo23, rfl⟩
instance : Zero Try.prog 23 [(Go.Value.int Go.IntKind.u16 0)] := ⟨_, Try.zeroValue23, rfl⟩
instance : Und Try.prog 24 (Go.TypeDesc.slice 48) := ⟨Try.runUnderlying24⟩
instance : IsAgg Try.prog 24 false := ⟨Try.isAgg24⟩
instance : TySize Try.prog 24 1 := ⟨Try.sizeOf24⟩
instance : TyBytes Try.prog 24 24 := ⟨_, Try.typeInfo24, rfl⟩
instance : Zero Try.prog 24 [(Go.Value.slice none 0 0)] := ⟨_, Try.zeroValue24, rfl⟩
instance : Und Try.prog 25 (Go.TypeDesc.slice 50) := ⟨Try.runUnderlying25⟩
instance : IsAgg Try.prog 25 false := ⟨Try.isAgg25⟩
instance : TySize Try.prog 25 1 := ⟨Try.sizeOf25⟩
instance : TyBytes Try.prog 25 24 := ⟨_, Try.typeInfo25, rfl⟩
instance : Zero Try.prog 25 [(Go.Value.slice none 0 0)] := ⟨_, Try.zeroValue25, rfl⟩
instance : Und Try.prog 26 (Go.TypeDesc.slice 38) := ⟨Try.runUnderlying26⟩
instance : IsAgg Try.prog 26 false := ⟨Try.isAgg26⟩
instance : TySize Try.prog 26 1 := ⟨Try.sizeOf26⟩
instance : TyBytes Try.prog 26 24 := ⟨_, Try.typeInfo26, rfl⟩
instance : Zero Try.prog 26 [(Go.Value.slice none 0 0)] := ⟨_, Try.zeroValue26, rfl⟩
instance : Und Try.prog 27 (Go.TypeDesc.slice 52) := ⟨Try.runUnderlying27⟩
instance : IsAgg Try.prog 27 false := ⟨Try.isAgg27⟩
instance : TySize Try.prog 27 1 := ⟨Try.sizeOf27⟩
instance : TyBytes Try.prog 27 24 := ⟨_, Try.typeInfo27, rfl⟩
instance : Zero Try.prog 27 [(Go.Value.slice none 0 0)] := ⟨_, Try.zeroValue27, rfl⟩
instance : Und Try.prog 29 (Go.TypeDesc.struct #[(Go.Field.mk "Rooms" 24 0 Bool.false "" "" 0), (Go.Field.mk "Walls" 25 1 Bool.false "" "" 24), (Go.Field.mk "Branches" 26 2 Bool.false "" "" 48), (Go.Field.mk "Coolers" 27 3 Bool.false "" "" 72)]) := ⟨Try.runUnderlying29⟩
instance : IsAgg Try.prog 29 true := ⟨Try.isAgg29⟩
instance : TySize Try.prog 29 4 := ⟨Try.sizeOf29⟩
instance : TyBytes Try.prog 29 96 := ⟨_, Try.typeInfo29, rfl⟩
instance : Zero Try.prog 29 [(Go.Value.slice none 0 0), (Go.Value.slice none 0 0), (Go.Value.slice none 0 0), (Go.Value.slice none 0 0)] := ⟨_, Try.zeroValue29, rfl⟩
instance : Fld Try.prog 29 0 0 := Fld.of (n := 1) ⟨Try.runUnderlying29⟩ rfl ⟨Try.sizeOf24⟩ (by decide) rfl
instance : Fld Try.prog 29 1 1 := Fld.of (n := 1) ⟨Try.runUnderlying29⟩ rfl ⟨Try.sizeOf25⟩ (by decide) rfl
instance : Fld Try.prog 29 2 2 := Fld.of (n := 1) ⟨Try.runUnderlying29⟩ rfl ⟨Try.sizeOf26⟩ (by decide) rfl
instance : Fld Try.prog 29 3 3 := Fld.of (n := 1) ⟨Try.runUnderlying29⟩ rfl ⟨Try.sizeOf27⟩ (by decide) rfl
instance : Places Try.prog 29 (fun i => ([(0, 1), (1, 1), (2, 1), (3, 1)] : List (Nat × Nat))[i]?) := Places.struct ⟨Try.runUnderlying29⟩ (.c Try.sizeOf24 (.c Try.sizeOf25 (.c Try.sizeOf26 (.c Try.sizeOf27 .n))))
instance : Und Try.prog 31 (Go.TypeDesc.slice 3) := ⟨Try.runUnderlying31⟩
instance : IsAgg Try.prog 31 false := ⟨Try.isAgg31⟩
instance : TySize Try.prog 31 1 := ⟨Try.sizeOf31⟩
instance : TyBytes Try.prog 31 24 := ⟨_, Try.typeInfo31, rfl⟩
instance : Zero Try.prog 31 [(Go.Value.slice none 0 0)] := ⟨_, Try.zeroValue31, rfl⟩
instance : Und Try.prog 32 (Go.TypeDesc.int Go.IntKind.i64) := ⟨Try.runUnderlying32⟩
instance : IsAgg Try.prog 32 false := ⟨Try.isAgg32⟩
instance : TySize Try.prog 32 1 := ⟨Try.sizeOf32⟩
instance : TyBytes Try.prog 32 8 := ⟨_, Try.typeInfo32, rfl⟩
instance : Zero Try.prog 32 [(Go.Value.int Go.IntKind.i64 0)] := ⟨_, Try.zeroValue32, rfl⟩
instance : Und Try.prog 38 (Go.TypeDesc.struct #[(Go.Field.mk "Up" 3 0 Bool.false "" "" 0), (Go.Field.mk "Open" 3 1 Bool.false "" "" 8), (Go.Field.mk "Leak" 3 2 Bool.false "" "" 16)]) := ⟨Try.runUnderlying38⟩
instance : IsAgg Try.prog 38 true := ⟨Try.isAgg38⟩
instance : TySize Try.prog 38 3 := ⟨Try.sizeOf38⟩
instance : TyBytes Try.prog 38 24 := ⟨_, Try.typeInfo38, rfl⟩
instance : Zero Try.prog 38 [(Go.Value.int Go.IntKind.i64 0), (Go.Value.int Go.IntKind.i64 0), (Go.Value.int Go.IntKind.i64 0)] := ⟨_, Try.zeroValue38, rfl⟩
instance : Fld Try.prog 38 0 0 := Fld.of (n := 1) ⟨Try.runUnderlying38⟩ rfl ⟨Try.sizeOf3⟩ (by decide) rfl
instance : Fld Try.prog 38 1 1 := Fld.of (n := 1) ⟨Try.runUnderlying38⟩ rfl ⟨Try.sizeOf3⟩ (by decide) rfl
instance : Fld Try.prog 38 2 2 := Fld.of (n := 1) ⟨Try.runUnderlying38⟩ rfl ⟨Try.sizeOf3⟩ (by decide) rfl
instance : Places Try.prog 38 (fun i => ([(0, 1), (1, 1), (2, 1)] : List (Nat × Nat))[i]?) := Places.struct ⟨Try.runUnderlying38⟩ (.c Try.sizeOf3 (.c Try.sizeOf3 (.c Try.sizeOf3 .n)))
instance : Und Try.prog 43 (Go.TypeDesc.struct #[(Go.Field.mk "Load" 31 0 Bool.false "" "" 0), (Go.Field.mk "Out" 3 1 Bool.false "" "" 24), (Go.Field.mk "Pump" 3 2 Bool.false "" "" 32)]) := ⟨Try.runUnderlying43⟩
instance : IsAgg Try.prog 43 true := ⟨Try.isAgg43⟩
instance : TySize Try.prog 43 3 := ⟨Try.sizeOf43⟩
instance : TyBytes Try.prog 43 40 := ⟨_, Try.typeInfo43, rfl⟩
instance : Zero Try.prog 43 [(Go.Value.slice none 0 0), (Go.Value.int Go.IntKind.i64 0), (Go.Value.int Go.IntKind.i64 0)] := ⟨_, Try.zeroValue43, rfl⟩
instance : Fld Try.prog 43 0 0 := Fld.of (n := 1) ⟨Try.runUnderlying43⟩ rfl ⟨Try.sizeOf31⟩ (by decide) rfl
instance : Fld Try.prog 43 1 1 := Fld.of (n := 1) ⟨Try.runUnderlying43⟩ rfl ⟨Try.sizeOf3⟩ (by decide) rfl
instance : Fld Try.prog 43 2 2 := Fld.of (n := 1) ⟨Try.runUnderlying43⟩ rfl ⟨Try.sizeOf3⟩ (by decide) rfl
instance : Places Try.prog 43 (fun i => ([(0, 1), (1, 1), (2, 1)] : List (Nat × Nat))[i]?) := Places.struct ⟨Try.runUnderlying43⟩ (.c Try.sizeOf31 (.c Try.sizeOf3 (.c Try.sizeOf3 .n)))
instance : Und Try.prog 48 (Go.TypeDesc.struct #[(Go.Field.mk "Store" 3 0 Bool.false "" "" 0), (Go.Field.mk "Limit" 3 1 Bool.false "" "" 8)]) := ⟨Try.runUnderlying48⟩
instance : IsAgg Try.prog 48 true := ⟨Try.isAgg48⟩
instance : TySize Try.prog 48 2 := ⟨Try.sizeOf48⟩
instance : TyBytes Try.prog 48 16 := ⟨_, Try.typeInfo48, rfl⟩
instance : Zero Try.prog 48 [(Go.Value.int Go.IntKind.i64 0), (Go.Value.int Go.IntKind.i64 0)] := ⟨_, Try.zeroValue48, rfl⟩
instance : Fld Try.prog 48 0 0 := Fld.of (n := 1) ⟨Try.runUnderlying48⟩ rfl ⟨Try.sizeOf3⟩ (by decide) rfl
instance : Fld Try.prog 48 1 1 := Fld.of (n := 1) ⟨Try.runUnderlying48⟩ rfl ⟨Try.sizeOf3⟩ (by decide) rfl
instance : Places Try.prog 48 (fun i => ([(0, 1), (1, 1)] : List (Nat × Nat))[i]?) := Places.struct ⟨Try.runUnderlying48⟩ (.c Try.sizeOf3 (.c Try.sizeOf3 .n))
instance : Und Try.prog 50 (Go.TypeDesc.struct #[(Go.Field.mk "A" 3 0 Bool.false "" "" 0), (Go.Field.mk "B" 3 1 Bool.false "" "" 8), (Go.Field.mk "Pass" 3 2 Bool.false "" "" 16)]) := ⟨Try.runUnderlying50⟩
instance : IsAgg Try.prog 50 true := ⟨Try.isAgg50⟩
instance : TySize Try.prog 50 3 := ⟨Try.sizeOf50⟩
instance : TyBytes Try.prog 50 24 := ⟨_, Try.typeInfo50, rfl⟩
instance : Zero Try.prog 50 [(Go.Value.int Go.IntKind.i64 0), (Go.Value.int Go.IntKind.i64 0), (Go.Value.int Go.IntKind.i64 0)] := ⟨_, Try.zeroValue50, rfl⟩
instance : Fld Try.prog 50 0 0 := Fld.of (n := 1) ⟨Try.runUnderlying50⟩ rfl ⟨Try.sizeOf3⟩ (by decide) rfl
instance : Fld Try.prog 50 1 1 := Fld.of (n := 1) ⟨Try.runUnderlying50⟩ rfl ⟨Try.sizeOf3⟩ (by decide) rfl
instance : Fld Try.prog 50 2 2 := Fld.of (n := 1) ⟨Try.runUnderlying50⟩ rfl ⟨Try.sizeOf3⟩ (by decide) rfl
instance : Places Try.prog 50 (fun i => ([(0, 1), (1, 1), (2, 1)] : List (Nat × Nat))[i]?) := Places.struct ⟨Try.runUnderlying50⟩ (.c Try.sizeOf3 (.c Try.sizeOf3 (.c Try.sizeOf3 .n)))
instance : Und Try.prog 52 (Go.TypeDesc.struct #[(Go.Field.mk "Room" 3 0 Bool.false "" "" 0), (Go.Field.mk "Branch" 3 1 Bool.false "" "" 8), (Go.Field.mk "Gain" 3 2 Bool.false "" "" 16), (Go.Field.mk "Carry" 3 3 Bool.false "" "" 24), (Go.Field.mk "Supply" 3 4 Bool.false "" "" 32)]) := ⟨Try.runUnderlying52⟩
instance : IsAgg Try.prog 52 true := ⟨Try.isAgg52⟩
instance : TySize Try.prog 52 5 := ⟨Try.sizeOf52⟩
instance : TyBytes Try.prog 52 40 := ⟨_, Try.typeInfo52, rfl⟩
instance : Zero Try.prog 52 [(Go.Value.int Go.IntKind.i64 0), (Go.Value.int Go.IntKind.i64 0), (Go.Value.int Go.IntKind.i64 0), (Go.Value.int Go.IntKind.i64 0), (Go.Value.int Go.IntKind.i64 0)] := ⟨_, Try.zeroValue52, rfl⟩
instance : Fld Try.prog 52 0 0 := Fld.of (n := 1) ⟨Try.runUnderlying52⟩ rfl ⟨Try.sizeOf3⟩ (by decide) rfl
instance : Fld Try.prog 52 1 1 := Fld.of (n := 1) ⟨Try.runUnderlying52⟩ rfl ⟨Try.sizeOf3⟩ (by decide) rfl
instance : Fld Try.prog 52 2 2 := Fld.of (n := 1) ⟨Try.runUnderlying52⟩ rfl ⟨Try.sizeOf3⟩ (by decide) rfl
instance : Fld Try.prog 52 3 3 := Fld.of (n := 1) ⟨Try.runUnderlying52⟩ rfl ⟨Try.sizeOf3⟩ (by decide) rfl
instance : Fld Try.prog 52 4 4 := Fld.of (n := 1) ⟨Try.runUnderlying52⟩ rfl ⟨Try.sizeOf3⟩ (by decide) rfl
instance : Places Try.prog 52 (fun i => ([(0, 1), (1, 1), (2, 1), (3, 1), (4, 1)] : List (Nat × Nat))[i]?) := Places.struct ⟨Try.runUnderlying52⟩ (.c Try.sizeOf3 (.c Try.sizeOf3 (.c Try.sizeOf3 (.c Try.sizeOf3 (.c Try.sizeOf3 .n)))))
instance : Und Try.prog 57 (Go.TypeDesc.struct #[(Go.Field.mk "Low" 43 0 Bool.false "" "" 0), (Go.Field.mk "High" 43 3 Bool.false "" "" 40)]) := ⟨Try.runUnderlying57⟩
instance : IsAgg Try.prog 57 true := ⟨Try.isAgg57⟩
instance : TySize Try.prog 57 6 := ⟨Try.sizeOf57⟩
instance : TyBytes Try.prog 57 80 := ⟨_, Try.typeInfo57, rfl⟩
instance : Zero Try.prog 57 [(Go.Value.slice none 0 0), (Go.Value.int Go.IntKind.i64 0), (Go.Value.int Go.IntKind.i64 0), (Go.Value.slice none 0 0), (Go.Value.int Go.IntKind.i64 0), (Go.Value.int Go.IntKind.i64 0)] := ⟨_, Try.zeroValue57, rfl⟩
instance : Fld Try.prog 57 0 0 := Fld.of (n := 3) ⟨Try.runUnderlying57⟩ rfl ⟨Try.sizeOf43⟩ (by decide) rfl
instance : Fld Try.prog 57 1 3 := Fld.of (n := 3) ⟨Try.runUnderlying57⟩ rfl ⟨Try.sizeOf43⟩ (by decide) rfl
instance : Places Try.prog 57 (fun i => ([(0, 3), (3, 3)] : List (Nat × Nat))[i]?) := Places.struct ⟨Try.runUnderlying57⟩ (.c Try.sizeOf43 (.c Try.sizeOf43 .n))
instance : Und Try.prog 69 (Go.TypeDesc.slice 123) := ⟨Try.runUnderlying69⟩
instance : IsAgg Try.prog 69 false := ⟨Try.isAgg69⟩
instance : TySize Try.prog 69 1 := ⟨Try.sizeOf69⟩
instance : TyBytes Try.prog 69 24 := ⟨_, Try.typeInfo69, rfl⟩
instance : Zero Try.prog 69 [(Go.Value.slice none 0 0)] := ⟨_, Try.zeroValue69, rfl⟩
instance : Und Try.prog 70 (Go.TypeDesc.slice 124) := ⟨Try.runUnderlying70⟩
instance : IsAgg Try.prog 70 false := ⟨Try.isAgg70⟩
instance : TySize Try.prog 70 1 := ⟨Try.sizeOf70⟩
instance : TyBytes Try.prog 70 24 := ⟨_, Try.typeInfo70, rfl⟩
instance : Zero Try.prog 70 [(Go.Value.slice none 0 0)] := ⟨_, Try.zeroValue70, rfl⟩
instance : Und Try.prog 71 (Go.TypeDesc.slice 125) := ⟨Try.runUnderlying71⟩
instance : IsAgg Try.prog 71 false := ⟨Try.isAgg71⟩
instance : TySize Try.prog 71 1 := ⟨Try.sizeOf71⟩
instance : TyBytes Try.prog 71 24 := ⟨_, Try.typeInfo71, rfl⟩
instance : Zero Try.prog 71 [(Go.Value.slice none 0 0)] := ⟨_, Try.zeroValue71, rfl⟩
instance : Und Try.prog 72 (Go.TypeDesc.slice 126) := ⟨Try.runUnderlying72⟩
instance : IsAgg Try.prog 72 false := ⟨Try.isAgg72⟩
instance : TySize Try.prog 72 1 := ⟨Try.sizeOf72⟩
instance : TyBytes Try.prog 72 24 := ⟨_, Try.typeInfo72, rfl⟩
instance : Zero Try.prog 72 [(Go.Value.slice none 0 0)] := ⟨_, Try.zeroValue72, rfl⟩
instance : Und Try.prog 74 (Go.TypeDesc.struct #[(Go.Field.mk "Rooms" 69 0 Bool.false "" "" 0), (Go.Field.mk "Walls" 70 1 Bool.false "" "" 24), (Go.Field.mk "Branches" 71 2 Bool.false "" "" 48), (Go.Field.mk "Coolers" 72 3 Bool.false "" "" 72)]) := ⟨Try.runUnderlying74⟩
instance : IsAgg Try.prog 74 true := ⟨Try.isAgg74⟩
instance : TySize Try.prog 74 4 := ⟨Try.sizeOf74⟩
instance : TyBytes Try.prog 74 96 := ⟨_, Try.typeInfo74, rfl⟩
instance : Zero Try.prog 74 [(Go.Value.slice none 0 0), (Go.Value.slice none 0 0), (Go.Value.slice none 0 0), (Go.Value.slice none 0 0)] := ⟨_, Try.zeroValue74, rfl⟩
instance : Fld Try.prog 74 0 0 := Fld.of (n := 1) ⟨Try.runUnderlying74⟩ rfl ⟨Try.sizeOf69⟩ (by decide) rfl
instance : Fld Try.prog 74 1 1 := Fld.of (n := 1) ⟨Try.runUnderlying74⟩ rfl ⟨Try.sizeOf70⟩ (by decide) rfl
instance : Fld Try.prog 74 2 2 := Fld.of (n := 1) ⟨Try.runUnderlying74⟩ rfl ⟨Try.sizeOf71⟩ (by decide) rfl
instance : Fld Try.prog 74 3 3 := Fld.of (n := 1) ⟨Try.runUnderlying74⟩ rfl ⟨Try.sizeOf72⟩ (by decide) rfl
instance : Places Try.prog 74 (fun i => ([(0, 1), (1, 1), (2, 1), (3, 1)] : List (Nat × Nat))[i]?) := Places.struct ⟨Try.runUnderlying74⟩ (.c Try.sizeOf69 (.c Try.sizeOf70 (.c Try.sizeOf71 (.c Try.sizeOf72 .n))))
instance : Und Try.prog 77 (Go.TypeDesc.pointer 3) := ⟨Try.runUnderlying77⟩
instance : IsAgg Try.prog 77 false := ⟨Try.isAgg77⟩
instance : TySize Try.prog 77 1 := ⟨Try.sizeOf77⟩
instance : TyBytes Try.prog 77 8 := ⟨_, Try.typeInfo77, rfl⟩
instance : Zero Try.prog 77 [(Go.Value.pointer none)] := ⟨_, Try.zeroValue77, rfl⟩
instance : Und Try.prog 78 (Go.TypeDesc.slice 77) := ⟨Try.runUnderlying78⟩
instance : IsAgg Try.prog 78 false := ⟨Try.isAgg78⟩
instance : TySize Try.prog 78 1 := ⟨Try.sizeOf78⟩
instance : TyBytes Try.prog 78 24 := ⟨_, Try.typeInfo78, rfl⟩
instance : Zero Try.prog 78 [(Go.Value.slice none 0 0)] := ⟨_, Try.zeroValue78, rfl⟩
instance : Und Try.prog 80 (Go.TypeDesc.slice 43) := ⟨Try.runUnderlying80⟩
instance : IsAgg Try.prog 80 false := ⟨Try.isAgg80⟩
instance : TySize Try.prog 80 1 := ⟨Try.sizeOf80⟩
instance : TyBytes Try.prog 80 24 := ⟨_, Try.typeInfo80, rfl⟩
instance : Zero Try.prog 80 [(Go.Value.slice none 0 0)] := ⟨_, Try.zeroValue80, rfl⟩
instance : Und Try.prog 82 (Go.TypeDesc.struct #[(Go.Field.mk "Load" 31 0 Bool.false "" "" 0), (Go.Field.mk "Out" 3 1 Bool.false "" "" 24), (Go.Field.mk "Pump" 3 2 Bool.false "" "" 32)]) := ⟨Try.runUnderlying82⟩
instance : IsAgg Try.prog 82 true := ⟨Try.isAgg82⟩
instance : TySize Try.prog 82 3 := ⟨Try.sizeOf82⟩
instance : TyBytes Try.prog 82 40 := ⟨_, Try.typeInfo82, rfl⟩
instance : Zero Try.prog 82 [(Go.Value.slice none 0 0), (Go.Value.int Go.IntKind.i64 0), (Go.Value.int Go.IntKind.i64 0)] := ⟨_, Try.zeroValue82, rfl⟩
instance : Fld Try.prog 82 0 0 := Fld.of (n := 1) ⟨Try.runUnderlying82⟩ rfl ⟨Try.sizeOf31⟩ (by decide) rfl
instance : Fld Try.prog 82 1 1 := Fld.of (n := 1) ⟨Try.runUnderlying82⟩ rfl ⟨Try.sizeOf3⟩ (by decide) rfl
instance : Fld Try.prog 82 2 2 := Fld.of (n := 1) ⟨Try.runUnderlying82⟩ rfl ⟨Try.sizeOf3⟩ (by decide) rfl
instance : Places Try.prog 82 (fun i => ([(0, 1), (1, 1), (2, 1)] : List (Nat × Nat))[i]?) := Places.struct ⟨Try.runUnderlying82⟩ (.c Try.sizeOf31 (.c Try.sizeOf3 (.c Try.sizeOf3 .n)))
instance : Und Try.prog 85 (Go.TypeDesc.slice 29) := ⟨Try.runUnderlying85⟩
instance : IsAgg Try.prog 85 false := ⟨Try.isAgg85⟩
instance : TySize Try.prog 85 1 := ⟨Try.sizeOf85⟩
instance : TyBytes Try.prog 85 24 := ⟨_, Try.typeInfo85, rfl⟩
instance : Zero Try.prog 85 [(Go.Value.slice none 0 0)] := ⟨_, Try.zeroValue85, rfl⟩
instance : Und Try.prog 86 (Go.TypeDesc.slice 31) := ⟨Try.runUnderlying86⟩
instance : IsAgg Try.prog 86 false := ⟨Try.isAgg86⟩
instance : TySize Try.prog 86 1 := ⟨Try.sizeOf86⟩
instance : TyBytes Try.prog 86 24 := ⟨_, Try.typeInfo86, rfl⟩
instance : Zero Try.prog 86 [(Go.Value.slice none 0 0)] := ⟨_, Try.zeroValue86, rfl⟩
instance : Und Try.prog 89 (Go.TypeDesc.slice 22) := ⟨Try.runUnderlying89⟩
instance : IsAgg Try.prog 89 false := ⟨Try.isAgg89⟩
instance : TySize Try.prog 89 1 := ⟨Try.sizeOf89⟩
instance : TyBytes Try.prog 89 24 := ⟨_, Try.typeInfo89, rfl⟩
instance : Zero Try.prog 89 [(Go.Value.slice none 0 0)] := ⟨_, Try.zeroValue89, rfl⟩
instance : Und Try.prog 97 (Go.TypeDesc.pointer 99) := ⟨Try.runUnderlying97⟩
instance : IsAgg Try.prog 97 false := ⟨Try.isAgg97⟩
instance : TySize Try.prog 97 1 := ⟨Try.sizeOf97⟩
instance : TyBytes Try.prog 97 8 := ⟨_, Try.typeInfo97, rfl⟩
instance : Zero Try.prog 97 [(Go.Value.pointer none)] := ⟨_, Try.zeroValue97, rfl⟩
instance : Und Try.prog 99 (Go.TypeDesc.struct #[(Go.Field.mk "l" 22 0 Bool.false "" "switchgear/switchgearlaw07" 0), (Go.Field.mk "i" 3 1 Bool.false "" "switchgear/switchgearlaw07" 24)]) := ⟨Try.runUnderlying99⟩
instance : IsAgg Try.prog 99 true := ⟨Try.isAgg99⟩
instance : TySize Try.prog 99 2 := ⟨Try.sizeOf99⟩
instance : TyBytes Try.prog 99 32 := ⟨_, Try.typeInfo99, rfl⟩
instance : Zero Try.prog 99 [(Go.Value.slice none 0 0), (Go.Value.int Go.IntKind.i64 0)] := ⟨_, Try.zeroValue99, rfl⟩
instance : Fld Try.prog 99 0 0 := Fld.of (n := 1) ⟨Try.runUnderlying99⟩ rfl ⟨Try.sizeOf22⟩ (by decide) rfl
instance : Fld Try.prog 99 1 1 := Fld.of (n := 1) ⟨Try.runUnderlying99⟩ rfl ⟨Try.sizeOf3⟩ (by decide) rfl
instance : Places Try.prog 99 (fun i => ([(0, 1), (1, 1)] : List (Nat × Nat))[i]?) := Places.struct ⟨Try.runUnderlying99⟩ (.c Try.sizeOf22 (.c Try.sizeOf3 .n))
instance : Und Try.prog 100 (Go.TypeDesc.func #[3] #[3] Bool.false) := ⟨Try.runUnderlying100⟩
instance : IsAgg Try.prog 100 false := ⟨Try.isAgg100⟩
instance : TySize Try.prog 100 1 := ⟨Try.sizeOf100⟩
instance : TyBytes Try.prog 100 8 := ⟨_, Try.typeInfo100, rfl⟩
instance : Zero Try.prog 100 [Go.Value.nilFunc] := ⟨_, Try.zeroValue100, rfl⟩
instance : Und Try.prog 109 (Go.TypeDesc.struct #[(Go.Field.mk "Hall" 29 0 Bool.true "" "" 0), (Go.Field.mk "Case" 43 4 Bool.true "" "" 96), (Go.Field.mk "t" 31 7 Bool.false "" "switchgear/heat" 136), (Go.Field.mk "taken" 31 8 Bool.false "" "switchgear/heat" 160)]) := ⟨Try.runUnderlying109⟩
instance : IsAgg Try.prog 109 true := ⟨Try.isAgg109⟩
instance : TySize Try.prog 109 9 := ⟨Try.sizeOf109⟩
instance : TyBytes Try.prog 109 184 := ⟨_, Try.typeInfo109, rfl⟩
instance : Zero Try.prog 109 [(Go.Value.slice none 0 0), (Go.Value.slice none 0 0), (Go.Value.slice none 0 0), (Go.Value.slice none 0 0), (Go.Value.slice none 0 0), (Go.Value.int Go.IntKind.i64 0), (Go.Value.int Go.IntKind.i64 0), (Go.Value.slice none 0 0), (Go.Value.slice none 0 0)] := ⟨_, Try.zeroValue109, rfl⟩
instance : Fld Try.prog 109 0 0 := Fld.of (n := 4) ⟨Try.runUnderlying109⟩ rfl ⟨Try.sizeOf29⟩ (by decide) rfl
instance : Fld Try.prog 109 1 4 := Fld.of (n := 3) ⟨Try.runUnderlying109⟩ rfl ⟨Try.sizeOf43⟩ (by decide) rfl
instance : Fld Try.prog 109 2 7 := Fld.of (n := 1) ⟨Try.runUnderlying109⟩ rfl ⟨Try.sizeOf31⟩ (by decide) rfl
instance : Fld Try.prog 109 3 8 := Fld.of (n := 1) ⟨Try.runUnderlying109⟩ rfl ⟨Try.sizeOf31⟩ (by decide) rfl
instance : Places Try.prog 109 (fun i => ([(0, 4), (4, 3), (7, 1), (8, 1)] : List (Nat × Nat))[i]?) := Places.struct ⟨Try.runUnderlying109⟩ (.c Try.sizeOf29 (.c Try.sizeOf43 (.c Try.sizeOf31 (.c Try.sizeOf31 .n))))
instance : Und Try.prog 115 (Go.TypeDesc.func #[3] #[43] Bool.false) := ⟨Try.runUnderlying115⟩
instance : IsAgg Try.prog 115 false := ⟨Try.isAgg115⟩
instance : TySize Try.prog 115 1 := ⟨Try.sizeOf115⟩
instance : TyBytes Try.prog 115 8 := ⟨_, Try.typeInfo115, rfl⟩
instance : Zero Try.prog 115 [Go.Value.nilFunc] := ⟨_, Try.zeroValue115, rfl⟩
instance : Und Try.prog 123 (Go.TypeDesc.struct #[(Go.Field.mk "Store" 3 0 Bool.false "" "" 0), (Go.Field.mk "Limit" 3 1 Bool.false "" "" 8)]) := ⟨Try.runUnderlying123⟩
instance : IsAgg Try.prog 123 true := ⟨Try.isAgg123⟩
instance : TySize Try.prog 123 2 := ⟨Try.sizeOf123⟩
instance : TyBytes Try.prog 123 16 := ⟨_, Try.typeInfo123, rfl⟩
instance : Zero Try.prog 123 [(Go.Value.int Go.IntKind.i64 0), (Go.Value.int Go.IntKind.i64 0)] := ⟨_, Try.zeroValue123, rfl⟩
instance : Fld Try.prog 123 0 0 := Fld.of (n := 1) ⟨Try.runUnderlying123⟩ rfl ⟨Try.sizeOf3⟩ (by decide) rfl
instance : Fld Try.prog 123 1 1 := Fld.of (n := 1) ⟨Try.runUnderlying123⟩ rfl ⟨Try.sizeOf3⟩ (by decide) rfl
instance : Places Try.prog 123 (fun i => ([(0, 1), (1, 1)] : List (Nat × Nat))[i]?) := Places.struct ⟨Try.runUnderlying123⟩ (.c Try.sizeOf3 (.c Try.sizeOf3 .n))
instance : Und Try.prog 124 (Go.TypeDesc.struct #[(Go.Field.mk "A" 3 0 Bool.false "" "" 0), (Go.Field.mk "B" 3 1 Bool.false "" "" 8), (Go.Field.mk "Pass" 3 2 Bool.false "" "" 16)]) := ⟨Try.runUnderlying124⟩
instance : IsAgg Try.prog 124 true := ⟨Try.isAgg124⟩
instance : TySize Try.prog 124 3 := ⟨Try.sizeOf124⟩
instance : TyBytes Try.prog 124 24 := ⟨_, Try.typeInfo124, rfl⟩
instance : Zero Try.prog 124 [(Go.Value.int Go.IntKind.i64 0), (Go.Value.int Go.IntKind.i64 0), (Go.Value.int Go.IntKind.i64 0)] := ⟨_, Try.zeroValue124, rfl⟩
instance : Fld Try.prog 124 0 0 := Fld.of (n := 1) ⟨Try.runUnderlying124⟩ rfl ⟨Try.sizeOf3⟩ (by decide) rfl
instance : Fld Try.prog 124 1 1 := Fld.of (n := 1) ⟨Try.runUnderlying124⟩ rfl ⟨Try.sizeOf3⟩ (by decide) rfl
instance : Fld Try.prog 124 2 2 := Fld.of (n := 1) ⟨Try.runUnderlying124⟩ rfl ⟨Try.sizeOf3⟩ (by decide) rfl
instance : Places Try.prog 124 (fun i => ([(0, 1), (1, 1), (2, 1)] : List (Nat × Nat))[i]?) := Places.struct ⟨Try.runUnderlying124⟩ (.c Try.sizeOf3 (.c Try.sizeOf3 (.c Try.sizeOf3 .n)))
instance : Und Try.prog 125 (Go.TypeDesc.struct #[(Go.Field.mk "Up" 3 0 Bool.false "" "" 0), (Go.Field.mk "Open" 3 1 Bool.false "" "" 8), (Go.Field.mk "Leak" 3 2 Bool.false "" "" 16)]) := ⟨Try.runUnderlying125⟩
instance : IsAgg Try.prog 125 true := ⟨Try.isAgg125⟩
instance : TySize Try.prog 125 3 := ⟨Try.sizeOf125⟩
instance : TyBytes Try.prog 125 24 := ⟨_, Try.typeInfo125, rfl⟩
instance : Zero Try.prog 125 [(Go.Value.int Go.IntKind.i64 0), (Go.Value.int Go.IntKind.i64 0), (Go.Value.int Go.IntKind.i64 0)] := ⟨_, Try.zeroValue125, rfl⟩
instance : Fld Try.prog 125 0 0 := Fld.of (n := 1) ⟨Try.runUnderlying125⟩ rfl ⟨Try.sizeOf3⟩ (by decide) rfl
instance : Fld Try.prog 125 1 1 := Fld.of (n := 1) ⟨Try.runUnderlying125⟩ rfl ⟨Try.sizeOf3⟩ (by decide) rfl
instance : Fld Try.prog 125 2 2 := Fld.of (n := 1) ⟨Try.runUnderlying125⟩ rfl ⟨Try.sizeOf3⟩ (by decide) rfl
instance : Places Try.prog 125 (fun i => ([(0, 1), (1, 1), (2, 1)] : List (Nat × Nat))[i]?) := Places.struct ⟨Try.runUnderlying125⟩ (.c Try.sizeOf3 (.c Try.sizeOf3 (.c Try.sizeOf3 .n)))
instance : Und Try.prog 126 (Go.TypeDesc.struct #[(Go.Field.mk "Room" 3 0 Bool.false "" "" 0), (Go.Field.mk "Branch" 3 1 Bool.false "" "" 8), (Go.Field.mk "Gain" 3 2 Bool.false "" "" 16), (Go.Field.mk "Carry" 3 3 Bool.false "" "" 24), (Go.Field.mk "Supply" 3 4 Bool.false "" "" 32)]) := ⟨Try.runUnderlying126⟩
instance : IsAgg Try.prog 126 true := ⟨Try.isAgg126⟩
instance : TySize Try.prog 126 5 := ⟨Try.sizeOf126⟩
instance : TyBytes Try.prog 126 40 := ⟨_, Try.typeInfo126, rfl⟩
instance : Zero Try.prog 126 [(Go.Value.int Go.IntKind.i64 0), (Go.Value.int Go.IntKind.i64 0), (Go.Value.int Go.IntKind.i64 0), (Go.Value.int Go.IntKind.i64 0), (Go.Value.int Go.IntKind.i64 0)] := ⟨_, Try.zeroValue126, rfl⟩
instance : Fld Try.prog 126 0 0 := Fld.of (n := 1) ⟨Try.runUnderlying126⟩ rfl ⟨Try.sizeOf3⟩ (by decide) rfl
instance : Fld Try.prog 126 1 1 := Fld.of (n := 1) ⟨Try.runUnderlying126⟩ rfl ⟨Try.sizeOf3⟩ (by decide) rfl
instance : Fld Try.prog 126 2 2 := Fld.of (n := 1) ⟨Try.runUnderlying126⟩ rfl ⟨Try.sizeOf3⟩ (by decide) rfl
instance : Fld Try.prog 126 3 3 := Fld.of (n := 1) ⟨Try.runUnderlying126⟩ rfl ⟨Try.sizeOf3⟩ (by decide) rfl
instance : Fld Try.prog 126 4 4 := Fld.of (n := 1) ⟨Try.runUnderlying126⟩ rfl ⟨Try.sizeOf3⟩ (by decide) rfl
instance : Places Try.prog 126 (fun i => ([(0, 1), (1, 1), (2, 1), (3, 1), (4, 1)] : List (Nat × Nat))[i]?) := Places.struct ⟨Try.runUnderlying126⟩ (.c Try.sizeOf3 (.c Try.sizeOf3 (.c Try.sizeOf3 (.c Try.sizeOf3 (.c Try.sizeOf3 .n)))))
instance : Und Try.prog 128 (Go.TypeDesc.slice 82) := ⟨Try.runUnderlying128⟩
instance : IsAgg Try.prog 128 false := ⟨Try.isAgg128⟩
instance : TySize Try.prog 128 1 := ⟨Try.sizeOf128⟩
instance : TyBytes Try.prog 128 24 := ⟨_, Try.typeInfo128, rfl⟩
instance : Zero Try.prog 128 [(Go.Value.slice none 0 0)] := ⟨_, Try.zeroValue128, rfl⟩
instance : Und Try.prog 137 (Go.TypeDesc.struct #[(Go.Field.mk "Low" 82 0 Bool.false "" "" 0), (Go.Field.mk "High" 82 3 Bool.false "" "" 40)]) := ⟨Try.runUnderlying137⟩
instance : IsAgg Try.prog 137 true := ⟨Try.isAgg137⟩
instance : TySize Try.prog 137 6 := ⟨Try.sizeOf137⟩
instance : TyBytes Try.prog 137 80 := ⟨_, Try.typeInfo137, rfl⟩
instance : Zero Try.prog 137 [(Go.Value.slice none 0 0), (Go.Value.int Go.IntKind.i64 0), (Go.Value.int Go.IntKind.i64 0), (Go.Value.slice none 0 0), (Go.Value.int Go.IntKind.i64 0), (Go.Value.int Go.IntKind.i64 0)] := ⟨_, Try.zeroValue137, rfl⟩
instance : Fld Try.prog 137 0 0 := Fld.of (n := 3) ⟨Try.runUnderlying137⟩ rfl ⟨Try.sizeOf82⟩ (by decide) rfl
instance : Fld Try.prog 137 1 3 := Fld.of (n := 3) ⟨Try.runUnderlying137⟩ rfl ⟨Try.sizeOf82⟩ (by decide) rfl
instance : Places Try.prog 137 (fun i => ([(0, 3), (3, 3)] : List (Nat × Nat))[i]?) := Places.struct ⟨Try.runUnderlying137⟩ (.c Try.sizeOf82 (.c Try.sizeOf82 .n))
instance : Und Try.prog 145 (Go.TypeDesc.slice 32) := ⟨Try.runUnderlying145⟩
instance : IsAgg Try.prog 145 false := ⟨Try.isAgg145⟩
instance : TySize Try.prog 145 1 := ⟨Try.sizeOf145⟩
instance : TyBytes Try.prog 145 24 := ⟨_, Try.typeInfo145, rfl⟩
instance : Zero Try.prog 145 [(Go.Value.slice none 0 0)] := ⟨_, Try.zeroValue145, rfl⟩
instance : Und Try.prog 149 (Go.TypeDesc.int Go.IntKind.u64) := ⟨Try.runUnderlying149⟩
instance : IsAgg Try.prog 149 false := ⟨Try.isAgg149⟩
instance : TySize Try.prog 149 1 := ⟨Try.sizeOf149⟩
instance : TyBytes Try.prog 149 8 := ⟨_, Try.typeInfo149, rfl⟩
instance : Zero Try.prog 149 [(Go.Value.int Go.IntKind.u64 0)] := ⟨_, Try.zeroValue149, rfl⟩
instance : Und Try.prog 152 (Go.TypeDesc.func #[3, 3] #[] Bool.false) := ⟨Try.runUnderlying152⟩
instance : IsAgg Try.prog 152 false := ⟨Try.isAgg152⟩
instance : TySize Try.prog 152 1 := ⟨Try.sizeOf152⟩
instance : TyBytes Try.prog 152 8 := ⟨_, Try.typeInfo152, rfl⟩
instance : Zero Try.prog 152 [Go.Value.nilFunc] := ⟨_, Try.zeroValue152, rfl⟩
instance : Und Try.prog 156 (Go.TypeDesc.array 3 100) := ⟨Try.runUnderlying156⟩
instance : IsAgg Try.prog 156 true := ⟨Try.isAgg156⟩
instance : TySize Try.prog 156 3 := ⟨Try.sizeOf156⟩
instance : TyBytes Try.prog 156 24 := ⟨_, Try.typeInfo156, rfl⟩
instance : Zero Try.prog 156 [Go.Value.nilFunc, Go.Value.nilFunc, Go.Value.nilFunc] := ⟨_, Try.zeroValue156, rfl⟩
instance : Places Try.prog 156 (fun i => some (i * 1, 1)) := Places.array ⟨Try.runUnderlying156⟩ ⟨Try.sizeOf100⟩
instance : Und Try.prog 172 (Go.TypeDesc.int Go.IntKind.u32) := ⟨Try.runUnderlying172⟩
instance : IsAgg Try.prog 172 false := ⟨Try.isAgg172⟩
instance : TySize Try.prog 172 1 := ⟨Try.sizeOf172⟩
instance : TyBytes Try.prog 172 4 := ⟨_, Try.typeInfo172, rfl⟩
instance : Zero Try.prog 172 [(Go.Value.int Go.IntKind.u32 0)] := ⟨_, Try.zeroValue172, rfl⟩
instance : Und Try.prog 175 (Go.TypeDesc.int Go.IntKind.u64) := ⟨Try.runUnderlying175⟩
instance : IsAgg Try.prog 175 false := ⟨Try.isAgg175⟩
instance : TySize Try.prog 175 1 := ⟨Try.sizeOf175⟩
instance : TyBytes Try.prog 175 8 := ⟨_, Try.typeInfo175, rfl⟩
instance : Zero Try.prog 175 [(Go.Value.int Go.IntKind.u64 0)] := ⟨_, Try.zeroValue175, rfl⟩
theorem _root_.Go.Proofs.Try.mixed : Try.prog.follows .mixedOrders = true := by kernel_rfl
end Go.X

set_option linter.unusedSimpArgs false
set_option linter.unusedVariables false
set_option maxRecDepth 20000
namespace Go.X
open Go.Proofs
def encRoom (x : HRoom) : List Value := [.int .i64 x.store, .int .i64 x.limit]
def encWall (x : HWall) : List Value := [.int .i64 x.a, .int .i64 x.b, .int .i64 x.pass]
def encBranch (x : HBranch) : List Value := [.int .i64 x.up, .int .i64 x.opn, .int .i64 x.leak]
def encCooler (x : HCooler) : List Value := [.int .i64 x.room, .int .i64 x.br, .int .i64 x.gain, .int .i64 x.carry, .int .i64 x.supply]
theorem okRoom_iff {x : HRoom} : okRoom x = true ↔ ¬ ((x.store < 1 ∨ 1000000 < x.store) ∨ ¬ inP x.limit 1000000 = true) := by
  simp only [okRoom, Bool.and_eq_true, decide_eq_true_eq, not_or, Classical.not_not]
  constructor <;> rintro ⟨⟨a, b⟩, c⟩ <;> exact ⟨⟨by omega, by omega⟩, c⟩
theorem okWall_iff {n : Nat} {x : HWall} : okWall n x = true ↔ ¬ (((¬ ixP x.a n = true ∨ x.b ≠ -1 ∧ ¬ ixP x.b n = true) ∨ x.a = x.b) ∨ ¬ inP x.pass 100000 = true) := by
  simp only [okWall, Bool.and_eq_true, Bool.or_eq_true, decide_eq_true_eq, not_or, Classical.not_not, not_and]
  constructor
  · rintro ⟨⟨⟨a, b⟩, c⟩, d⟩
    exact ⟨⟨⟨a, fun h => b.resolve_left h⟩, c⟩, d⟩
  · rintro ⟨⟨⟨a, b⟩, c⟩, d⟩
    exact ⟨⟨⟨a, if h : x.b = -1 then .inl h else .inr (b h)⟩, c⟩, d⟩
theorem okBranch_iff {i : Nat} {x : HBranch} : okBranch i x = true ↔ ¬ ((((i : Int) = 0 ∧ x.up ≠ -1 ∨ (0 : Int) < i ∧ ¬ ixP x.up i = true) ∨ ¬ inP x.opn 100 = true) ∨ ¬ inP x.leak 100000 = true) := by
  unfold okBranch
  by_cases h : i = 0
  · subst h; simp [and_assoc]
  · have h1 : ¬ (i : Int) = 0 := by omega
    have h2 : (0 : Int) < i := by omega
    have h3 : 0 < i := by omega
    simp [h, h2, h3, and_assoc]
theorem okCooler_iff {n m : Nat} {x : HCooler} : okCooler n m x = true ↔ ¬ ((((¬ ixP x.room n = true ∨ ¬ ixP x.br m = true) ∨ ¬ inP x.gain 100000 = true) ∨ ¬ inP x.carry 1000 = true) ∨ ¬ inP x.supply 1000000 = true) := by
  simp only [okCooler, Bool.and_eq_true, not_or, Classical.not_not]
theorem in_spec (n m : Int) : Spec Try.prog 37 #[.int .i64 n, .int .i64 m] [] [] (fun v hs => v = .bool (inP n m) ∧ hs = []) := by
  refine Spec.intro (fn := Try.f37) (N := 12) Try.func37 rfl Try.ntmps37 rfl fun B => ?_
  refine XK.seq (XK.region rfl (XO.q (Q.assign rfl) (XO.done (XK.seq (XK.region rfl ?_)))))
  refine XO.q (Q.move rfl) ?_
  refine XO.q (Q.geq rfl rfl) ?_
  refine XO.q (Q.move rfl) ?_
  refine XO.q (Quiet.guardT rfl rfl fun g8 p8 => Q.move rfl) ?_
  refine XO.q (Quiet.guardT rfl rfl fun g9 p9 => Q.move rfl) ?_
  refine XO.q (Quiet.guardT rfl rfl fun g10 p10 => Q.leq (lzv g10 rfl) (lzv g10 rfl)) ?_
  refine XO.q (Q.and rfl (fun hp => lzv hp rfl)) ?_
  refine XO.q (Q.assign rfl) (XO.done ?_)
  refine XK.rt [] Try.func37 Try.results37 (.t rfl .n) ?_
  exact ⟨rfl, rfl⟩
theorem indexRoom (n : Int) (v : Value) (hh : PHeap) (xs : List HRoom) [s : Arr v encRoom 2 hh xs] : Spec Try.prog 102 #[.int .i64 n, v] [] [hh] (fun v hs => v = .bool (ixP n xs.length) ∧ hs = []) := by
  refine Spec.intro (fn := Try.f102) (N := 13) Try.func102 rfl Try.ntmps102 rfl fun B => ?_
  refine XK.seq (XK.region rfl (XO.q (Q.assign rfl) (XO.done (XK.seq (XK.region rfl ?_)))))
  refine XO.q (Q.move rfl) ?_
  refine XO.q (Q.geq rfl rfl) ?_
  refine XO.q (Q.move rfl) ?_
  refine XO.q (Quiet.guardT rfl rfl fun g8 p8 => Q.move rfl) ?_
  refine XO.q (Quiet.guardT rfl rfl fun g9 p9 => Q.move rfl) ?_
  refine XO.q (Quiet.guardT rfl rfl fun g10 p10 => Q.len (lzv g10 rfl)) ?_
  refine XO.q (Quiet.guardT rfl rfl fun g11 p11 => Q.lss (lzv g11 rfl) (lzv g11 rfl)) ?_
  refine XO.q (Q.and rfl (fun hp => lzv hp rfl)) ?_
  refine XO.q (Q.assign rfl) (XO.done ?_)
  refine XK.rt [] Try.func102 Try.results102 (.t rfl .n) ?_
  exact ⟨rfl, rfl⟩
theorem indexBranch (n : Int) (v : Value) (hh : PHeap) (xs : List HBranch) [s : Arr v encBranch 3 hh xs] : Spec Try.prog 103 #[.int .i64 n, v] [] [hh] (fun v hs => v = .bool (ixP n xs.length) ∧ hs = []) := by
  refine Spec.intro (fn := Try.f103) (N := 13) Try.func103 rfl Try.ntmps103 rfl fun B => ?_
  refine XK.seq (XK.region rfl (XO.q (Q.assign rfl) (XO.done (XK.seq (XK.region rfl ?_)))))
  refine XO.q (Q.move rfl) ?_
  refine XO.q (Q.geq rfl rfl) ?_
  refine XO.q (Q.move rfl) ?_
  refine XO.q (Quiet.guardT rfl rfl fun g8 p8 => Q.move rfl) ?_
  refine XO.q (Quiet.guardT rfl rfl fun g9 p9 => Q.move rfl) ?_
  refine XO.q (Quiet.guardT rfl rfl fun g10 p10 => Q.len (lzv g10 rfl)) ?_
  refine XO.q (Quiet.guardT rfl rfl fun g11 p11 => Q.lss (lzv g11 rfl) (lzv g11 rfl)) ?_
  refine XO.q (Q.and rfl (fun hp => lzv hp rfl)) ?_
  refine XO.q (Q.assign rfl) (XO.done ?_)
  refine XK.rt [] Try.func103 Try.results103 (.t rfl .n) ?_
  exact ⟨rfl, rfl⟩
theorem indexCut (n : Int) (v : Value) (hh : PHeap) (xs : List HBranch) [s : Arr v encBranch 3 hh xs] (i : Nat) (hi : i ≤ xs.length) : Spec Try.prog 103 #[.int .i64 n, cutv v 3 0 i] [] [hh] (fun v hs => v = .bool (ixP n i) ∧ hs = []) := by
  haveI := Arr.cut s (i := 0) (j := i) (by omega) hi
  have h := indexBranch n (cutv v 3 0 i) hh ((xs.drop 0).take (i - 0))
  rwa [List.drop_zero, Nat.sub_zero, List.length_take, Nat.min_eq_left hi] at h
theorem allowed_spec (h : Hall) (vr vw vb vc : Value) (hr hw hb hc : PHeap) [ir : Arr vr encRoom 2 hr h.rooms] [iw : Arr vw encWall 3 hw h.walls] [ib : Arr vb encBranch 3 hb h.branches] [ic : Arr vc encCooler 5 hc h.coolers] : Spec Try.prog 73 #[.agg #[vr, vw, vb, vc]] [] [hr, hw, hb, hc] (fun v hs => v = .bool (allowedP h) ∧ hs = []) := by
  have lr := ir.le
  have lw := iw.le
  have lb := ib.le
  have lc := ic.le
  refine Spec.intro (fn := Try.f73) (N := 155) Try.func73 rfl Try.ntmps73 rfl fun B => ?_
  refine XK.seq (XK.region rfl ?_)
  refine XO.box rfl fun b1 => ?_
  refine XO.q (Q.assign rfl) (XO.done (XK.seq (XK.seq (XK.region rfl ?_))))
  refine XO.q (Q.fieldAddr rfl) ?_
  refine XO.q (Q.ld rfl rfl) ?_
  refine XO.len rfl fun l13 => ?_
  refine XO.q (Q.move rfl) (XO.done (XK.block ?_))
  refine XK.while (X := Nat) [2, 4, 14, 15, 16, 17, 18, 19, 20, 21, 22, 23, 24, 25, 26, 27, 28, 29, 30, 31, 32] (fun i => [(14, some (.int .i64 (i : Nat)))]) (fun i => []) (fun i => i ≤ h.rooms.length ∧ roomsOk h i = true) (fun i => h.rooms.length - i) (0) [] rfl ⟨by omega, rfl⟩ (.c rfl (.base 0 rfl rfl)) ?_
  rintro i ⟨hi, hall⟩ ih0
  dsimp only [lcA, lnA] at ih0 ⊢
  refine XK.seq (XK.region rfl ?_)
  refine XO.q (Q.lss rfl rfl) ?_
  refine XO.done (XK.seq ?_)
  refine XK.if rfl (fun c0 => ?_) (fun c0 => ?_)
  · skip
    refine XK.skip (XK.seq (XK.block (XK.seq (XK.region rfl ?_))))
    refine XO.ix rfl rfl (by omega) (by omega) fun i16 => ?_
    refine XO.q (Q.ldEA [_, _] rfl (by first | assumption | omega) rfl rfl) ?_
    refine XO.alloc fun b4 => ?_
    refine XO.st rfl rfl rfl ?_
    refine XO.done (XK.seq (XK.region rfl ?_))
    refine XO.q (Q.fieldAddr rfl) ?_
    refine XO.q (Q.ld rfl rfl) ?_
    refine XO.q (Q.lss rfl rfl) ?_
    refine XO.q (Q.move rfl) ?_
    refine XO.q (Quiet.guardF rfl rfl fun g22 p22 => Q.fieldAddr rfl) ?_
    refine XO.q (Quiet.guardF rfl rfl fun g23 p23 => Q.ld (lzv g23 rfl) rfl) ?_
    refine XO.q (Quiet.guardF rfl rfl fun g24 p24 => Q.gtr (lzv g24 rfl) rfl) ?_
    refine XO.q (Q.or rfl (fun hp => lzv hp rfl)) ?_
    refine XO.q (Q.move rfl) ?_
    refine XO.q (Quiet.guardF rfl rfl fun g27 p27 => Q.fieldAddr rfl) ?_
    refine XO.q (Quiet.guardF rfl rfl fun g28 p28 => Q.ld (lzv g28 rfl) rfl) ?_
    refine XO.gcallF rfl rfl Try.call37 rfl (fun g29 => .c (lzv g29 rfl) (.c rfl .n)) rfl (fun g29 p29 => in_spec _ _) ?_
    refine XO.q (Quiet.guardF rfl rfl fun g30 p30 => Q.not (lzv g30 rfl)) ?_
    refine XO.q (Q.or rfl (fun hp => lzv hp rfl)) ?_
    refine XO.done ?_
    refine XK.if rfl (fun c1 => ?_) (fun c1 => ?_)
    · skip
      refine XK.seq (XK.region rfl (XO.q (Q.assign rfl) (XO.done ?_)))
      refine XK.rt [] Try.func73 Try.results73 (.t rfl .n) ?_
      have hb : roomsOk h h.rooms.length = false := allTo_false (s := i) (by omega) (by rw [Bool.eq_false_iff]; intro h; exact (okRoom_iff.1 h) c1)
      exact ⟨by simp [allowedP, hb], rfl⟩
    · skip
      refine XK.skip ?_
      refine XK.inBlock ?_
      refine XK.region rfl ?_
      refine XO.q (Q.add rfl rfl ⟨by omega, by omega⟩) ?_
      refine XO.q (Q.move rfl) (XO.done ?_)
      exact ih0 (i + 1) _ _ ⟨by omega, by rw [roomsOk, allTo_succ]; rw [roomsOk] at hall; rw [hall, Bool.true_and]; exact okRoom_iff.2 c1⟩ (by first | omega | (dsimp only; omega)) (.c rfl (.base 42 rfl rfl)) inferInstance
  · skip
    have e1 : roomsOk h h.rooms.length = true := by rw [show h.rooms.length = i by omega]; exact hall
    clear ih0 hall hi c0
    refine XK.exit rfl ?_
    refine XK.seq (XK.seq (XK.region rfl ?_))
    refine XO.q (Q.fieldAddr rfl) ?_
    refine XO.q (Q.ld rfl rfl) ?_
    refine XO.len rfl fun l35 => ?_
    refine XO.q (Q.move rfl) (XO.done (XK.block ?_))
    refine XK.while (X := Nat) [2, 6, 36, 37, 38, 39, 40, 41, 42, 43, 44, 45, 46, 47, 48, 49, 50, 51, 52, 53, 54, 55, 56, 57, 58, 59, 60, 61, 62, 63, 64, 65, 66, 67, 68, 69, 70, 71, 72] (fun i => [(36, some (.int .i64 (i : Nat)))]) (fun i => []) (fun i => i ≤ h.walls.length ∧ wallsOk h i = true) (fun i => h.walls.length - i) (0) [] rfl ⟨by omega, rfl⟩ (.c rfl (.base 0 rfl rfl)) ?_
    rintro i ⟨hi, hall⟩ ih1
    dsimp only [lcA, lnA] at ih1 ⊢
    refine XK.seq (XK.region rfl ?_)
    refine XO.q (Q.lss rfl rfl) ?_
    refine XO.done (XK.seq ?_)
    refine XK.if rfl (fun c2 => ?_) (fun c2 => ?_)
    · skip
      refine XK.skip (XK.seq (XK.block (XK.seq (XK.region rfl ?_))))
      refine XO.ix rfl rfl (by omega) (by omega) fun i38 => ?_
      refine XO.q (Q.ldEA [_, _, _] rfl (by first | assumption | omega) rfl rfl) ?_
      refine XO.alloc fun b6 => ?_
      refine XO.st rfl rfl rfl ?_
      refine XO.done (XK.seq (XK.region rfl ?_))
      refine XO.q (Q.fieldAddr rfl) ?_
      refine XO.q (Q.ld rfl rfl) ?_
      refine XO.q (Q.fieldAddr rfl) ?_
      refine XO.q (Q.ld rfl rfl) ?_
      refine XO.call Try.call102 rfl rfl rfl (indexRoom _ vr hr h.rooms) fun v44 s44 R44 => ?_
      obtain ⟨rfl, rfl⟩ := R44
      dsimp only [lcA, lnA]
      refine XO.q (Q.not rfl) ?_
      refine XO.q (Q.move rfl) ?_
      refine XO.q (Quiet.guardF rfl rfl fun g47 p47 => Q.fieldAddr rfl) ?_
      refine XO.q (Quiet.guardF rfl rfl fun g48 p48 => Q.ld (lzv g48 rfl) rfl) ?_
      refine XO.q (Quiet.guardF rfl rfl fun g49 p49 => Q.neq (lzv g49 rfl) rfl) ?_
      refine XO.q (Quiet.guardF rfl rfl fun g50 p50 => Q.move (lzv g50 rfl)) ?_
      refine XO.q (Quiet.guard2 rfl rfl fun g51a g51b => have p51a := bpF g51a; have p51b := bpT g51b; Q.fieldAddr rfl) ?_
      refine XO.q (Quiet.guard2 rfl rfl fun g52a g52b => have p52a := bpF g52a; have p52b := bpT g52b; Q.ld (lzv g52b (lzv g52a rfl)) rfl) ?_
      refine XO.q (Quiet.guard2 rfl rfl fun g53a g53b => have p53a := bpF g53a; have p53b := bpT g53b; Q.fieldAddr rfl) ?_
      refine XO.q (Quiet.guard2 rfl rfl fun g54a g54b => have p54a := bpF g54a; have p54b := bpT g54b; Q.ld (lzv g54b (lzv g54a rfl)) rfl) ?_
      refine XO.vg2 rfl rfl (fun g55a g55b => rfl) (fun g55a g55b => .c (lzv g55b (lzv g55a rfl)) (.c (lzv g55b (lzv g55a rfl)) .n)) (fun g55a g55b => have p55a := bpF g55a; have p55b := bpT g55b; VSpec.fn (P := Try.prog) Try.call102 rfl (indexRoom _ vr hr h.rooms)) ?_
      refine XO.q (Quiet.guard2 rfl rfl fun g56a g56b => have p56a := bpF g56a; have p56b := bpT g56b; Q.not (lzv g56b (lzv g56a rfl))) ?_
      refine XO.q (Quiet.guardF rfl rfl fun g57 p57 => Q.and (lzv g57 rfl) (fun hp => (lzv hp (lzv g57 rfl)))) ?_
      refine XO.q (Q.or rfl (fun hp => lzv hp rfl)) ?_
      refine XO.q (Q.move rfl) ?_
      refine XO.q (Quiet.guardF rfl rfl fun g60 p60 => Q.fieldAddr rfl) ?_
      refine XO.q (Quiet.guardF rfl rfl fun g61 p61 => Q.ld (lzv g61 rfl) rfl) ?_
      refine XO.q (Quiet.guardF rfl rfl fun g62 p62 => Q.fieldAddr rfl) ?_
      refine XO.q (Quiet.guardF rfl rfl fun g63 p63 => Q.ld (lzv g63 rfl) rfl) ?_
      refine XO.q (Quiet.guardF rfl rfl fun g64 p64 => Q.eql (lzv g64 rfl) (lzv g64 rfl)) ?_
      refine XO.q (Q.or rfl (fun hp => lzv hp rfl)) ?_
      refine XO.q (Q.move rfl) ?_
      refine XO.q (Quiet.guardF rfl rfl fun g67 p67 => Q.fieldAddr rfl) ?_
      refine XO.q (Quiet.guardF rfl rfl fun g68 p68 => Q.ld (lzv g68 rfl) rfl) ?_
      refine XO.gcallF rfl rfl Try.call37 rfl (fun g69 => .c (lzv g69 rfl) (.c rfl .n)) rfl (fun g69 p69 => in_spec _ _) ?_
      refine XO.q (Quiet.guardF rfl rfl fun g70 p70 => Q.not (lzv g70 rfl)) ?_
      refine XO.q (Q.or rfl (fun hp => lzv hp rfl)) ?_
      refine XO.done ?_
      refine XK.if rfl (fun c3 => ?_) (fun c3 => ?_)
      · skip
        refine XK.seq (XK.region rfl (XO.q (Q.assign rfl) (XO.done ?_)))
        refine XK.rt [] Try.func73 Try.results73 (.t rfl .n) ?_
        have hb : wallsOk h h.walls.length = false := allTo_false (s := i) (by omega) (by rw [Bool.eq_false_iff]; intro h; exact (okWall_iff.1 h) c3)
        exact ⟨by simp [allowedP, hb], rfl⟩
      · skip
        refine XK.skip ?_
        refine XK.inBlock ?_
        refine XK.region rfl ?_
        refine XO.q (Q.add rfl rfl ⟨by omega, by omega⟩) ?_
        refine XO.q (Q.move rfl) (XO.done ?_)
        exact ih1 (i + 1) _ _ ⟨by omega, by rw [wallsOk, allTo_succ]; rw [wallsOk] at hall; rw [hall, Bool.true_and]; exact okWall_iff.2 c3⟩ (by first | omega | (dsimp only; omega)) (.c rfl (.base 78 rfl rfl)) inferInstance
    · skip
      have e2 : wallsOk h h.walls.length = true := by rw [show h.walls.length = i by omega]; exact hall
      clear ih1 hall hi c2
      refine XK.exit rfl ?_
      refine XK.seq (XK.seq (XK.region rfl ?_))
      refine XO.q (Q.fieldAddr rfl) ?_
      refine XO.q (Q.ld rfl rfl) ?_
      refine XO.len rfl fun l75 => ?_
      refine XO.q (Q.move rfl) (XO.done (XK.block ?_))
      refine XK.while (X := Nat) [2, 7, 8, 76, 77, 78, 79, 80, 81, 82, 83, 84, 85, 86, 87, 88, 89, 90, 91, 92, 93, 94, 95, 96, 97, 98, 99, 100, 101, 102, 103, 104, 105, 106, 107, 108, 109, 110, 111, 112, 113, 114] (fun i => [(76, some (.int .i64 (i : Nat)))]) (fun i => []) (fun i => i ≤ h.branches.length ∧ branchesOk h i = true) (fun i => h.branches.length - i) (0) [] rfl ⟨by omega, rfl⟩ (.c rfl (.base 0 rfl rfl)) ?_
      rintro i ⟨hi, hall⟩ ih2
      dsimp only [lcA, lnA] at ih2 ⊢
      refine XK.seq (XK.region rfl ?_)
      refine XO.q (Q.lss rfl rfl) ?_
      refine XO.done (XK.seq ?_)
      refine XK.if rfl (fun c4 => ?_) (fun c4 => ?_)
      · skip
        refine XK.skip (XK.seq (XK.block (XK.seq (XK.region rfl (XO.q (Q.move rfl) ?_)))))
        refine XO.ix rfl rfl (by omega) (by omega) fun i79 => ?_
        refine XO.q (Q.ldEA [_, _, _] rfl (by first | assumption | omega) rfl rfl) ?_
        refine XO.alloc fun b8 => ?_
        refine XO.q (Q.assign rfl) ?_
        refine XO.st rfl rfl rfl ?_
        refine XO.done (XK.seq ?_)
        refine XK.drawn [0, 1, 2, 3, 4, 5, 6, 7, 8, 9, 10, 11, 12, 13, 14, 15, 16, 18, 19, 20, 21, 22, 23, 25, 26, 27, 28, 29, 31, 32] [b8, b1] [] (.q 0 (.q 1 (.q 2 (.q 3 (.q 4 (.q 5 (.q 6 (.q 7 (.q 8 (.q 9 (.q 10 (.q 11 (.q 12 (.q 13 (.q 14 (.q 15 (.q 16 (.br 17 true (.q 18 (.q 19 (.q 20 (.q 21 (.q 22 (.q 23 (.br 24 true (.q 25 (.q 26 (.q 27 (.q 28 (.q 29 (.br 30 true (.q 31 (.q 32 .done)) .stop)))))) .stop))))))) .stop)))))))))))))))))) Try.mixed rfl (by kernel_rfl) ?_
        refine XT.q rfl rfl (Q.move rfl) ?_
        refine XT.q rfl rfl (Q.eql rfl rfl) ?_
        refine XT.q rfl rfl (Q.move rfl) ?_
        refine XT.q rfl rfl (Quiet.guardT rfl rfl fun g84 p84 => Q.fieldAddr rfl) ?_
        refine XT.q rfl rfl (Quiet.guardT rfl rfl fun g85 p85 => Q.ld (lzv g85 rfl) rfl) ?_
        refine XT.q rfl rfl (Quiet.guardT rfl rfl fun g86 p86 => Q.neq (lzv g86 rfl) rfl) ?_
        refine XT.q rfl rfl (Q.and rfl (fun hp => lzv hp rfl)) ?_
        refine XT.q rfl rfl (Q.move rfl) ?_
        refine XT.q rfl rfl (Quiet.guardF rfl rfl fun g89 p89 => Q.move rfl) ?_
        refine XT.q rfl rfl (Quiet.guardF rfl rfl fun g90 p90 => Q.gtr (lzv g90 rfl) rfl) ?_
        refine XT.q rfl rfl (Quiet.guardF rfl rfl fun g91 p91 => Q.move (lzv g91 rfl)) ?_
        refine XT.q rfl rfl (Quiet.guard2 rfl rfl fun g92a g92b => have p92a := bpF g92a; have p92b := bpT g92b; Q.fieldAddr rfl) ?_
        refine XT.q rfl rfl (Quiet.guard2 rfl rfl fun g93a g93b => have p93a := bpF g93a; have p93b := bpT g93b; Q.ld (lzv g93b (lzv g93a rfl)) rfl) ?_
        refine XT.q rfl rfl (Quiet.guard2 rfl rfl fun g94a g94b => have p94a := bpF g94a; have p94b := bpT g94b; Q.fieldAddr rfl) ?_
        refine XT.q rfl rfl (Quiet.guard2 rfl rfl fun g95a g95b => have p95a := bpF g95a; have p95b := bpT g95b; Q.ld (lzv g95b (lzv g95a rfl)) rfl) ?_
        refine XT.q rfl rfl (Quiet.guard2 rfl rfl fun g96a g96b => have p96a := bpF g96a; have p96b := bpT g96b; Q.move rfl) ?_
        refine XT.q rfl rfl (Quiet.guard2 rfl rfl fun g97a g97b => have p97a := bpF g97a; have p97b := bpT g97b; Q.cut (i := 0) (j := i) (lzv g97b (lzv g97a rfl)) .n (.s (lzv g97b (lzv g97a rfl)) (by omega)) (by omega) (by omega)) ?_
        refine XT.vg2 rfl rfl rfl rfl (fun g98a g98b => rfl) (fun g98a g98b => .c (lzv g98b (lzv g98a rfl)) (.c (lzv g98b (lzv g98a rfl)) .n)) (fun g98a g98b => have p98a := bpF g98a; have p98b := bpT g98b; VSpec.fn (P := Try.prog) Try.call103 rfl (indexCut _ vb hb h.branches i (by omega))) ⟨inferInstance, ?_⟩ XT.stop
        refine XT.q rfl rfl (Quiet.guard2 rfl rfl fun g99a g99b => have p99a := bpF g99a; have p99b := bpT g99b; Q.not (lzv g99b (lzv g99a rfl))) ?_
        refine XT.q rfl rfl (Quiet.guardF rfl rfl fun g100 p100 => Q.and (lzv g100 rfl) (fun hp => (lzv hp (lzv g100 rfl)))) ?_
        refine XT.q rfl rfl (Q.or rfl (fun hp => lzv hp rfl)) ?_
        refine XT.q rfl rfl (Q.move rfl) ?_
        refine XT.q rfl rfl (Quiet.guardF rfl rfl fun g103 p103 => Q.fieldAddr rfl) ?_
        refine XT.q rfl rfl (Quiet.guardF rfl rfl fun g104 p104 => Q.ld (lzv g104 rfl) rfl) ?_
        refine XT.gcallF rfl rfl rfl rfl Try.call37 rfl (fun g105 => .c (lzv g105 rfl) (.c rfl .n)) rfl (fun g105 p105 => in_spec _ _) ⟨inferInstance, ?_⟩ XT.stop
        refine XT.q rfl rfl (Quiet.guardF rfl rfl fun g106 p106 => Q.not (lzv g106 rfl)) ?_
        refine XT.q rfl rfl (Q.or rfl (fun hp => lzv hp rfl)) ?_
        refine XT.q rfl rfl (Q.move rfl) ?_
        refine XT.q rfl rfl (Quiet.guardF rfl rfl fun g109 p109 => Q.fieldAddr rfl) ?_
        refine XT.q rfl rfl (Quiet.guardF rfl rfl fun g110 p110 => Q.ld (lzv g110 rfl) rfl) ?_
        refine XT.gcallF rfl rfl rfl rfl Try.call37 rfl (fun g111 => .c (lzv g111 rfl) (.c rfl .n)) rfl (fun g111 p111 => in_spec _ _) ⟨inferInstance, ?_⟩ XT.stop
        refine XT.q rfl rfl (Quiet.guardF rfl rfl fun g112 p112 => Q.not (lzv g112 rfl)) ?_
        refine XT.q rfl rfl (Q.or rfl (fun hp => lzv hp rfl)) ?_
        refine XT.done ?_
        refine XK.if rfl (fun c5 => ?_) (fun c5 => ?_)
        · skip
          refine XK.seq (XK.region rfl (XO.q (Q.assign rfl) (XO.done ?_)))
          refine XK.rt [] Try.func73 Try.results73 (.t rfl .n) ?_
          have hb : branchesOk h h.branches.length = false := allTo_false (s := i) (by omega) (by rw [Bool.eq_false_iff]; intro h; exact (okBranch_iff.1 h) c5)
          exact ⟨by simp [allowedP, hb], rfl⟩
        · skip
          refine XK.skip ?_
          refine XK.inBlock ?_
          refine XK.region rfl ?_
          refine XO.q (Q.add rfl rfl ⟨by omega, by omega⟩) ?_
          refine XO.q (Q.move rfl) (XO.done ?_)
          exact ih2 (i + 1) _ _ ⟨by omega, by rw [branchesOk, allTo_succ]; rw [branchesOk] at hall; rw [hall, Bool.true_and]; exact okBranch_iff.2 c5⟩ (by first | omega | (dsimp only; omega)) (.c rfl (.base 84 rfl rfl)) inferInstance
      · skip
        have e3 : branchesOk h h.branches.length = true := by rw [show h.branches.length = i by omega]; exact hall
        clear ih2 hall hi c4
        refine XK.exit rfl ?_
        refine XK.seq (XK.seq (XK.region rfl ?_))
        refine XO.q (Q.fieldAddr rfl) ?_
        refine XO.q (Q.ld rfl rfl) ?_
        refine XO.len rfl fun l117 => ?_
        refine XO.q (Q.move rfl) (XO.done (XK.block ?_))
        refine XK.while (X := Nat) [2, 10, 118, 119, 120, 121, 122, 123, 124, 125, 126, 127, 128, 129, 130, 131, 132, 133, 134, 135, 136, 137, 138, 139, 140, 141, 142, 143, 144, 145, 146, 147, 148, 149, 150, 151, 152, 153, 154] (fun i => [(118, some (.int .i64 (i : Nat)))]) (fun i => []) (fun i => i ≤ h.coolers.length ∧ coolersOk h i = true) (fun i => h.coolers.length - i) (0) [] rfl ⟨by omega, rfl⟩ (.c rfl (.base 0 rfl rfl)) ?_
        rintro i ⟨hi, hall⟩ ih3
        dsimp only [lcA, lnA] at ih3 ⊢
        refine XK.seq (XK.region rfl ?_)
        refine XO.q (Q.lss rfl rfl) ?_
        refine XO.done (XK.seq ?_)
        refine XK.if rfl (fun c6 => ?_) (fun c6 => ?_)
        · skip
          refine XK.skip (XK.seq (XK.block (XK.seq (XK.region rfl ?_))))
          refine XO.ix rfl rfl (by omega) (by omega) fun i120 => ?_
          refine XO.q (Q.ldEA [_, _, _, _, _] rfl (by first | assumption | omega) rfl rfl) ?_
          refine XO.alloc fun b10 => ?_
          refine XO.st rfl rfl rfl ?_
          refine XO.done (XK.seq (XK.region rfl ?_))
          refine XO.q (Q.fieldAddr rfl) ?_
          refine XO.q (Q.ld rfl rfl) ?_
          refine XO.q (Q.fieldAddr rfl) ?_
          refine XO.q (Q.ld rfl rfl) ?_
          refine XO.call Try.call102 rfl rfl rfl (indexRoom _ vr hr h.rooms) fun v126 s126 R126 => ?_
          obtain ⟨rfl, rfl⟩ := R126
          dsimp only [lcA, lnA]
          refine XO.q (Q.not rfl) ?_
          refine XO.q (Q.move rfl) ?_
          refine XO.q (Quiet.guardF rfl rfl fun g129 p129 => Q.fieldAddr rfl) ?_
          refine XO.q (Quiet.guardF rfl rfl fun g130 p130 => Q.ld (lzv g130 rfl) rfl) ?_
          refine XO.q (Quiet.guardF rfl rfl fun g131 p131 => Q.fieldAddr rfl) ?_
          refine XO.q (Quiet.guardF rfl rfl fun g132 p132 => Q.ld (lzv g132 rfl) rfl) ?_
          refine XO.gcallF rfl rfl Try.call103 rfl (fun g133 => .c (lzv g133 rfl) (.c (lzv g133 rfl) .n)) rfl (fun g133 p133 => indexBranch _ vb hb h.branches) ?_
          refine XO.q (Quiet.guardF rfl rfl fun g134 p134 => Q.not (lzv g134 rfl)) ?_
          refine XO.q (Q.or rfl (fun hp => lzv hp rfl)) ?_
          refine XO.q (Q.move rfl) ?_
          refine XO.q (Quiet.guardF rfl rfl fun g137 p137 => Q.fieldAddr rfl) ?_
          refine XO.q (Quiet.guardF rfl rfl fun g138 p138 => Q.ld (lzv g138 rfl) rfl) ?_
          refine XO.gcallF rfl rfl Try.call37 rfl (fun g139 => .c (lzv g139 rfl) (.c rfl .n)) rfl (fun g139 p139 => in_spec _ _) ?_
          refine XO.q (Quiet.guardF rfl rfl fun g140 p140 => Q.not (lzv g140 rfl)) ?_
          refine XO.q (Q.or rfl (fun hp => lzv hp rfl)) ?_
          refine XO.q (Q.move rfl) ?_
          refine XO.q (Quiet.guardF rfl rfl fun g143 p143 => Q.fieldAddr rfl) ?_
          refine XO.q (Quiet.guardF rfl rfl fun g144 p144 => Q.ld (lzv g144 rfl) rfl) ?_
          refine XO.gcallF rfl rfl Try.call37 rfl (fun g145 => .c (lzv g145 rfl) (.c rfl .n)) rfl (fun g145 p145 => in_spec _ _) ?_
          refine XO.q (Quiet.guardF rfl rfl fun g146 p146 => Q.not (lzv g146 rfl)) ?_
          refine XO.q (Q.or rfl (fun hp => lzv hp rfl)) ?_
          refine XO.q (Q.move rfl) ?_
          refine XO.q (Quiet.guardF rfl rfl fun g149 p149 => Q.fieldAddr rfl) ?_
          refine XO.q (Quiet.guardF rfl rfl fun g150 p150 => Q.ld (lzv g150 rfl) rfl) ?_
          refine XO.gcallF rfl rfl Try.call37 rfl (fun g151 => .c (lzv g151 rfl) (.c rfl .n)) rfl (fun g151 p151 => in_spec _ _) ?_
          refine XO.q (Quiet.guardF rfl rfl fun g152 p152 => Q.not (lzv g152 rfl)) ?_
          refine XO.q (Q.or rfl (fun hp => lzv hp rfl)) ?_
          refine XO.done ?_
          refine XK.if rfl (fun c7 => ?_) (fun c7 => ?_)
          · skip
            refine XK.seq (XK.region rfl (XO.q (Q.assign rfl) (XO.done ?_)))
            refine XK.rt [] Try.func73 Try.results73 (.t rfl .n) ?_
            have hb : coolersOk h h.coolers.length = false := allTo_false (s := i) (by omega) (by rw [Bool.eq_false_iff]; intro h; exact (okCooler_iff.1 h) c7)
            exact ⟨by simp [allowedP, hb], rfl⟩
          · skip
            refine XK.skip ?_
            refine XK.inBlock ?_
            refine XK.region rfl ?_
            refine XO.q (Q.add rfl rfl ⟨by omega, by omega⟩) ?_
            refine XO.q (Q.move rfl) (XO.done ?_)
            exact ih3 (i + 1) _ _ ⟨by omega, by rw [coolersOk, allTo_succ]; rw [coolersOk] at hall; rw [hall, Bool.true_and]; exact okCooler_iff.2 c7⟩ (by first | omega | (dsimp only; omega)) (.c rfl (.base 78 rfl rfl)) inferInstance
        · skip
          have e4 : coolersOk h h.coolers.length = true := by rw [show h.coolers.length = i by omega]; exact hall
          refine XK.exit rfl ?_
          refine XK.seq (XK.region rfl (XO.q (Q.assign rfl) (XO.done ?_)))
          refine XK.rt [] Try.func73 Try.results73 (.t rfl .n) ?_
          exact ⟨by rw [allowedP, e1, e2, e3, e4]; rfl, rfl⟩
end Go.X

set_option linter.unusedSimpArgs false
set_option linter.unusedVariables false
set_option maxRecDepth 20000
namespace Go.X
open Go.Proofs
theorem hcheck_many {h : Hall} (c : (((((h.rooms.length : Int) < 1 ∨ 8 < (h.rooms.length : Int)) ∨ 16 < (h.walls.length : Int)) ∨ 16 < (h.branches.length : Int)) ∨ 16 < (h.coolers.length : Int))) : hcheck h = 2 := by rw [hcheck, if_pos c]
theorem Check_spec (h : Hall) (vr vw vb vc : Value) (hr hw hb hc : PHeap) [ir : Arr vr encRoom 2 hr h.rooms] [iw : Arr vw encWall 3 hw h.walls] [ib : Arr vb encBranch 3 hb h.branches] [ic : Arr vc encCooler 5 hc h.coolers] : Spec Try.prog 36 #[.agg #[vr, vw, vb, vc]] [] [hr, hw, hb, hc] (fun v hs => v = .int .i64 (hcheck h) ∧ hs = []) := by
  have lr := ir.le
  have lw := iw.le
  have lb := ib.le
  have lc := ic.le
  refine Spec.intro (fn := Try.f36) (N := 92) Try.func36 rfl Try.ntmps36 rfl fun B => ?_
  refine XK.seq (XK.region rfl ?_)
  refine XO.box rfl fun b1 => ?_
  refine XO.q (Q.assign rfl) (XO.done (XK.seq (XK.seq (XK.region rfl ?_))))
  refine XO.q (Q.fieldAddr rfl) ?_
  refine XO.q (Q.ld rfl rfl) ?_
  refine XO.len rfl fun l12 => ?_
  refine XO.q (Q.lss rfl rfl) ?_
  refine XO.q (Q.move rfl) ?_
  refine XO.q (Quiet.guardF rfl rfl fun g15 p15 => Q.fieldAddr rfl) ?_
  refine XO.q (Quiet.guardF rfl rfl fun g16 p16 => Q.ld (lzv g16 rfl) rfl) ?_
  refine XO.q (Quiet.guardF rfl rfl fun g17 p17 => Q.len (lzv g17 rfl)) ?_
  refine XO.q (Quiet.guardF rfl rfl fun g18 p18 => Q.gtr (lzv g18 rfl) rfl) ?_
  refine XO.q (Q.or rfl (fun hp => lzv hp rfl)) ?_
  refine XO.q (Q.move rfl) ?_
  refine XO.q (Quiet.guardF rfl rfl fun g21 p21 => Q.fieldAddr rfl) ?_
  refine XO.q (Quiet.guardF rfl rfl fun g22 p22 => Q.ld (lzv g22 rfl) rfl) ?_
  refine XO.q (Quiet.guardF rfl rfl fun g23 p23 => Q.len (lzv g23 rfl)) ?_
  refine XO.q (Quiet.guardF rfl rfl fun g24 p24 => Q.gtr (lzv g24 rfl) rfl) ?_
  refine XO.q (Q.or rfl (fun hp => lzv hp rfl)) ?_
  refine XO.q (Q.move rfl) ?_
  refine XO.q (Quiet.guardF rfl rfl fun g27 p27 => Q.fieldAddr rfl) ?_
  refine XO.q (Quiet.guardF rfl rfl fun g28 p28 => Q.ld (lzv g28 rfl) rfl) ?_
  refine XO.q (Quiet.guardF rfl rfl fun g29 p29 => Q.len (lzv g29 rfl)) ?_
  refine XO.q (Quiet.guardF rfl rfl fun g30 p30 => Q.gtr (lzv g30 rfl) rfl) ?_
  refine XO.q (Q.or rfl (fun hp => lzv hp rfl)) ?_
  refine XO.q (Q.move rfl) ?_
  refine XO.q (Quiet.guardF rfl rfl fun g33 p33 => Q.fieldAddr rfl) ?_
  refine XO.q (Quiet.guardF rfl rfl fun g34 p34 => Q.ld (lzv g34 rfl) rfl) ?_
  refine XO.q (Quiet.guardF rfl rfl fun g35 p35 => Q.len (lzv g35 rfl)) ?_
  refine XO.q (Quiet.guardF rfl rfl fun g36 p36 => Q.gtr (lzv g36 rfl) rfl) ?_
  refine XO.q (Q.or rfl (fun hp => lzv hp rfl)) ?_
  refine XO.done ?_
  refine XK.if rfl (fun c0 => ?_) (fun c0 => ?_)
  · skip
    refine XK.seq (XK.region rfl (XO.q (Q.assign rfl) (XO.done ?_)))
    refine XK.rt [] Try.func36 Try.results36 (.t rfl .n) ?_
    exact ⟨by rw [hcheck_many c0], rfl⟩
  · skip
    refine XK.skip (XK.seq (XK.seq (XK.region rfl ?_)))
    refine XO.q (Q.ldA [_, _, _, _] rfl rfl rfl) ?_
    refine XO.call Try.call73 rfl rfl rfl (allowed_spec h vr vw vb vc hr hw hb hc) fun v39 s39 R39 => ?_
    obtain ⟨rfl, rfl⟩ := R39
    dsimp only [lcA, lnA]
    refine XO.q (Q.not rfl) ?_
    refine XO.done ?_
    refine XK.if rfl (fun c1 => ?_) (fun c1 => ?_)
    · skip
      refine XK.seq (XK.region rfl (XO.q (Q.assign rfl) (XO.done ?_)))
      refine XK.rt [] Try.func36 Try.results36 (.t rfl .n) ?_
      exact ⟨by rw [hcheck, if_neg c0, if_pos (by simpa using c1)], rfl⟩
    · skip
      have ha : allowedP h = true := Classical.byContradiction c1
      refine XK.skip (XK.seq (XK.seq (XK.region rfl ?_)))
      refine XO.q (Q.fieldAddr rfl) ?_
      refine XO.q (Q.ld rfl rfl) ?_
      refine XO.len rfl fun l43 => ?_
      refine XO.q (Q.move rfl) (XO.done (XK.block ?_))
      refine XK.while (X := Nat) [2, 3, 4, 5, 7, 9, 44, 45, 46, 47, 48, 49, 50, 51, 52, 53, 54, 55, 56, 57, 58, 59, 60, 61, 62, 63, 64, 65, 66, 67, 68, 69, 70, 71, 72, 73, 74, 75, 76, 77, 78, 79, 80, 81, 82, 83, 84, 85, 86, 87, 88, 89, 90, 91] (fun i => [(44, some (.int .i64 (i : Nat)))]) (fun i => []) (fun i => i ≤ h.rooms.length ∧ allTo (fun i => decide (slope h i ≤ (h.rooms.getD i default).store)) i = true) (fun i => h.rooms.length - i) (0) [] rfl ⟨by omega, rfl⟩ (.c rfl (.base 0 rfl rfl)) ?_
      rintro i ⟨hi, hall⟩ ih0
      dsimp only [lcA, lnA] at ih0 ⊢
      refine XK.seq (XK.region rfl ?_)
      refine XO.q (Q.lss rfl rfl) ?_
      refine XO.done (XK.seq ?_)
      refine XK.if rfl (fun c2 => ?_) (fun c2 => ?_)
      · skip
        refine XK.skip (XK.seq (XK.block (XK.seq (XK.region rfl (XO.q (Q.move rfl) ?_)))))
        refine XO.ix rfl rfl (by omega) (by omega) fun i47 => ?_
        refine XO.q (Q.ldEA [_, _] rfl (by first | assumption | omega) rfl rfl) ?_
        refine XO.alloc fun b4 => ?_
        refine XO.q (Q.assign rfl) ?_
        refine XO.st rfl rfl rfl ?_
        refine XO.done (XK.seq (XK.region rfl (XO.q (Q.assign rfl) (XO.done (XK.seq ?_)))))
        refine XK.seq (XK.region rfl ?_)
        refine XO.q (Q.fieldAddr rfl) ?_
        refine XO.q (Q.ld rfl rfl) ?_
        refine XO.len rfl fun l51 => ?_
        refine XO.q (Q.move rfl) (XO.done (XK.block ?_))
        refine XK.while (X := Nat) [5, 7, 52, 53, 54, 55, 56, 57, 58, 59, 60, 61, 62, 63, 64, 65, 66, 67, 68, 69, 70] (fun k => [(52, some (.int .i64 (k : Nat))), (5, some (.int .i64 (sumTo (wslope h i) k)))]) (fun k => []) (fun k => k ≤ h.walls.length) (fun k => h.walls.length - k) (0) [] rfl (by omega) (.c rfl (.c rfl (.base 0 rfl rfl))) ?_
        rintro k hk ih1
        dsimp only [lcA, lnA] at ih1 ⊢
        refine XK.seq (XK.region rfl ?_)
        refine XO.q (Q.lss rfl rfl) ?_
        refine XO.done (XK.seq ?_)
        refine XK.if rfl (fun c3 => ?_) (fun c3 => ?_)
        · skip
          have hws := wsum_rng ha (by omega) i (k := k) (by omega)
          have hwf := (allowed_facts ha).2.1 k (by omega)
          refine XK.skip (XK.seq (XK.block (XK.seq (XK.region rfl ?_))))
          refine XO.ix rfl rfl (by omega) (by omega) fun i54 => ?_
          refine XO.q (Q.ldEA [_, _, _] rfl (by first | assumption | omega) rfl rfl) ?_
          refine XO.alloc fun b7 => ?_
          refine XO.st rfl rfl rfl ?_
          refine XO.done (XK.seq (XK.region rfl ?_))
          refine XO.q (Q.fieldAddr rfl) ?_
          refine XO.q (Q.ld rfl rfl) ?_
          refine XO.q (Q.move rfl) ?_
          refine XO.q (Q.eql rfl rfl) ?_
          refine XO.q (Q.move rfl) ?_
          refine XO.q (Quiet.guardF rfl rfl fun g61 p61 => Q.fieldAddr rfl) ?_
          refine XO.q (Quiet.guardF rfl rfl fun g62 p62 => Q.ld (lzv g62 rfl) rfl) ?_
          refine XO.q (Quiet.guardF rfl rfl fun g63 p63 => Q.move rfl) ?_
          refine XO.q (Quiet.guardF rfl rfl fun g64 p64 => Q.eql (lzv g64 rfl) (lzv g64 rfl)) ?_
          refine XO.q (Q.or rfl (fun hp => lzv hp rfl)) ?_
          refine XO.done ?_
          refine XK.if rfl (fun c4 => ?_) (fun c4 => ?_)
          · skip
            refine XK.region rfl (XO.q (Q.move rfl) ?_)
            refine XO.q (Q.fieldAddr rfl) ?_
            refine XO.q (Q.ld rfl rfl) ?_
            refine XO.q (Q.add rfl rfl ⟨by omega, by omega⟩) ?_
            refine XO.q (Q.assign rfl) (XO.done ?_)
            refine XK.inBlock ?_
            refine XK.region rfl ?_
            refine XO.q (Q.add rfl rfl ⟨by omega, by omega⟩) ?_
            refine XO.q (Q.move rfl) (XO.done ?_)
            rw [show sumTo (wslope h i) k + (h.walls.getD k default).pass = sumTo (wslope h i) (k + 1) by rw [sumTo, wslope, if_pos c4]]
            exact ih1 (k + 1) _ _ (by omega) (by first | omega | (dsimp only; omega)) (.c rfl (.c rfl (.base 44 rfl rfl))) inferInstance
          · skip
            refine XK.skip ?_
            refine XK.inBlock ?_
            refine XK.region rfl ?_
            refine XO.q (Q.add rfl rfl ⟨by omega, by omega⟩) ?_
            refine XO.q (Q.move rfl) (XO.done ?_)
            rw [show sumTo (wslope h i) k = sumTo (wslope h i) (k + 1) by rw [sumTo, wslope, if_neg c4, Int.add_zero]]
            exact ih1 (k + 1) _ _ (by omega) (by first | omega | (dsimp only; omega)) (.c rfl (.c rfl (.base 39 rfl rfl))) inferInstance
        · skip
          have hkw : k = h.walls.length := by omega
          rw [hkw]
          have hws := wsum_rng ha (by omega) i (k := h.walls.length) (Nat.le_refl _)
          rw [show sumTo (wslope h i) h.walls.length = sumTo (wslope h i) h.walls.length + sumTo (cslope h i) 0 by rw [sumTo, Int.add_zero]]
          clear ih1 hk hkw c3
          refine XK.exit rfl ?_
          refine XK.seq (XK.seq (XK.region rfl ?_))
          refine XO.q (Q.fieldAddr rfl) ?_
          refine XO.q (Q.ld rfl rfl) ?_
          refine XO.len rfl fun l73 => ?_
          refine XO.q (Q.move rfl) (XO.done (XK.block ?_))
          refine XK.while (X := Nat) [5, 9, 74, 75, 76, 77, 78, 79, 80, 81, 82, 83, 84, 85, 86] (fun k => [(74, some (.int .i64 (k : Nat))), (5, some (.int .i64 (sumTo (wslope h i) h.walls.length + sumTo (cslope h i) k)))]) (fun k => []) (fun k => k ≤ h.coolers.length) (fun k => h.coolers.length - k) (0) [] rfl (by omega) (.c rfl (.c rfl (.base 0 rfl rfl))) ?_
          rintro k hk ih2
          dsimp only [lcA, lnA] at ih2 ⊢
          refine XK.seq (XK.region rfl ?_)
          refine XO.q (Q.lss rfl rfl) ?_
          refine XO.done (XK.seq ?_)
          refine XK.if rfl (fun c5 => ?_) (fun c5 => ?_)
          · skip
            have hcs := csum_rng ha (by omega) i (k := k) (by omega)
            have hcf := (allowed_facts ha).2.2 k (by omega)
            refine XK.skip (XK.seq (XK.block (XK.seq (XK.region rfl ?_))))
            refine XO.ix rfl rfl (by omega) (by omega) fun i76 => ?_
            refine XO.q (Q.ldEA [_, _, _, _, _] rfl (by first | assumption | omega) rfl rfl) ?_
            refine XO.alloc fun b9 => ?_
            refine XO.st rfl rfl rfl ?_
            refine XO.done (XK.seq (XK.region rfl ?_))
            refine XO.q (Q.fieldAddr rfl) ?_
            refine XO.q (Q.ld rfl rfl) ?_
            refine XO.q (Q.move rfl) ?_
            refine XO.q (Q.eql rfl rfl) ?_
            refine XO.done ?_
            refine XK.if rfl (fun c6 => ?_) (fun c6 => ?_)
            · skip
              refine XK.region rfl (XO.q (Q.move rfl) ?_)
              refine XO.q (Q.fieldAddr rfl) ?_
              refine XO.q (Q.ld rfl rfl) ?_
              refine XO.q (Q.add rfl rfl ⟨by omega, by omega⟩) ?_
              refine XO.q (Q.assign rfl) (XO.done ?_)
              refine XK.inBlock ?_
              refine XK.region rfl ?_
              refine XO.q (Q.add rfl rfl ⟨by omega, by omega⟩) ?_
              refine XO.q (Q.move rfl) (XO.done ?_)
              rw [show sumTo (wslope h i) h.walls.length + sumTo (cslope h i) k + (h.coolers.getD k default).gain = sumTo (wslope h i) h.walls.length + sumTo (cslope h i) (k + 1) by rw [sumTo, cslope, if_pos c6, Int.add_assoc]]
              exact ih2 (k + 1) _ _ (by omega) (by first | omega | (dsimp only; omega)) (.c rfl (.c rfl (.base 32 rfl rfl))) inferInstance
            · skip
              refine XK.skip ?_
              refine XK.inBlock ?_
              refine XK.region rfl ?_
              refine XO.q (Q.add rfl rfl ⟨by omega, by omega⟩) ?_
              refine XO.q (Q.move rfl) (XO.done ?_)
              rw [show sumTo (cslope h i) k = sumTo (cslope h i) (k + 1) by rw [sumTo, cslope, if_neg c6, Int.add_zero]]
              exact ih2 (k + 1) _ _ (by omega) (by first | omega | (dsimp only; omega)) (.c rfl (.c rfl (.base 27 rfl rfl))) inferInstance
          · skip
            have hkc : k = h.coolers.length := by omega
            rw [hkc]
            refine XK.exit rfl ?_
            refine XK.seq (XK.region rfl (XO.q (Q.move rfl) ?_))
            refine XO.q (Q.fieldAddr rfl) ?_
            refine XO.q (Q.ld rfl rfl) ?_
            refine XO.q (Q.gtr rfl rfl) ?_
            refine XO.done ?_
            refine XK.if rfl (fun c7 => ?_) (fun c7 => ?_)
            · skip
              refine XK.seq (XK.region rfl (XO.q (Q.assign rfl) (XO.done ?_)))
              refine XK.rt [] Try.func36 Try.results36 (.t rfl .n) ?_
              exact ⟨by rw [hcheck, if_neg c0, if_neg (by rw [ha]; simp), if_neg]; rw [allTo_false (s := i) (by omega) (by rw [decide_eq_false_iff_not]; change ¬ sumTo (wslope h i) h.walls.length + sumTo (cslope h i) h.coolers.length ≤ _; omega)]; simp, rfl⟩
            · skip
              refine XK.skip ?_
              refine XK.inBlock ?_
              refine XK.region rfl ?_
              refine XO.q (Q.add rfl rfl ⟨by omega, by omega⟩) ?_
              refine XO.q (Q.move rfl) (XO.done ?_)
              exact ih0 (i + 1) _ _ ⟨by omega, by rw [allTo_succ, hall, Bool.true_and, decide_eq_true_eq]; change sumTo (wslope h i) h.walls.length + sumTo (cslope h i) h.coolers.length ≤ _; omega⟩ (by first | omega | (dsimp only; omega)) (.c rfl (.base 118 rfl rfl)) inferInstance
      · skip
        refine XK.exit rfl ?_
        refine XK.seq (XK.region rfl (XO.q (Q.assign rfl) (XO.done ?_)))
        refine XK.rt [] Try.func36 Try.results36 (.t rfl .n) ?_
        have hin : i = h.rooms.length := by omega
        rw [hin] at hall
        exact ⟨by rw [hcheck, if_neg c0, if_neg (by rw [ha]; simp), if_pos hall], rfl⟩
end Go.X

set_option linter.unusedSimpArgs false
set_option linter.unusedVariables false
set_option maxRecDepth 20000
namespace Go.X
open Go.Proofs
theorem feed_spec (h : Hall) (vr vw vb vc : Value) (hb : PHeap) [ib : Arr vb encBranch 3 hb h.branches] (ok : HOk h) (pump : Int) (hp : 0 ≤ pump) (hp2 : pump ≤ 100000) (b2 b5 b6 : Nat) (vo : Value) :
    ∀ (m i : Nat), i < h.branches.length → h.branches.length - i ≤ m → ∀ (x : Int), 0 ≤ x → x ≤ 100000 → max (x - (h.branches.getD i default).leak) 0 = (flowsL h pump).getD i 0 → ∀ (ho : PHeap) (o : List Int), OArr vo encI 1 3 ho o → o.length = h.branches.length → (∀ j, Sub h i j → o.getD j 0 = 0) →
    Spec Try.prog 74 #[.int .i64 (i : Nat), .int .i64 x, ptr b2 0, ptr b5 0, ptr b6 0] [ho] [blk b2 [vr, vw, vb, vc] 29, blk b5 [vo] 31, blk b6 [(.func (.func 74) #[] #[ptr b2 0, ptr b5 0, ptr b6 0])] 152, hb]
      (fun v hs => ∃ h' o', hs = [h'] ∧ OArr vo encI 1 3 h' o' ∧ o'.length = h.branches.length ∧ (∀ j, j < h.branches.length → Sub h i j → o'.getD j 0 = (flowsL h pump).getD j 0) ∧ ∀ j, ¬ Sub h i j → o'.getD j 0 = o.getD j 0) := by
  intro m
  induction m with
  | zero => intro i hi hm; omega
  | succ m ih =>
    intro i hi hm x hx hx2 hF ho o OO hol hz
    have hbr := ok.branch i hi
    have hb2 := ok.b2
    have hone := open_le ok (i : Int) (n := h.branches.length) (Nat.le_refl _)
    refine Spec.intro (fn := Try.f74) (N := 69) Try.func74 rfl Try.ntmps74 rfl fun B => ?_
    refine XK.seq ?_
    refine XK.drawn [0, 1, 2, 3, 4, 5, 6, 7, 8, 9, 10, 11] [b5, b2] [] (.q 0 (.q 1 (.q 2 (.q 3 (.q 4 (.q 5 (.q 6 (.q 7 (.q 8 (.q 9 (.q 10 (.q 11 (.br 12 false .done .stop))))))))))))) Try.mixed rfl (by kernel_rfl) ?_
    refine XT.q rfl rfl (Q.ld rfl rfl) ?_
    refine XT.q rfl rfl (Q.move rfl) ?_
    refine XT.q rfl rfl (Q.move rfl) ?_
    refine XT.q rfl rfl (Q.fieldAddr rfl) ?_
    refine XT.q rfl rfl (Q.ld rfl rfl) ?_
    refine XT.q rfl rfl (Q.move rfl) ?_
    refine XT.ix rfl rfl rfl rfl (by omega) (by omega) fun i18 => ?_
    refine XT.q rfl rfl (Q.fieldQ rfl (by first | assumption | omega)) ?_
    refine XT.q rfl rfl (Q.ldE rfl (by first | assumption | omega) rfl) ?_
    refine XT.q rfl rfl (Q.sub rfl rfl ⟨by omega, by omega⟩) ?_
    refine XT.q rfl rfl (Q.max rfl rfl) ?_
    refine XT.ix rfl rfl rfl rfl (by omega) (by omega) fun i23 => ?_
    refine XT.stE _ rfl rfl rfl rfl rfl (by assumption) rfl rfl (fun h0_12 O0_12 => ⟨inferInstance, ?_⟩) XT.stop
    rw [hF] at O0_12
    have fs := fed_start (pump := pump) hi hol
    refine XT.done ?_
    refine XK.seq (XK.region rfl (XO.q (Q.assign rfl) (XO.done (XK.seq (XK.seq ?_)))))
    refine XK.region rfl ?_
    refine XO.q (Q.fieldAddr rfl) ?_
    refine XO.q (Q.ld rfl rfl) ?_
    refine XO.len rfl fun l26 => ?_
    refine XO.q (Q.move rfl) (XO.done (XK.block ?_))
    refine XK.while (X := Nat) [7, 9, 27, 28, 29, 30, 31, 32, 33, 34, 35, 36, 37, 38, 39] (fun k => [(27, some (.int .i64 (k : Nat))), (7, some (.int .i64 (sumOpen h i k)))]) (fun k => []) (fun k => k ≤ h.branches.length) (fun k => h.branches.length - k) (0) [] rfl (by omega) (.c rfl (.c rfl (.base 0 rfl rfl))) ?_
    rintro k hk ih0
    dsimp only [lcA, lnA] at ih0 ⊢
    refine XK.seq (XK.region rfl ?_)
    refine XO.q (Q.lss rfl rfl) ?_
    refine XO.done (XK.seq ?_)
    refine XK.if rfl (fun c0 => ?_) (fun c0 => ?_)
    · skip
      have hop := open_le ok (i : Int) (n := k) (by omega)
      have hop0 := open_nonneg ok (i : Int) (n := k) (by omega)
      have hbk := ok.branch k (by omega)
      refine XK.skip (XK.seq (XK.block (XK.seq (XK.region rfl ?_))))
      refine XO.ix rfl rfl (by omega) (by omega) fun i29 => ?_
      refine XO.q (Q.ldEA [_, _, _] rfl (by first | assumption | omega) rfl rfl) ?_
      refine XO.alloc fun b9 => ?_
      refine XO.st rfl rfl rfl ?_
      refine XO.done (XK.seq (XK.region rfl ?_))
      refine XO.q (Q.fieldAddr rfl) ?_
      refine XO.q (Q.ld rfl rfl) ?_
      refine XO.q (Q.move rfl) ?_
      refine XO.q (Q.eql rfl rfl) ?_
      refine XO.done ?_
      refine XK.if rfl (fun c1 => ?_) (fun c1 => ?_)
      · skip
        refine XK.region rfl (XO.q (Q.move rfl) ?_)
        refine XO.q (Q.fieldAddr rfl) ?_
        refine XO.q (Q.ld rfl rfl) ?_
        refine XO.q (Q.add rfl rfl ⟨by omega, by omega⟩) ?_
        refine XO.q (Q.assign rfl) (XO.done ?_)
        refine XK.inBlock ?_
        refine XK.region rfl ?_
        refine XO.q (Q.add rfl rfl ⟨by omega, by omega⟩) ?_
        refine XO.q (Q.move rfl) (XO.done ?_)
        rw [open_pos c1]
        exact ih0 (k + 1) _ _ (by omega) (by first | omega | (dsimp only; omega)) (.c rfl (.c rfl (.base 32 rfl rfl))) inferInstance
      · skip
        refine XK.skip ?_
        refine XK.inBlock ?_
        refine XK.region rfl ?_
        refine XO.q (Q.add rfl rfl ⟨by omega, by omega⟩) ?_
        refine XO.q (Q.move rfl) (XO.done ?_)
        rw [open_neg c1]
        exact ih0 (k + 1) _ _ (by omega) (by first | omega | (dsimp only; omega)) (.c rfl (.c rfl (.base 27 rfl rfl))) inferInstance
    · skip
      have hkn : k = h.branches.length := by omega
      rw [hkn]
      clear ih0 hk hkn c0
      refine XK.exit rfl ?_
      refine XK.seq (XK.region rfl ?_)
      refine XO.q (Q.fieldAddr rfl) ?_
      refine XO.q (Q.ld rfl rfl) ?_
      refine XO.len rfl fun l42 => ?_
      refine XO.q (Q.move rfl) (XO.done (XK.block ?_))
      refine XK.while (X := Nat × PHeap × List Int) [10, 11, 43, 44, 45, 46, 47, 48, 49, 50, 51, 52, 53, 54, 55, 56, 57, 58, 59, 60, 61, 62, 63, 64, 65, 66, 67, 68] (fun ⟨k, hq, z⟩ => [(43, some (.int .i64 (k : Nat)))]) (fun ⟨k, hq, z⟩ => [hq]) (fun ⟨k, hq, z⟩ => k ≤ h.branches.length ∧ Fed h pump i k o z ∧ OArr vo encI 1 3 hq z) (fun ⟨k, hq, z⟩ => h.branches.length - k) (0, h0_12, _) [h0_12] rfl ⟨by omega, fs, O0_12⟩ (.c rfl (.base 0 rfl rfl)) ?_
      rintro ⟨k, hq, z⟩ ⟨hk, fd, OZ⟩ ih1
      dsimp only [lcA, lnA] at ih1 ⊢
      refine XK.seq (XK.region rfl ?_)
      refine XO.q (Q.lss rfl rfl) ?_
      refine XO.done (XK.seq ?_)
      refine XK.if rfl (fun c2 => ?_) (fun c2 => ?_)
      · skip
        have hbk := ok.branch k (by omega)
        have hfr := flows_rng ok hp i hi
        have hzl := fd.len
        refine XK.skip (XK.seq (XK.block (XK.seq (XK.region rfl (XO.q (Q.move rfl) ?_)))))
        refine XO.ix rfl rfl (by omega) (by omega) fun i46 => ?_
        refine XO.q (Q.ldEA [_, _, _] rfl (by first | assumption | omega) rfl rfl) ?_
        refine XO.alloc fun b11 => ?_
        refine XO.q (Q.assign rfl) ?_
        refine XO.st rfl rfl rfl ?_
        refine XO.done (XK.seq (XK.region rfl ?_))
        refine XO.q (Q.fieldAddr rfl) ?_
        refine XO.q (Q.ld rfl rfl) ?_
        refine XO.q (Q.move rfl) ?_
        refine XO.q (Q.eql rfl rfl) ?_
        refine XO.q (Q.move rfl) ?_
        refine XO.q (Quiet.guardT rfl rfl fun g53 p53 => Q.move rfl) ?_
        refine XO.q (Quiet.guardT rfl rfl fun g54 p54 => Q.gtr (lzv g54 rfl) rfl) ?_
        refine XO.q (Q.and rfl (fun hp => lzv hp rfl)) ?_
        refine XO.done ?_
        refine XK.if rfl (fun c3 => ?_) (fun c3 => ?_)
        · skip
          obtain ⟨c3u, c3s⟩ := c3
          have hmul : 0 ≤ (flowsL h pump).getD i 0 * (h.branches.getD k default).opn ∧ (flowsL h pump).getD i 0 * (h.branches.getD k default).opn ≤ 100000 * 100 := ⟨Int.mul_nonneg hfr.1 hbk.2.1.1, Int.mul_le_mul (by omega) hbk.2.1.2 hbk.2.1.1 (by omega)⟩
          have hsh := share_le (x := (flowsL h pump).getD i 0) (o := (h.branches.getD k default).opn) (s := sumOpen h i h.branches.length) hfr.1 hbk.2.1.1 (by have := open_one ok (k := k) (by omega); rw [c3u] at this; exact this) c3s
          have hup := up_of ok (i := k) (by omega) (not_zero ok (by omega) c3u)
          refine XK.drawn [0, 1, 2, 3, 4, 6, 7, 9, 8, 10] [b6, b5, b11] [] (.q 0 (.q 1 (.q 2 (.q 3 (.q 4 (.q 6 (.q 7 (.q 9 (.br 5 true (.q 8 (.q 10 (.br 11 true .done .stop))) .stop))))))))) Try.mixed rfl (by kernel_rfl) ?_
          refine XT.q rfl rfl (Q.ld rfl rfl) ?_
          refine XT.q rfl rfl (Q.move rfl) ?_
          refine XT.q rfl rfl (Q.ld rfl rfl) ?_
          refine XT.q rfl rfl (Q.move rfl) ?_
          refine XT.ix rfl rfl rfl rfl (by omega) (by omega) fun i60 => ?_
          refine XT.q rfl rfl (Q.fieldAddr rfl) ?_
          refine XT.q rfl rfl (Q.ld rfl rfl) ?_
          refine XT.q rfl rfl (Q.move rfl) ?_
          refine XT.qs rfl rfl (Q.ldE rfl (by first | assumption | omega) rfl) ⟨inferInstance, ?_⟩ XT.stop
          rw [show z.getD i default = (flowsL h pump).getD i 0 from fd.yes i hi (.inl rfl)]
          refine XT.q rfl rfl (Q.mul rfl rfl ⟨by omega, by omega⟩) ?_
          refine XT.q rfl rfl (Q.quo rfl rfl (by omega) (by omega) (by omega)) ?_
          refine XT.call rfl rfl Try.call74 rfl rfl rfl (ih k (by omega) (by omega) _ hsh.1 (by omega) (feed_child ok (by omega) c3u c3s).symm hq z OZ fd.len (fed_zero ok fd (by omega) c3u hz)) (fun v67 s67 R67 => ?_) XT.stop
          obtain ⟨h67, y, rfl, O67, y1, y2, y3⟩ := R67
          dsimp only [lcA, lnA]
          refine ⟨inferInstance, ?_⟩
          refine XT.done ?_
          refine XK.inBlock ?_
          refine XK.region rfl ?_
          refine XO.q (Q.add rfl rfl ⟨by omega, by omega⟩) ?_
          refine XO.q (Q.move rfl) (XO.done ?_)
          exact ih1 (k + 1, h67, y) _ _ ⟨by dsimp only; omega, fed_call ok fd (by omega) c3u y1 y2 y3, O67⟩ (by first | omega | (dsimp only; omega)) (.c rfl (.base 57 rfl rfl)) inferInstance
        · skip
          refine XK.skip ?_
          refine XK.inBlock ?_
          refine XK.region rfl ?_
          refine XO.q (Q.add rfl rfl ⟨by omega, by omega⟩) ?_
          refine XO.q (Q.move rfl) (XO.done ?_)
          exact ih1 (k + 1, hq, z) _ _ ⟨by dsimp only; omega, fed_skip ok fd (by omega) hz c3, OZ⟩ (by first | omega | (dsimp only; omega)) (.c rfl (.base 45 rfl rfl)) inferInstance
      · skip
        have hkn : k = h.branches.length := by omega
        rw [hkn] at fd
        refine XK.exit rfl ?_
        refine XK.fn [hq] Try.func74 Try.results74 (.n) ?_
        exact ⟨hq, z, rfl, OZ, fd.len, fun j hj s => fd.yes j hj ((done_sub ok hi).1 s), fun j s => fd.no j fun hd => s ((done_sub ok hi).2 hd)⟩
end Go.X

set_option linter.unusedSimpArgs false
set_option linter.unusedVariables false
set_option maxRecDepth 20000
namespace Go.X
open Go.Proofs
theorem flows_eq {h : Hall} {pump : Int} {o : List Int} (hl : o.length = h.branches.length) (hj : ∀ j, j < h.branches.length → o.getD j 0 = (flowsL h pump).getD j 0) : o = flowsL h pump := by
  refine List.ext_getElem (by rw [hl, flows_len]) fun j h1 h2 => ?_
  have := hj j (by omega)
  simpa [h1, h2] using this
theorem flows_zero {h : Hall} (ok : HOk h) {pump : Int} (h0 : 0 < h.branches.length) : max (pump - (h.branches.getD 0 default).leak) 0 = (flowsL h pump).getD 0 0 := by
  rw [flows_at ok h0]; unfold feedOf; rw [if_pos rfl]
theorem flows_spec (h : Hall) (vr vw vb vc : Value) (hb : PHeap) [ir : One vr] [iw : One vw] [ib : Arr vb encBranch 3 hb h.branches] [ic : One vc] (ok : HOk h) (pump : Int) (hp : 0 ≤ pump) (hp2 : pump ≤ 100000) : Spec Try.prog 38 #[.agg #[vr, vw, vb, vc], .int .i64 pump] [] [hb]
    (fun v hs => ∃ k, hs = [k] ∧ OArr v encI 1 3 k (flowsL h pump)) := by
  have hb2 := ok.b2
  refine Spec.intro (fn := Try.f38) (N := 19) Try.func38 rfl Try.ntmps38 rfl fun B => ?_
  refine XK.seq (XK.region rfl ?_)
  refine XO.box rfl fun b2 => ?_
  refine XO.q (Q.assign rfl) (XO.done (XK.seq (XK.region rfl ?_)))
  refine XO.q (Q.fieldAddr rfl) ?_
  refine XO.q (Q.ld rfl rfl) ?_
  refine XO.len rfl fun l9 => ?_
  refine XO.make encI (0) rfl rfl rfl (by omega) (by omega) (fun _ => rfl) rfl rfl rfl (by dsimp only [encI]; infer_instance) fun v10 h10 O10 => ?_
  refine XO.alloc fun b5 => ?_
  refine XO.st rfl rfl rfl ?_
  refine XO.done (XK.seq (XK.region rfl ?_))
  refine XO.alloc fun b6 => ?_
  refine XO.done (XK.seq (XK.region rfl ?_))
  refine XO.q (Q.func (fun _ he => rfl) (fun _ he => evs_rel he rfl)) ?_
  refine XO.st rfl rfl rfl ?_
  refine XO.done (XK.seq (XK.seq (XK.region rfl ?_)))
  refine XO.q (Q.ld rfl rfl) ?_
  refine XO.len rfl fun l13 => ?_
  rw [List.length_replicate]
  refine XO.q (Q.gtr rfl rfl) ?_
  refine XO.done ?_
  refine XK.if rfl (fun c0 => ?_) (fun c0 => ?_)
  · skip
    refine XK.region rfl ?_
    refine XO.q (Q.ld rfl rfl) ?_
    refine XO.q (Q.move rfl) ?_
    refine XO.call Try.call74 rfl rfl rfl (feed_spec h vr vw vb vc hb ok pump hp hp2 b2 b5 b6 v10 h.branches.length 0 (by omega) (by omega) pump hp hp2 (flows_zero ok (by omega)) h10 (List.replicate h.branches.length 0) O10 (by simp) (fun j _ => by rw [List.getD_eq_getElem?_getD, List.getElem?_replicate]; split <;> simp)) fun v17 s17 R17 => ?_
    obtain ⟨h17, y, rfl, O17, y1, y2, y3⟩ := R17
    dsimp only [lcA, lnA]
    refine XO.done (XK.seq (XK.region rfl ?_))
    refine XO.q (Q.ld rfl rfl) ?_
    refine XO.q (Q.assign rfl) (XO.done ?_)
    refine XK.rt [h17] Try.func38 Try.results38 (.t rfl .n) ?_
    rw [flows_eq y1 fun j hj => y2 j hj (sub_root ok j hj)] at O17
    exact ⟨h17, rfl, O17⟩
  · skip
    refine XK.skip (XK.seq (XK.region rfl ?_))
    refine XO.q (Q.ld rfl rfl) ?_
    refine XO.q (Q.assign rfl) (XO.done ?_)
    refine XK.rt [h10] Try.func38 Try.results38 (.t rfl .n) ?_
    have h0 : h.branches.length = 0 := by omega
    rw [flows_eq (pump := pump) (h := h) (o := List.replicate h.branches.length 0) (by simp) (fun j hj => by omega)] at O10
    exact ⟨h10, rfl, O10⟩
theorem Flows_spec (h : Hall) (vr vw vb vc : Value) (hr hw hb hc : PHeap) [ir : Arr vr encRoom 2 hr h.rooms] [iw : Arr vw encWall 3 hw h.walls] [ib : Arr vb encBranch 3 hb h.branches] [ic : Arr vc encCooler 5 hc h.coolers] (pump : Int) : Spec Try.prog 10 #[.agg #[vr, vw, vb, vc], .int .i64 pump] [] [hr, hw, hb, hc]
    (fun v hs => ∃ v1 k1, v = .tuple #[v1, .int .i64 (flowsG h pump).2] ∧ hs = [k1] ∧ OArr v1 encI 1 3 k1 (flowsG h pump).1) := by
  refine Spec.intro (fn := Try.f10) (N := 18) Try.func10 rfl Try.ntmps10 rfl fun B => ?_
  refine XK.seq (XK.region rfl ?_)
  refine XO.box rfl fun b2 => ?_
  refine XO.q (Q.assign rfl) (XO.q (Q.assign rfl) (XO.done (XK.seq (XK.seq (XK.region rfl ?_)))))
  refine XO.q (Q.ldA [_, _, _, _] rfl rfl rfl) ?_
  refine XO.call Try.call36 rfl rfl rfl (Check_spec h vr vw vb vc hr hw hb hc) fun v8 s8 R8 => ?_
  obtain ⟨rfl, rfl⟩ := R8
  dsimp only [lcA, lnA]
  refine XO.q (Q.assign rfl) (XO.done (XK.seq (XK.region rfl (XO.q (Q.move rfl) ?_))))
  refine XO.q (Q.neq rfl rfl) ?_
  refine XO.done ?_
  refine XK.if rfl (fun c0 => ?_) (fun c0 => ?_)
  · skip
    refine XK.seq (XK.region rfl (XO.q (Q.move rfl) (XO.q (Q.assign rfl) (XO.q (Q.assign rfl) (XO.done ?_)))))
    refine XK.rt [emp] Try.func10 Try.results10 (.t rfl (.t rfl .n)) ?_
    have hw0 : flowsG h pump = ([], hcheck h) := by rw [flowsG, if_pos c0]
    rw [hw0]
    exact ⟨.slice none 0 0, emp, rfl, rfl, OArr.nil (fun _ => rfl)⟩
  · skip
    refine XK.skip (XK.seq (XK.seq (XK.region rfl (XO.q (Q.move rfl) ?_))))
    refine XO.call Try.call37 rfl rfl rfl (in_spec _ _) fun v13 s13 R13 => ?_
    obtain ⟨rfl, rfl⟩ := R13
    dsimp only [lcA, lnA]
    refine XO.q (Q.not rfl) ?_
    refine XO.done ?_
    refine XK.if rfl (fun c1 => ?_) (fun c1 => ?_)
    · skip
      refine XK.seq (XK.region rfl (XO.q (Q.assign rfl) (XO.q (Q.assign rfl) (XO.done ?_))))
      refine XK.rt [emp] Try.func10 Try.results10 (.t rfl (.t rfl .n)) ?_
      have hw0 : flowsG h pump = ([], 6) := by rw [flowsG, if_neg c0, if_pos c1]
      rw [hw0]
      exact ⟨.slice none 0 0, emp, rfl, rfl, OArr.nil (fun _ => rfl)⟩
    · skip
      have hpp : inP pump 100000 = true := Classical.byContradiction c1
      have hp2 := hpp
      simp only [inP, Bool.and_eq_true, decide_eq_true_eq] at hp2
      refine XK.skip (XK.seq (XK.region rfl ?_))
      refine XO.q (Q.ldA [_, _, _, _] rfl rfl rfl) ?_
      refine XO.q (Q.move rfl) ?_
      refine XO.call Try.call38 rfl rfl rfl (flows_spec h vr vw vb vc hb (hcheck_ok (Decidable.of_not_not c0)) pump hp2.1 hp2.2) fun v17 s17 R17 => ?_
      obtain ⟨k1, rfl, O1⟩ := R17
      dsimp only [lcA, lnA]
      refine XO.q (Q.assign rfl) (XO.q (Q.assign rfl) (XO.done ?_))
      refine XK.rt [k1] Try.func10 Try.results10 (.t rfl (.t rfl .n)) ?_
      have hw0 : flowsG h pump = (flowsL h pump, 0) := by rw [flowsG, if_neg c0, if_neg (by simpa using hpp)]
      rw [hw0]
      exact ⟨_, k1, rfl, rfl, O1⟩
end Go.X

set_option linter.unusedSimpArgs false
set_option linter.unusedVariables false
set_option maxRecDepth 20000
namespace Go.X
open Go.Proofs
theorem at_spec (h : Hall) (vr vw vb vc : Value) (hb hc : PHeap) [ir : One vr] [iw : One vw] [ib : Arr vb encBranch 3 hb h.branches] [ic : Arr vc encCooler 5 hc h.coolers] (ok : HOk h) (t : List Int) (vt : Value) (ht : PHeap) [it : Arr vt encI 1 ht t] (tk : TOk h t) (c : HCase) (ck : COk h c) (vl : Value) [il : One vl] :
    Spec Try.prog 44 #[.agg #[vr, vw, vb, vc], vt, .agg #[vl, .int .i64 c.out, .int .i64 c.pump]] [] [hb, hc, ht] (fun v hs => ∃ b vk k, v = ptr b 0 ∧ hs = [blk b [vr, vw, vb, vc, vl, .int .i64 c.out, .int .i64 c.pump, vt, vk] 109, k] ∧ OArr vk encI 1 3 k (takenL h t c.pump)) := by
  have hnil : OArr (.slice none 0 0) encI 1 3 emp ([] : List Int) := OArr.nil (fun _ => rfl)
  have hb2 := ok.b2
  have hc2 := ok.c2
  have hfl := flows_len h c.pump
  have htl := tk.len
  have hpm := ck.pump
  refine Spec.intro (fn := Try.f44) (N := 88) Try.func44 rfl Try.ntmps44 rfl fun B => ?_
  refine XK.seq (XK.region rfl ?_)
  refine XO.box rfl fun b3 => ?_
  refine XO.box rfl fun b5 => ?_
  refine XO.q (Q.assign rfl) (XO.done (XK.seq (XK.region rfl ?_)))
  refine XO.q (Q.ldA [_, _, _, _] rfl rfl rfl) ?_
  refine XO.q (Q.ldA [_, _, _] rfl rfl rfl) ?_
  refine XO.q (Q.move rfl) ?_
  refine XO.q (Q.build [_, _, _, _, _, _, _, _, _] (.c 0 4 rfl rfl rfl (.c 4 3 rfl rfl rfl (.c 7 1 rfl rfl rfl (.n _))))) ?_
  refine XO.box rfl fun b19 => ?_
  refine XO.q (Q.assign rfl) (XO.done (XK.seq (XK.region rfl ?_)))
  refine XO.q (Q.ldA [_, _, _, _] rfl rfl rfl) ?_
  refine XO.q (Q.fieldAddr rfl) ?_
  refine XO.q (Q.ld rfl rfl) ?_
  refine XO.call Try.call38 rfl rfl rfl (flows_spec h vr vw vb vc hb ok c.pump ck.pump.1 ck.pump.2) fun v23 s23 R23 => ?_
  obtain ⟨k23, rfl, O23⟩ := R23
  dsimp only [lcA, lnA]
  refine XO.q (Q.assign rfl) (XO.done (XK.seq (XK.region rfl (XO.q (Q.move rfl) ?_))))
  refine XO.len rfl fun l25 => ?_
  rw [hfl]
  refine XO.make encI (0) rfl rfl rfl (by omega) (by omega) (fun _ => rfl) rfl rfl rfl (by dsimp only [encI]; infer_instance) fun v26 h26 O26 => ?_
  refine XO.q (Q.assign rfl) (XO.done (XK.seq (XK.seq (XK.region rfl ?_))))
  refine XO.q (Q.fieldAddr rfl) ?_
  refine XO.q (Q.ld rfl rfl) ?_
  refine XO.len rfl fun l29 => ?_
  refine XO.q (Q.move rfl) (XO.done (XK.block ?_))
  refine XK.while (X := Nat × PHeap × List Int) [11, 30, 31, 32, 33, 34, 35, 36, 37, 38, 39, 40, 41] (fun ⟨k, hz, on⟩ => [(30, some (.int .i64 (k : Nat)))]) (fun ⟨k, hz, on⟩ => [hz]) (fun ⟨k, hz, on⟩ => k ≤ h.coolers.length ∧ on.length = h.branches.length ∧ (∀ b : Int, 0 ≤ b → b < h.branches.length → on.getD b.toNat 0 = onBr h b k) ∧ OArr v26 encI 1 3 hz on) (fun ⟨k, hz, on⟩ => h.coolers.length - k) (0, h26, _) [h26] rfl ⟨by omega, by simp, fun b h1 h2 => by rw [List.getD_eq_getElem?_getD, List.getElem?_replicate]; split <;> rfl, O26⟩ (.c rfl (.base 0 rfl rfl)) ?_
  rintro ⟨k, hz, on⟩ ⟨hk, hol, hon, OZ⟩ ih0
  dsimp only [lcA, lnA] at ih0 ⊢
  refine XK.seq (XK.region rfl ?_)
  refine XO.q (Q.lss rfl rfl) ?_
  refine XO.done (XK.seq ?_)
  refine XK.if rfl (fun c0 => ?_) (fun c0 => ?_)
  · skip
    have hcf := ok.cooler k (by omega)
    have hbt : (h.coolers.getD k default).br.toNat < on.length := by omega
    have hov := onBr_rng (h := h) (h.coolers.getD k default).br k
    have hoe := hon (h.coolers.getD k default).br hcf.2.1.1 hcf.2.1.2
    change on.getD (h.coolers.getD k default).br.toNat default = _ at hoe
    refine XK.skip (XK.seq (XK.block (XK.seq (XK.region rfl ?_))))
    refine XO.ix rfl rfl (by omega) (by omega) fun i32 => ?_
    refine XO.q (Q.ldEA [_, _, _, _, _] rfl (by first | assumption | omega) rfl rfl) ?_
    refine XO.alloc fun b11 => ?_
    refine XO.st rfl rfl rfl ?_
    refine XO.done (XK.region rfl (XO.q (Q.move rfl) ?_))
    refine XO.q (Q.fieldAddr rfl) ?_
    refine XO.q (Q.ld rfl rfl) ?_
    refine XO.ix rfl rfl (by omega) (by omega) fun i37 => ?_
    refine XO.q (Q.ldE rfl (by first | assumption | omega) rfl) ?_
    refine XO.q (Q.add rfl rfl ⟨by omega, by omega⟩) ?_
    refine XO.ix rfl rfl (by omega) (by omega) fun i40 => ?_
    refine XO.stE _ rfl rfl rfl (by assumption) rfl rfl fun h7_7 O7_7 => ?_
    refine XO.done ?_
    refine XK.inBlock ?_
    refine XK.region rfl ?_
    refine XO.q (Q.add rfl rfl ⟨by omega, by omega⟩) ?_
    refine XO.q (Q.move rfl) (XO.done ?_)
    exact ih0 (k + 1, h7_7, _) _ _ ⟨by dsimp only; omega, by simp only [List.length_set]; exact hol, fun b h1 h2 => by
        dsimp only
        rw [List.getD_eq_getElem?_getD, List.getElem?_set, onBr_succ]
        by_cases hbb : (h.coolers.getD k default).br = b
        · rw [if_pos (by rw [hbb]), if_pos hbt, if_pos hbb, Option.getD_some, hoe, hbb]
        · rw [if_neg (by omega), ← List.getD_eq_getElem?_getD, hon b h1 h2, if_neg hbb, Int.add_zero], O7_7⟩ (by first | omega | (dsimp only; omega)) (.c rfl (.base 27 rfl rfl)) inferInstance
  · skip
    have hkn : k = h.coolers.length := by omega
    rw [hkn] at hon
    clear ih0 hk hkn c0
    refine XK.exit rfl ?_
    refine XK.seq (XK.seq (XK.region rfl ?_))
    refine XO.q (Q.fieldAddr rfl) ?_
    refine XO.q (Q.ld rfl rfl) ?_
    refine XO.len rfl fun l44 => ?_
    refine XO.q (Q.move rfl) (XO.done (XK.block ?_))
    refine XK.while (X := Nat × Value × PHeap) [13, 14, 45, 46, 47, 48, 49, 50, 51, 52, 53, 54, 55, 56, 57, 58, 59, 60, 61, 62, 63, 64, 65, 66, 67, 68, 69, 70, 71, 72, 73, 74, 75, 76, 77, 78, 79, 80, 81, 82, 83, 84, 85, 86] (fun ⟨k, vk, hk9⟩ => [(45, some (.int .i64 (k : Nat)))]) (fun ⟨k, vk, hk9⟩ => [blk b19 [vr, vw, vb, vc, vl, .int .i64 c.out, .int .i64 c.pump, vt, vk] 109, hk9]) (fun ⟨k, vk, hk9⟩ => k ≤ h.coolers.length ∧ OArr vk encI 1 3 hk9 ((List.range k).map (takenAt h t (flowsL h c.pump)))) (fun ⟨k, vk, hk9⟩ => h.coolers.length - k) (0, .slice none 0 0, emp) [blk b19 [vr, vw, vb, vc, vl, .int .i64 c.out, .int .i64 c.pump, vt, .slice none 0 0] 109, emp] rfl ⟨by omega, by simpa using hnil⟩ (.c rfl (.base 0 rfl rfl)) ?_
    rintro ⟨k, vk, hk9⟩ ⟨hk, OK⟩ ih1
    dsimp only [lcA, lnA] at ih1 ⊢
    refine XK.seq (XK.region rfl ?_)
    refine XO.q (Q.lss rfl rfl) ?_
    refine XO.done (XK.seq ?_)
    refine XK.if rfl (fun c1 => ?_) (fun c1 => ?_)
    · skip
      have hcf := ok.cooler k (by omega)
      have hoe := hon (h.coolers.getD k default).br hcf.2.1.1 hcf.2.1.2
      change on.getD (h.coolers.getD k default).br.toNat default = _ at hoe
      have hop := onBr_pos (h := h) (k := k) (by omega)
      have hor := onBr_rng (h := h) (h.coolers.getD k default).br h.coolers.length
      have hF := flows_rng ok ck.pump.1 (h.coolers.getD k default).br.toNat (by omega)
      change 0 ≤ (flowsL h c.pump).getD (h.coolers.getD k default).br.toNat default ∧ (flowsL h c.pump).getD (h.coolers.getD k default).br.toNat default ≤ c.pump at hF
      have hm1 := mul_abs (p := (h.coolers.getD k default).carry) (d := (flowsL h c.pump).getD (h.coolers.getD k default).br.toNat default) (P := 1000) (D := 100000) hcf.2.2.2.1.1 hcf.2.2.2.1.2 (by omega) (by omega) (by omega)
      have hm0 := Int.mul_nonneg hcf.2.2.2.1.1 hF.1
      have hT := temp_at ok tk hcf.1.1 hcf.1.2
      change 0 ≤ t.getD (h.coolers.getD k default).room.toNat default ∧ t.getD (h.coolers.getD k default).room.toNat default ≤ 1000000 at hT
      have hm2 := mul_abs (p := (h.coolers.getD k default).gain) (d := t.getD (h.coolers.getD k default).room.toNat default - (h.coolers.getD k default).supply) (P := 100000) (D := 1000000) hcf.2.2.1.1 hcf.2.2.1.2 (by omega) (by omega) (by omega)
      refine XK.skip (XK.seq (XK.block (XK.seq (XK.region rfl ?_))))
      refine XO.ix rfl rfl (by omega) (by omega) fun i47 => ?_
      refine XO.q (Q.ldEA [_, _, _, _, _] rfl (by first | assumption | omega) rfl rfl) ?_
      refine XO.alloc fun b13 => ?_
      refine XO.st rfl rfl rfl ?_
      refine XO.done (XK.seq ?_)
      refine XK.drawn [0, 1, 2, 3, 4, 5, 6, 7, 8, 9, 10, 11, 12, 13, 14] [b13] [k23, hz] (.q 0 (.q 1 (.q 2 (.q 3 (.q 4 (.q 5 (.q 6 (.q 7 (.q 8 (.q 9 (.q 10 (.q 11 (.q 12 (.q 13 (.q 14 .done))))))))))))))) Try.mixed rfl (by kernel_rfl) ?_
      refine XT.q rfl rfl (Q.fieldAddr rfl) ?_
      refine XT.q rfl rfl (Q.ld rfl rfl) ?_
      refine XT.q rfl rfl (Q.move rfl) ?_
      refine XT.q rfl rfl (Q.fieldAddr rfl) ?_
      refine XT.q rfl rfl (Q.ld rfl rfl) ?_
      refine XT.ix rfl rfl rfl rfl (by omega) (by omega) fun i54 => ?_
      refine XT.q rfl rfl (Q.ldE rfl (by first | assumption | omega) rfl) ?_
      refine XT.q rfl rfl (Q.mul rfl rfl ⟨by omega, by omega⟩) ?_
      refine XT.q rfl rfl (Q.move rfl) ?_
      refine XT.q rfl rfl (Q.fieldAddr rfl) ?_
      refine XT.q rfl rfl (Q.ld rfl rfl) ?_
      refine XT.ix rfl rfl rfl rfl (by omega) (by omega) fun i60 => ?_
      refine XT.q rfl rfl (Q.ldE rfl (by first | assumption | omega) rfl) ?_
      refine XT.q rfl rfl (Q.quo rfl rfl (by omega) (by omega) (by omega)) ?_
      refine XT.q rfl rfl (Q.assign rfl) ?_
      refine XT.done ?_
      refine XK.drawn [0, 1, 2, 3, 5, 6, 7, 8, 9, 10, 11, 12, 13, 14, 15, 16, 17, 18, 21, 22] [b13] [] (.q 0 (.q 1 (.q 2 (.q 3 (.q 5 (.q 6 (.q 7 (.q 8 (.q 9 (.q 10 (.q 11 (.q 12 (.q 13 (.q 14 (.q 15 (.q 16 (.q 17 (.q 18 (.br 4 true (.br 19 true (.br 20 true (.q 21 (.q 22 (.br 23 true .done .stop))) .stop) .stop) (.br 19 true (.br 4 true (.br 20 true (.q 21 (.q 22 (.br 23 true .done .stop))) .stop) .stop) .stop)))))))))))))))))))) Try.mixed rfl (by kernel_rfl) ?_
      refine XT.q rfl rfl (Q.move rfl) ?_
      refine XT.q rfl rfl (Q.move rfl) ?_
      refine XT.q rfl rfl (Q.nilCheck rfl) ?_
      refine XT.q rfl rfl (Q.fieldAddr rfl) ?_
      refine XT.q rfl rfl (Q.fieldAddr rfl) ?_
      refine XT.q rfl rfl (Q.ld rfl rfl) ?_
      refine XT.q rfl rfl (Q.move rfl) ?_
      refine XT.q rfl rfl (Q.fieldAddr rfl) ?_
      refine XT.q rfl rfl (Q.ld rfl rfl) ?_
      refine XT.ix rfl rfl rfl rfl (by omega) (by omega) fun i73 => ?_
      refine XT.q rfl rfl (Q.ldE rfl (by first | assumption | omega) rfl) ?_
      refine XT.q rfl rfl (Q.fieldAddr rfl) ?_
      refine XT.q rfl rfl (Q.ld rfl rfl) ?_
      refine XT.q rfl rfl (Q.sub rfl rfl ⟨by omega, by omega⟩) ?_
      refine XT.q rfl rfl (Q.mul rfl rfl ⟨by omega, by omega⟩) ?_
      refine XT.q rfl rfl (Q.max rfl rfl) ?_
      refine XT.q rfl rfl (Q.move rfl) ?_
      refine XT.q rfl rfl (Q.min rfl rfl) ?_
      refine XT.qs rfl rfl (Q.ld rfl rfl) ⟨inferInstance, ?_⟩ ?_
      · skip
        refine XT.lit [_] [_] [_] encI rfl rfl (by rfl) (by rfl) rfl (by rfl) (by exact .c 0 1 rfl rfl rfl (.n _)) (fun _ => rfl) (by rfl) rfl (by infer_instance) rfl (fun v82 h82 O82 => ⟨inferInstance, ?_⟩) XT.stop
        refine XT.append rfl rfl rfl rfl rfl rfl (by simp only [List.length_map, List.length_range, List.length_cons, List.length_nil]; omega) (fun v83 h83 O83 => ⟨inferInstance, ?_⟩) XT.stop
        refine XT.q rfl rfl (Q.nilCheck rfl) ?_
        refine XT.q rfl rfl (Q.fieldAddr rfl) ?_
        refine XT.st rfl rfl rfl rfl rfl ⟨inferInstance, ?_⟩ XT.stop
        refine XT.done ?_
        refine XK.inBlock ?_
        refine XK.region rfl ?_
        refine XO.q (Q.add rfl rfl ⟨by omega, by omega⟩) ?_
        refine XO.q (Q.move rfl) (XO.done ?_)
        exact ih1 (k + 1, v83, h83) _ _ ⟨by dsimp only; omega, by dsimp only; rw [show (List.range (k + 1)).map (takenAt h t (flowsL h c.pump)) = (List.range k).map (takenAt h t (flowsL h c.pump)) ++ [takenAt h t (flowsL h c.pump) k] by rw [List.range_succ, List.map_append]; rfl, takenAt]; rw [hoe] at O83; exact O83⟩ (by first | omega | (dsimp only; omega)) (.c rfl (.base 89 rfl rfl)) inferInstance
      · skip
        refine XT.lit [_] [_] [_] encI rfl rfl (by rfl) (by rfl) rfl (by rfl) (by exact .c 0 1 rfl rfl rfl (.n _)) (fun _ => rfl) (by rfl) rfl (by infer_instance) rfl (fun v82 h82 O82 => ⟨inferInstance, ?_⟩) XT.stop
        refine XT.qs rfl rfl (Q.ld rfl rfl) ⟨inferInstance, ?_⟩ XT.stop
        refine XT.append rfl rfl rfl rfl rfl rfl (by simp only [List.length_map, List.length_range, List.length_cons, List.length_nil]; omega) (fun v83 h83 O83 => ⟨inferInstance, ?_⟩) XT.stop
        refine XT.q rfl rfl (Q.nilCheck rfl) ?_
        refine XT.q rfl rfl (Q.fieldAddr rfl) ?_
        refine XT.st rfl rfl rfl rfl rfl ⟨inferInstance, ?_⟩ XT.stop
        refine XT.done ?_
        refine XK.inBlock ?_
        refine XK.region rfl ?_
        refine XO.q (Q.add rfl rfl ⟨by omega, by omega⟩) ?_
        refine XO.q (Q.move rfl) (XO.done ?_)
        exact ih1 (k + 1, v83, h83) _ _ ⟨by dsimp only; omega, by dsimp only; rw [show (List.range (k + 1)).map (takenAt h t (flowsL h c.pump)) = (List.range k).map (takenAt h t (flowsL h c.pump)) ++ [takenAt h t (flowsL h c.pump) k] by rw [List.range_succ, List.map_append]; rfl, takenAt]; rw [hoe] at O83; exact O83⟩ (by first | omega | (dsimp only; omega)) (.c rfl (.base 89 rfl rfl)) inferInstance
    · skip
      refine XK.exit rfl ?_
      refine XK.seq (XK.region rfl (XO.q (Q.move rfl) (XO.q (Q.assign rfl) (XO.done ?_))))
      refine XK.rt [blk b19 [vr, vw, vb, vc, vl, .int .i64 c.out, .int .i64 c.pump, vt, vk] 109, hk9] Try.func44 Try.results44 (.t rfl .n) ?_
      have hkn : k = h.coolers.length := by omega
      rw [hkn] at OK
      exact ⟨b19, vk, hk9, rfl, rfl, OK⟩
end Go.X

set_option linter.unusedSimpArgs false
set_option linter.unusedVariables false
set_option maxRecDepth 20000
namespace Go.X
open Go.Proofs
theorem load_spec (b : Nat) (vr vw vb vc vl vt vk : Value) (c : HCase) (hl : PHeap) [il : Arr vl encI 1 hl c.load] (i : Nat) (hi : i < c.load.length) : Spec Try.prog 79 #[ptr b 0, .int .i64 (i : Nat)] [] [blk b [vr, vw, vb, vc, vl, .int .i64 c.out, .int .i64 c.pump, vt, vk] 109, hl]
    (fun v hs => v = .int .i64 (c.load.getD i 0) ∧ hs = []) := by
  refine Spec.intro (fn := Try.f79) (N := 13) Try.func79 rfl Try.ntmps79 rfl fun B => ?_
  refine XK.seq (XK.region rfl (XO.q (Q.assign rfl) (XO.done (XK.seq (XK.region rfl ?_)))))
  refine XO.q (Q.move rfl) ?_
  refine XO.q (Q.nilCheck rfl) ?_
  refine XO.q (Q.fieldAddr rfl) ?_
  refine XO.q (Q.fieldAddr rfl) ?_
  refine XO.q (Q.ld rfl rfl) ?_
  refine XO.q (Q.move rfl) ?_
  refine XO.ix rfl rfl (by omega) (by omega) fun i11 => ?_
  refine XO.q (Q.ldE rfl (by first | assumption | omega) rfl) ?_
  refine XO.q (Q.assign rfl) (XO.done ?_)
  refine XK.rt [] Try.func79 Try.results79 (.t rfl .n) ?_
  exact ⟨rfl, rfl⟩
theorem walls_spec (h : Hall) (ok : HOk h) (b : Nat) (vr vw vb vc vl vt vk : Value) (c : HCase) (hw ht : PHeap) [iw : Arr vw encWall 3 hw h.walls] (t : List Int) [it : Arr vt encI 1 ht t] (tk : TOk h t) (ck : COk h c) (i : Nat) (hi : i < h.rooms.length) :
    Spec Try.prog 80 #[ptr b 0, .int .i64 (i : Nat)] [] [blk b [vr, vw, vb, vc, vl, .int .i64 c.out, .int .i64 c.pump, vt, vk] 109, hw, ht] (fun v hs => v = .int .i64 (sumTo (wheat h t c.out i) h.walls.length) ∧ hs = []) := by
  have hw2 := ok.w2
  have htl := tk.len
  have hco := ck.out
  have hI := tk.rng i (by omega)
  change 0 ≤ t.getD i default ∧ t.getD i default ≤ 1000000 at hI
  refine Spec.intro (fn := Try.f80) (N := 81) Try.func80 rfl Try.ntmps80 rfl fun B => ?_
  refine XK.seq (XK.region rfl (XO.q (Q.assign rfl) (XO.done (XK.seq (XK.region rfl ?_)))))
  refine XO.q (Q.assign rfl) (XO.done (XK.seq (XK.seq (XK.region rfl (XO.q (Q.move rfl) ?_)))))
  refine XO.q (Q.nilCheck rfl) ?_
  refine XO.q (Q.fieldAddr rfl) ?_
  refine XO.q (Q.fieldAddr rfl) ?_
  refine XO.q (Q.ld rfl rfl) ?_
  refine XO.len rfl fun l14 => ?_
  refine XO.q (Q.move rfl) (XO.done (XK.block ?_))
  refine XK.while (X := Nat) [5, 7, 8, 15, 16, 17, 18, 19, 20, 21, 22, 23, 24, 25, 26, 27, 28, 29, 30, 31, 32, 33, 34, 35, 36, 37, 38, 39, 40, 41, 42, 43, 44, 45, 46, 47, 48, 49, 50, 51, 52, 53, 54, 55, 56, 57, 58, 59, 60, 61, 62, 63, 64, 65, 66, 67, 68, 69, 70, 71, 72, 73, 74, 75, 76, 77, 78, 79] (fun k => [(15, some (.int .i64 (k : Nat))), (5, some (.int .i64 (sumTo (wheat h t c.out i) k)))]) (fun k => []) (fun k => k ≤ h.walls.length) (fun k => h.walls.length - k) (0) [] rfl (by omega) (.c rfl (.c rfl (.base 0 rfl rfl))) ?_
  rintro k hk ih0
  dsimp only [lcA, lnA] at ih0 ⊢
  refine XK.seq (XK.region rfl ?_)
  refine XO.q (Q.lss rfl rfl) ?_
  refine XO.done (XK.seq ?_)
  refine XK.if rfl (fun c0 => ?_) (fun c0 => ?_)
  · skip
    have hwf := ok.wall k (by omega)
    have hsw := wsum_abs ok tk hco hi (n := k) (by omega)
    have hA := temp_at ok tk hwf.1.1 hwf.1.2
    change 0 ≤ t.getD (h.walls.getD k default).a.toNat default ∧ t.getD (h.walls.getD k default).a.toNat default ≤ 1000000 at hA
    refine XK.skip (XK.seq (XK.block (XK.seq (XK.region rfl ?_))))
    refine XO.ix rfl rfl (by omega) (by omega) fun i17 => ?_
    refine XO.q (Q.ldEA [_, _, _] rfl (by first | assumption | omega) rfl rfl) ?_
    refine XO.alloc fun b7 => ?_
    refine XO.st rfl rfl rfl ?_
    refine XO.done (XK.seq (XK.region rfl (XO.q (Q.move rfl) ?_)))
    refine XO.q (Q.nilCheck rfl) ?_
    refine XO.q (Q.fieldAddr rfl) ?_
    refine XO.q (Q.fieldAddr rfl) ?_
    refine XO.q (Q.ld rfl rfl) ?_
    refine XO.q (Q.assign rfl) (XO.done (XK.seq (XK.seq (XK.region rfl ?_))))
    refine XO.q (Q.fieldAddr rfl) ?_
    refine XO.q (Q.ld rfl rfl) ?_
    refine XO.q (Q.geq rfl rfl) ?_
    refine XO.done ?_
    refine XK.meet (X := Int) [8, 27, 28, 29, 30, 31, 32, 33, 34] (fun y => [(8, some (.int .i64 y))]) (fun y => []) (fun y => y = (if 0 ≤ (h.walls.getD k default).b then t.getD (h.walls.getD k default).b.toNat 0 else c.out) ∧ 0 ≤ y ∧ y ≤ 1000000) [] ?_ ?_
    · rintro y ⟨hy, hy1, hy2⟩
      dsimp only [lcA, lnA]
      refine XK.seq (XK.region rfl (XO.q (Q.move rfl) (XO.done (XK.block (XK.seq ?_)))))
      refine XK.region rfl ?_
      refine XO.q (Q.fieldAddr rfl) ?_
      refine XO.q (Q.ld rfl rfl) ?_
      refine XO.q (Q.eql rfl rfl) ?_
      refine XO.q (Q.assign rfl) (XO.done ?_)
      refine XK.if rfl (fun c2 => ?_) (fun c2 => ?_)
      · skip
        have hm := mul_abs (p := (h.walls.getD k default).pass) (d := y - t.getD i default) (P := 100000) (D := 1000000) hwf.2.2.2.1 hwf.2.2.2.2 (by omega) (by omega) (by omega)
        refine XK.drawn [0, 1, 2, 3, 4, 5, 6, 7, 8, 9, 10, 11, 12, 13, 14] [b7, b] [] (.q 0 (.q 1 (.q 2 (.q 3 (.q 4 (.q 5 (.q 6 (.q 7 (.q 8 (.q 9 (.q 10 (.q 11 (.q 12 (.q 13 (.q 14 .done))))))))))))))) Try.mixed rfl (by kernel_rfl) ?_
        refine XT.q rfl rfl (Q.move rfl) ?_
        refine XT.q rfl rfl (Q.fieldAddr rfl) ?_
        refine XT.q rfl rfl (Q.ld rfl rfl) ?_
        refine XT.q rfl rfl (Q.move rfl) ?_
        refine XT.q rfl rfl (Q.move rfl) ?_
        refine XT.q rfl rfl (Q.nilCheck rfl) ?_
        refine XT.q rfl rfl (Q.fieldAddr rfl) ?_
        refine XT.q rfl rfl (Q.ld rfl rfl) ?_
        refine XT.q rfl rfl (Q.move rfl) ?_
        refine XT.ix rfl rfl rfl rfl (by omega) (by omega) fun i49 => ?_
        refine XT.q rfl rfl (Q.ldE rfl (by first | assumption | omega) rfl) ?_
        refine XT.q rfl rfl (Q.sub rfl rfl ⟨by omega, by omega⟩) ?_
        refine XT.q rfl rfl (Q.mul rfl rfl ⟨by omega, by omega⟩) ?_
        refine XT.q rfl rfl (Q.add rfl rfl ⟨by omega, by omega⟩) ?_
        refine XT.q rfl rfl (Q.assign rfl) ?_
        refine XT.done ?_
        refine XK.inBlock ?_
        refine XK.inBlock ?_
        refine XK.region rfl ?_
        refine XO.q (Q.add rfl rfl ⟨by omega, by omega⟩) ?_
        refine XO.q (Q.move rfl) (XO.done ?_)
        rw [show sumTo (wheat h t c.out i) k + (h.walls.getD k default).pass * (y - t.getD i default) = sumTo (wheat h t c.out i) (k + 1) by rw [sumTo, wheat, if_pos c2.symm, ← hy]; rfl]
        exact ih0 (k + 1) _ _ (by omega) (by first | omega | (dsimp only; omega)) (.c rfl (.c rfl (.base 115 rfl rfl))) inferInstance
      · skip
        refine XK.seq (XK.region rfl ?_)
        refine XO.q (Q.fieldAddr rfl) ?_
        refine XO.q (Q.ld rfl rfl) ?_
        refine XO.q (Q.eql rfl rfl) ?_
        refine XO.q (Q.assign rfl) (XO.done ?_)
        refine XK.if rfl (fun c3 => ?_) (fun c3 => ?_)
        · skip
          have hm := mul_abs (p := (h.walls.getD k default).pass) (d := t.getD (h.walls.getD k default).a.toNat default - t.getD i default) (P := 100000) (D := 1000000) hwf.2.2.2.1 hwf.2.2.2.2 (by omega) (by omega) (by omega)
          refine XK.drawn [0, 1, 2, 3, 4, 5, 6, 7, 8, 9, 10, 11, 12, 13, 14, 15, 16, 17, 18, 19, 20, 21] [b7, b] [] (.q 0 (.q 1 (.q 2 (.q 3 (.q 4 (.q 5 (.q 6 (.q 7 (.q 8 (.q 9 (.q 10 (.q 11 (.q 12 (.q 13 (.q 14 (.q 15 (.q 16 (.q 17 (.q 18 (.q 19 (.q 20 (.q 21 .done)))))))))))))))))))))) Try.mixed rfl (by kernel_rfl) ?_
          refine XT.q rfl rfl (Q.move rfl) ?_
          refine XT.q rfl rfl (Q.fieldAddr rfl) ?_
          refine XT.q rfl rfl (Q.ld rfl rfl) ?_
          refine XT.q rfl rfl (Q.move rfl) ?_
          refine XT.q rfl rfl (Q.nilCheck rfl) ?_
          refine XT.q rfl rfl (Q.fieldAddr rfl) ?_
          refine XT.q rfl rfl (Q.ld rfl rfl) ?_
          refine XT.q rfl rfl (Q.fieldAddr rfl) ?_
          refine XT.q rfl rfl (Q.ld rfl rfl) ?_
          refine XT.ix rfl rfl rfl rfl (by omega) (by omega) fun i67 => ?_
          refine XT.q rfl rfl (Q.ldE rfl (by first | assumption | omega) rfl) ?_
          refine XT.q rfl rfl (Q.move rfl) ?_
          refine XT.q rfl rfl (Q.nilCheck rfl) ?_
          refine XT.q rfl rfl (Q.fieldAddr rfl) ?_
          refine XT.q rfl rfl (Q.ld rfl rfl) ?_
          refine XT.q rfl rfl (Q.move rfl) ?_
          refine XT.ix rfl rfl rfl rfl (by omega) (by omega) fun i74 => ?_
          refine XT.q rfl rfl (Q.ldE rfl (by first | assumption | omega) rfl) ?_
          refine XT.q rfl rfl (Q.sub rfl rfl ⟨by omega, by omega⟩) ?_
          refine XT.q rfl rfl (Q.mul rfl rfl ⟨by omega, by omega⟩) ?_
          refine XT.q rfl rfl (Q.add rfl rfl ⟨by omega, by omega⟩) ?_
          refine XT.q rfl rfl (Q.assign rfl) ?_
          refine XT.done ?_
          refine XK.inBlock ?_
          refine XK.inBlock ?_
          refine XK.region rfl ?_
          refine XO.q (Q.add rfl rfl ⟨by omega, by omega⟩) ?_
          refine XO.q (Q.move rfl) (XO.done ?_)
          rw [show sumTo (wheat h t c.out i) k + (h.walls.getD k default).pass * (t.getD (h.walls.getD k default).a.toNat default - t.getD i default) = sumTo (wheat h t c.out i) (k + 1) by rw [sumTo, wheat, if_neg (Ne.symm c2), if_pos c3.symm]; rfl]
          exact ih0 (k + 1) _ _ (by omega) (by first | omega | (dsimp only; omega)) (.c rfl (.c rfl (.base 126 rfl rfl))) inferInstance
        · skip
          refine XK.skip ?_
          refine XK.inBlock ?_
          refine XK.inBlock ?_
          refine XK.region rfl ?_
          refine XO.q (Q.add rfl rfl ⟨by omega, by omega⟩) ?_
          refine XO.q (Q.move rfl) (XO.done ?_)
          rw [show sumTo (wheat h t c.out i) k = sumTo (wheat h t c.out i) (k + 1) by rw [sumTo, wheat, if_neg (Ne.symm c2), if_neg (Ne.symm c3), Int.add_zero]]
          exact ih0 (k + 1) _ _ (by omega) (by first | omega | (dsimp only; omega)) (.c rfl (.c rfl (.base 104 rfl rfl))) inferInstance
    · intro mt1
      dsimp only [lcA, lnA] at mt1
      refine XK.if rfl (fun c1 => ?_) (fun c1 => ?_)
      · skip
        refine XK.drawn [0, 1, 2, 3, 4, 5, 6, 7, 8] [b, b7] [] (.q 0 (.q 1 (.q 2 (.q 3 (.q 4 (.q 5 (.q 6 (.q 7 (.q 8 .done))))))))) Try.mixed rfl (by kernel_rfl) ?_
        refine XT.q rfl rfl (Q.move rfl) ?_
        refine XT.q rfl rfl (Q.nilCheck rfl) ?_
        refine XT.q rfl rfl (Q.fieldAddr rfl) ?_
        refine XT.q rfl rfl (Q.ld rfl rfl) ?_
        refine XT.q rfl rfl (Q.fieldAddr rfl) ?_
        refine XT.q rfl rfl (Q.ld rfl rfl) ?_
        refine XT.ix rfl rfl rfl rfl (by omega) (by omega) fun i33 => ?_
        refine XT.q rfl rfl (Q.ldE rfl (by first | assumption | omega) rfl) ?_
        refine XT.q rfl rfl (Q.assign rfl) ?_
        refine XT.done ?_
        exact mt1 (_) _ _ ⟨by rw [if_pos c1]; rfl, by have := temp_at ok tk (i := (h.walls.getD k default).b) c1 (by omega); exact this.1, by have := temp_at ok tk (i := (h.walls.getD k default).b) c1 (by omega); exact this.2⟩ (.c rfl (.base 9 rfl rfl)) inferInstance
      · skip
        refine XK.skip ?_
        exact mt1 (c.out) _ _ ⟨by rw [if_neg c1], hco.1, hco.2⟩ (.c rfl (.base 0 rfl rfl)) inferInstance
  · skip
    refine XK.exit rfl ?_
    refine XK.seq (XK.region rfl (XO.q (Q.move rfl) (XO.q (Q.assign rfl) (XO.done ?_))))
    refine XK.rt [] Try.func80 Try.results80 (.t rfl .n) ?_
    have hkn : k = h.walls.length := by omega
    rw [hkn]
    exact ⟨rfl, rfl⟩
theorem coolers_spec (h : Hall) (ok : HOk h) (b : Nat) (vr vw vb vc vl vt vk : Value) (c : HCase) (hc hk : PHeap) [ic : Arr vc encCooler 5 hc h.coolers] (t : List Int) (tk : TOk h t) (ck : COk h c) [ik : Arr vk encI 1 hk (takenL h t c.pump)] (i : Nat) :
    Spec Try.prog 81 #[ptr b 0, .int .i64 (i : Nat)] [] [blk b [vr, vw, vb, vc, vl, .int .i64 c.out, .int .i64 c.pump, vt, vk] 109, hc, hk] (fun v hs => v = .int .i64 (sumTo (cheat h (takenL h t c.pump) i) h.coolers.length) ∧ hs = []) := by
  have hc2 := ok.c2
  have hkl : (takenL h t c.pump).length = h.coolers.length := by simp [takenL]
  refine Spec.intro (fn := Try.f81) (N := 34) Try.func81 rfl Try.ntmps81 rfl fun B => ?_
  refine XK.seq (XK.region rfl (XO.q (Q.assign rfl) (XO.done (XK.seq (XK.region rfl ?_)))))
  refine XO.q (Q.assign rfl) (XO.done (XK.seq (XK.seq (XK.region rfl (XO.q (Q.move rfl) ?_)))))
  refine XO.q (Q.nilCheck rfl) ?_
  refine XO.q (Q.fieldAddr rfl) ?_
  refine XO.q (Q.fieldAddr rfl) ?_
  refine XO.q (Q.ld rfl rfl) ?_
  refine XO.len rfl fun l13 => ?_
  refine XO.q (Q.move rfl) (XO.done (XK.block ?_))
  refine XK.while (X := Nat) [5, 6, 7, 14, 15, 16, 17, 18, 19, 20, 21, 22, 23, 24, 25, 26, 27, 28, 29, 30, 31, 32] (fun k => [(14, some (.int .i64 (k : Nat))), (5, some (.int .i64 (sumTo (cheat h (takenL h t c.pump) i) k)))]) (fun k => []) (fun k => k ≤ h.coolers.length) (fun k => h.coolers.length - k) (0) [] rfl (by omega) (.c rfl (.c rfl (.base 0 rfl rfl))) ?_
  rintro k hkk ih0
  dsimp only [lcA, lnA] at ih0 ⊢
  refine XK.seq (XK.region rfl ?_)
  refine XO.q (Q.lss rfl rfl) ?_
  refine XO.done (XK.seq ?_)
  refine XK.if rfl (fun c0 => ?_) (fun c0 => ?_)
  · skip
    have hcs := csum_abs ok tk ck.pump.1 ck.pump.2 (i := i) (n := k) (by omega)
    have hct := taken_rng ok tk ck.pump.1 ck.pump.2 (k := k) (by omega)
    rw [← taken_getD ok tk (by omega)] at hct
    change 0 ≤ (takenL h t c.pump).getD k default ∧ (takenL h t c.pump).getD k default ≤ _ at hct
    refine XK.skip (XK.seq (XK.block (XK.seq (XK.region rfl (XO.q (Q.move rfl) ?_)))))
    refine XO.ix rfl rfl (by omega) (by omega) fun i17 => ?_
    refine XO.q (Q.ldEA [_, _, _, _, _] rfl (by first | assumption | omega) rfl rfl) ?_
    refine XO.alloc fun b7 => ?_
    refine XO.q (Q.assign rfl) ?_
    refine XO.st rfl rfl rfl ?_
    refine XO.done (XK.seq (XK.region rfl ?_))
    refine XO.q (Q.fieldAddr rfl) ?_
    refine XO.q (Q.ld rfl rfl) ?_
    refine XO.q (Q.move rfl) ?_
    refine XO.q (Q.eql rfl rfl) ?_
    refine XO.done ?_
    refine XK.if rfl (fun c1 => ?_) (fun c1 => ?_)
    · skip
      refine XK.region rfl (XO.q (Q.move rfl) (XO.q (Q.move rfl) ?_))
      refine XO.q (Q.nilCheck rfl) ?_
      refine XO.q (Q.fieldAddr rfl) ?_
      refine XO.q (Q.ld rfl rfl) ?_
      refine XO.q (Q.move rfl) ?_
      refine XO.ix rfl rfl (by omega) (by omega) fun i29 => ?_
      refine XO.q (Q.ldE rfl (by first | assumption | omega) rfl) ?_
      refine XO.q (Q.sub rfl rfl ⟨by omega, by omega⟩) ?_
      refine XO.q (Q.assign rfl) (XO.done ?_)
      refine XK.inBlock ?_
      refine XK.region rfl ?_
      refine XO.q (Q.add rfl rfl ⟨by omega, by omega⟩) ?_
      refine XO.q (Q.move rfl) (XO.done ?_)
      rw [show sumTo (cheat h (takenL h t c.pump) i) k - (takenL h t c.pump).getD k default = sumTo (cheat h (takenL h t c.pump) i) (k + 1) by rw [sumTo, cheat, if_pos c1]; exact Int.sub_eq_add_neg ..]
      exact ih0 (k + 1) _ _ (by omega) (by first | omega | (dsimp only; omega)) (.c rfl (.c rfl (.base 46 rfl rfl))) inferInstance
    · skip
      refine XK.skip ?_
      refine XK.inBlock ?_
      refine XK.region rfl ?_
      refine XO.q (Q.add rfl rfl ⟨by omega, by omega⟩) ?_
      refine XO.q (Q.move rfl) (XO.done ?_)
      rw [show sumTo (cheat h (takenL h t c.pump) i) k = sumTo (cheat h (takenL h t c.pump) i) (k + 1) by rw [sumTo, cheat, if_neg c1, Int.add_zero]]
      exact ih0 (k + 1) _ _ (by omega) (by first | omega | (dsimp only; omega)) (.c rfl (.c rfl (.base 36 rfl rfl))) inferInstance
  · skip
    refine XK.exit rfl ?_
    refine XK.seq (XK.region rfl (XO.q (Q.move rfl) (XO.q (Q.assign rfl) (XO.done ?_))))
    refine XK.rt [] Try.func81 Try.results81 (.t rfl .n) ?_
    have hkn : k = h.coolers.length := by omega
    rw [hkn]
    exact ⟨rfl, rfl⟩
theorem list_get {α : Type} [Inhabited α] {l : List α} {j : Nat} (hj : j < l.length) : l[((j : Nat) : Int).toNat]? = some (l.getD j default) := by
  rw [Int.toNat_natCast, List.getElem?_eq_getElem hj, List.getD_eq_getElem?_getD, List.getElem?_eq_getElem hj]; rfl
theorem carr_spec (h : Hall) (ok : HOk h) (b : Nat) (vr vw vb vc vl vt vk : Value) (c : HCase) (hw hc hl ht hk : PHeap) [iw : Arr vw encWall 3 hw h.walls] [ic : Arr vc encCooler 5 hc h.coolers] [il : Arr vl encI 1 hl c.load] (t : List Int) [it : Arr vt encI 1 ht t] (tk : TOk h t) (ck : COk h c)
    [ik : Arr vk encI 1 hk (takenL h t c.pump)] (i : Nat) (hi : i < h.rooms.length) (j : Nat) (hj : j < 3) :
    VSpec Try.prog (([.func (.func 79) #[ptr b 0] #[], .func (.func 80) #[ptr b 0] #[], .func (.func 81) #[ptr b 0] #[]] : List Value).getD j default) [.int .i64 (i : Nat)] [] [blk b [vr, vw, vb, vc, vl, .int .i64 c.out, .int .i64 c.pump, vt, vk] 109, hw, hc, hl, ht, hk] (fun v hs => v = .int .i64 (([c.load.getD i 0, sumTo (wheat h t c.out i) h.walls.length, sumTo (cheat h (takenL h t c.pump) i) h.coolers.length] : List Int).getD j default) ∧ hs = []) := by
  match j, hj with
  | 0, _ => exact VSpec.fn (fst := [ptr b 0]) (cap := []) (vs := [.int .i64 (i : Nat)]) Try.call79 rfl ((load_spec b vr vw vb vc vl vt vk c hl i (by have := ck.len; omega)).wide (fun x hx => by simp at hx; rcases hx with rfl | rfl <;> simp))
  | 1, _ => exact VSpec.fn (fst := [ptr b 0]) (cap := []) (vs := [.int .i64 (i : Nat)]) Try.call80 rfl ((walls_spec h ok b vr vw vb vc vl vt vk c hw ht t tk ck i hi).wide (fun x hx => by simp at hx; rcases hx with rfl | rfl | rfl <;> simp))
  | 2, _ => exact VSpec.fn (fst := [ptr b 0]) (cap := []) (vs := [.int .i64 (i : Nat)]) Try.call81 rfl ((coolers_spec h ok b vr vw vb vc vl vt vk c hc hk t tk ck i).wide (fun x hx => by simp at hx; rcases hx with rfl | rfl | rfl <;> simp))
theorem three_bd7 {a b c lo hi : Int} (ha : lo ≤ a ∧ a ≤ hi) (hb : lo ≤ b ∧ b ≤ hi) (hc : lo ≤ c ∧ c ≤ hi) {k : Nat} (hk : k < 3) : lo ≤ [a, b, c].getD k default ∧ [a, b, c].getD k default ≤ hi := by
  match k, hk with
  | 0, _ => exact ha
  | 1, _ => exact hb
  | 2, _ => exact hc
theorem sum_three (x a b c : Int) : x + sumTo (fun j => [a, b, c].getD j default) 3 = x + a + b + c := by
  show x + (((0 + a) + b) + c) = _
  omega
theorem next_spec7 (h : Hall) (vr vw vb vc : Value) (hr hw hb hc : PHeap) [ir : Arr vr encRoom 2 hr h.rooms] [iw : Arr vw encWall 3 hw h.walls] [ib : Arr vb encBranch 3 hb h.branches] [ic : Arr vc encCooler 5 hc h.coolers] (ok : HOk h) (t : List Int) (vt : Value) (ht : PHeap) [it : Arr vt encI 1 ht t] (tk : TOk h t)
    (c : HCase) (ck : COk h c) (vl : Value) (hl : PHeap) [il : Arr vl encI 1 hl c.load] : Spec Try.prog 43 #[.agg #[vr, vw, vb, vc], vt, .agg #[vl, .int .i64 c.out, .int .i64 c.pump]] [] [hr, hw, hb, hc, ht, hl] (fun v hs => ∃ k, hs = [k] ∧ OArr v encI 1 3 k (nextL h t c)) := by
  have hnil : OArr (.slice none 0 0) encI 1 3 emp ([] : List Int) := OArr.nil (fun _ => rfl)
  have hr2 := ok.r2
  have htl := tk.len
  refine Spec.intro (fn := Try.f43) (N := 61) Try.func43 rfl Try.ntmps43 rfl fun B => ?_
  refine XK.seq (XK.region rfl ?_)
  refine XO.box rfl fun b3 => ?_
  refine XO.box rfl fun b5 => ?_
  refine XO.q (Q.assign rfl) (XO.done (XK.seq (XK.region rfl ?_)))
  refine XO.q (Q.ldA [_, _, _, _] rfl rfl rfl) ?_
  refine XO.q (Q.move rfl) ?_
  refine XO.q (Q.ldA [_, _, _] rfl rfl rfl) ?_
  refine XO.call Try.call44 rfl rfl rfl (at_spec h vr vw vb vc hb hc ok t vt ht tk c ck vl) fun v18 s18 R18 => ?_
  obtain ⟨b19, vk, hk, rfl, rfl, OK⟩ := R18
  dsimp only [lcA, lnA]
  refine XO.q (Q.assign rfl) (XO.done (XK.seq (XK.region rfl (XO.q (Q.move rfl) ?_))))
  refine XO.q (Q.func (fun _ he => evs_rel he rfl) (fun _ he => rfl)) ?_
  refine XO.q (Q.move rfl) ?_
  refine XO.q (Q.func (fun _ he => evs_rel he rfl) (fun _ he => rfl)) ?_
  refine XO.q (Q.move rfl) ?_
  refine XO.q (Q.func (fun _ he => evs_rel he rfl) (fun _ he => rfl)) ?_
  refine XO.q (Q.build [_, _, _] (.c 0 1 rfl rfl rfl (.c 1 1 rfl rfl rfl (.c 2 1 rfl rfl rfl (.n _))))) ?_
  refine XO.alloc fun b8 => ?_
  refine XO.st rfl rfl rfl ?_
  refine XO.done (XK.seq (XK.region rfl (XO.q (Q.assign rfl) (XO.done (XK.seq ?_)))))
  refine XK.seq (XK.region rfl ?_)
  refine XO.q (Q.fieldAddr rfl) ?_
  refine XO.q (Q.ld rfl rfl) ?_
  refine XO.len rfl fun l28 => ?_
  refine XO.q (Q.move rfl) (XO.done (XK.block ?_))
  refine XK.while (X := Nat × Value × PHeap) [9, 10, 11, 12, 14, 29, 30, 31, 32, 33, 34, 35, 36, 37, 38, 39, 40, 41, 42, 43, 44, 45, 46, 47, 48, 49, 50, 51, 52, 53, 54, 55, 56, 57, 58, 59] (fun ⟨i, vO, hO⟩ => [(29, some (.int .i64 (i : Nat))), (9, some (vO))]) (fun ⟨i, vO, hO⟩ => [hO]) (fun ⟨i, vO, hO⟩ => i ≤ h.rooms.length ∧ OArr vO encI 1 3 hO ((List.range i).map (nextAt h t c))) (fun ⟨i, vO, hO⟩ => h.rooms.length - i) (0, .slice none 0 0, emp) [emp] rfl ⟨by omega, by simpa using hnil⟩ (.c rfl (.c rfl (.base 0 rfl rfl))) ?_
  rintro ⟨i, vO, hO⟩ ⟨hi, OO⟩ ih0
  dsimp only [lcA, lnA] at ih0 ⊢
  refine XK.seq (XK.region rfl ?_)
  refine XO.q (Q.lss rfl rfl) ?_
  refine XO.done (XK.seq ?_)
  refine XK.if rfl (fun c0 => ?_) (fun c0 => ?_)
  · skip
    have hrm := ok.room i (by omega)
    have hI := tk.rng i (by omega)
    change 0 ≤ t.getD i default ∧ t.getD i default ≤ 1000000 at hI
    have hm := mul_abs (p := (h.rooms.getD i default).store) (d := t.getD i default) (P := 1000000) (D := 1000000) (by omega) hrm.2.1 (by omega) hI.2 (by omega)
    have hl1 := ck.rng i (by have := ck.len; omega)
    have hw1 := wsum_abs ok tk ck.out (i := i) (n := h.walls.length) (by omega) (Nat.le_refl _)
    have hc1 := csum_abs ok tk ck.pump.1 ck.pump.2 (i := i) (n := h.coolers.length) (Nat.le_refl _)
    have hnn := heat_nonneg ok tk ck (i := i) (by omega)
    have hnu : heatOf h t c i ≤ 10000000000000 := by unfold heatOf; change (h.rooms.getD i default).store * t.getD i default + _ + _ + _ ≤ _; omega
    refine XK.skip (XK.seq (XK.block (XK.seq (XK.region rfl (XO.q (Q.move rfl) ?_)))))
    refine XO.ix rfl rfl (by omega) (by omega) fun i32 => ?_
    refine XO.q (Q.ldEA [_, _] rfl (by first | assumption | omega) rfl rfl) ?_
    refine XO.alloc fun b11 => ?_
    refine XO.q (Q.assign rfl) ?_
    refine XO.st rfl rfl rfl ?_
    refine XO.done (XK.seq ?_)
    refine XK.drawn [0, 1, 2, 3, 4, 5, 6, 7] [b11] [] (.q 0 (.q 1 (.q 2 (.q 3 (.q 4 (.q 5 (.q 6 (.q 7 .done)))))))) Try.mixed rfl (by kernel_rfl) ?_
    refine XT.q rfl rfl (Q.fieldAddr rfl) ?_
    refine XT.q rfl rfl (Q.ld rfl rfl) ?_
    refine XT.q rfl rfl (Q.move rfl) ?_
    refine XT.q rfl rfl (Q.move rfl) ?_
    refine XT.ix rfl rfl rfl rfl (by omega) (by omega) fun i38 => ?_
    refine XT.q rfl rfl (Q.ldE rfl (by first | assumption | omega) rfl) ?_
    refine XT.q rfl rfl (Q.mul rfl rfl ⟨by omega, by omega⟩) ?_
    refine XT.q rfl rfl (Q.assign rfl) ?_
    refine XT.done ?_
    refine XK.seq (XK.seq (XK.region rfl ?_))
    rw [show (h.rooms.getD i default).store * t.getD i default = (h.rooms.getD i default).store * t.getD i default + sumTo (fun j => ([c.load.getD i 0, sumTo (wheat h t c.out i) h.walls.length, sumTo (cheat h (takenL h t c.pump) i) h.coolers.length] : List Int).getD j default) 0 by rw [sumTo, Int.add_zero]]
    refine XO.q (Q.ldA [_, _, _] rfl rfl rfl) ?_
    refine XO.q (Q.move rfl) (XO.done (XK.block ?_))
    refine XK.while (X := Nat) [12, 14, 42, 43, 44, 45, 46, 47, 48, 49, 50] (fun j => [(42, some (.int .i64 (j : Nat))), (12, some (.int .i64 ((h.rooms.getD i default).store * t.getD i default + sumTo (fun j => ([c.load.getD i 0, sumTo (wheat h t c.out i) h.walls.length, sumTo (cheat h (takenL h t c.pump) i) h.coolers.length] : List Int).getD j default) j)))]) (fun j => []) (fun j => j ≤ 3) (fun j => 3 - j) (0) [] rfl (by omega) (.c rfl (.c rfl (.base 0 rfl rfl))) ?_
    rintro j hj ih1
    dsimp only [lcA, lnA] at ih1 ⊢
    refine XK.seq (XK.region rfl ?_)
    refine XO.q (Q.lss rfl rfl) ?_
    refine XO.done (XK.seq ?_)
    refine XK.if rfl (fun c1 => ?_) (fun c1 => ?_)
    · skip
      have hpj : -1600000000000 ≤ ([c.load.getD i 0, sumTo (wheat h t c.out i) h.walls.length, sumTo (cheat h (takenL h t c.pump) i) h.coolers.length] : List Int).getD j default ∧ ([c.load.getD i 0, sumTo (wheat h t c.out i) h.walls.length, sumTo (cheat h (takenL h t c.pump) i) h.coolers.length] : List Int).getD j default ≤ 1600000000000 := three_bd7 (by omega) hw1 hc1 (by omega)
      have hsj := sum_abs (f := (fun j => ([c.load.getD i 0, sumTo (wheat h t c.out i) h.walls.length, sumTo (cheat h (takenL h t c.pump) i) h.coolers.length] : List Int).getD j default)) (n := j) (M := 1600000000000) fun k hk => three_bd7 (by omega) hw1 hc1 (by omega)
      refine XK.skip (XK.seq (XK.block (XK.seq (XK.region rfl ?_))))
      refine XO.q (Q.index1 (v := ([.func (.func 79) #[ptr b19 0] #[], .func (.func 80) #[ptr b19 0] #[], .func (.func 81) #[ptr b19 0] #[]] : List Value).getD j default) rfl rfl (by omega) (by omega) (list_get (by show j < 3; omega))) ?_
      refine XO.q (Q.assign rfl) (XO.done (XK.region rfl (XO.q (Q.move rfl) (XO.q (Q.move rfl) (XO.q (Q.move rfl) ?_)))))
      refine XO.vcall rfl rfl (carr_spec h ok b19 vr vw vb vc vl vt vk c hw hc hl ht hk t tk ck i (by omega) j (by omega)) fun v48 s48 R48 => ?_
      obtain ⟨rfl, rfl⟩ := R48
      dsimp only [lcA, lnA]
      refine XO.q (Q.add rfl rfl ⟨by omega, by omega⟩) ?_
      refine XO.q (Q.assign rfl) (XO.done ?_)
      refine XK.inBlock ?_
      refine XK.region rfl ?_
      refine XO.q (Q.add rfl rfl ⟨by omega, by omega⟩) ?_
      refine XO.q (Q.move rfl) (XO.done ?_)
      rw [show (h.rooms.getD i default).store * t.getD i default + sumTo (fun j => ([c.load.getD i 0, sumTo (wheat h t c.out i) h.walls.length, sumTo (cheat h (takenL h t c.pump) i) h.coolers.length] : List Int).getD j default) j + ([c.load.getD i 0, sumTo (wheat h t c.out i) h.walls.length, sumTo (cheat h (takenL h t c.pump) i) h.coolers.length] : List Int).getD j default = (h.rooms.getD i default).store * t.getD i default + sumTo (fun j => ([c.load.getD i 0, sumTo (wheat h t c.out i) h.walls.length, sumTo (cheat h (takenL h t c.pump) i) h.coolers.length] : List Int).getD j default) (j + 1) by rw [sumTo, Int.add_assoc]]
      exact ih1 (j + 1) _ _ (by omega) (by first | omega | (dsimp only; omega)) (.c rfl (.c rfl (.base 24 rfl rfl))) inferInstance
    · skip
      have hj3 : j = 3 := by omega
      rw [hj3]
      rw [show (h.rooms.getD i default).store * t.getD i default + sumTo (fun j => ([c.load.getD i 0, sumTo (wheat h t c.out i) h.walls.length, sumTo (cheat h (takenL h t c.pump) i) h.coolers.length] : List Int).getD j default) 3 = heatOf h t c i by rw [heatOf]; exact sum_three ..]
      refine XK.exit rfl ?_
      refine XK.region rfl (XO.q (Q.move rfl) (XO.q (Q.move rfl) ?_))
      refine XO.q (Q.fieldAddr rfl) ?_
      refine XO.q (Q.ld rfl rfl) ?_
      refine XO.q (Q.quo rfl rfl (by omega) (by omega) (by omega)) ?_
      refine XO.q (Q.min rfl rfl) ?_
      refine XO.lit [_] [_] [_] encI (by rfl) (by rfl) rfl (by rfl) (by exact .c 0 1 rfl rfl rfl (.n _)) (fun _ => rfl) (by rfl) rfl (by infer_instance) rfl fun v57 h57 O57 => ?_
      refine XO.append rfl rfl rfl rfl (by simp only [List.length_map, List.length_range, List.length_cons, List.length_nil]; omega) fun v58 h58 O58 => ?_
      refine XO.q (Q.assign rfl) (XO.done ?_)
      refine XK.inBlock ?_
      refine XK.region rfl ?_
      refine XO.q (Q.add rfl rfl ⟨by omega, by omega⟩) ?_
      refine XO.q (Q.move rfl) (XO.done ?_)
      exact ih0 (i + 1, v58, h58) _ _ ⟨by dsimp only; omega, by dsimp only; rw [show (List.range (i + 1)).map (nextAt h t c) = (List.range i).map (nextAt h t c) ++ [nextAt h t c i] by rw [List.range_succ, List.map_append]; rfl]; exact O58⟩ (by first | omega | (dsimp only; omega)) (.c rfl (.c rfl (.base 79 rfl rfl))) inferInstance
  · skip
    refine XK.exit rfl ?_
    refine XK.seq (XK.region rfl (XO.q (Q.move rfl) (XO.q (Q.assign rfl) (XO.done ?_))))
    refine XK.rt [hO] Try.func43 Try.results43 (.t rfl .n) ?_
    have hin : i = h.rooms.length := by omega
    rw [hin] at OO
    exact ⟨hO, rfl, OO⟩
end Go.X

set_option linter.unusedSimpArgs false
set_option linter.unusedVariables false
set_option maxRecDepth 20000
namespace Go.X
open Go.Proofs
theorem cloneI (v : Value) (h : PHeap) (xs : List Int) [s : Arr v encI 1 h xs] (hl : xs.length ≤ 68719476736) :
    Spec Try.prog 23 #[v] [] [h] (fun v' hs => ∃ h', hs = [h'] ∧ OArr v' encI 1 3 h' xs) := by
  refine Spec.intro (fn := Try.f23) (N := 8) Try.func23 rfl Try.ntmps23 rfl fun B => ?_
  refine XK.seq (XK.region rfl (XO.q (Q.assign rfl) (XO.done (XK.seq (XK.seq ?_)))))
  refine XK.region rfl (XO.q (Q.move rfl) ?_)
  refine XO.eqNil rfl fun z4 hz4 => ?_
  refine XO.done ?_
  refine XK.if rfl (fun c0 => ?_) (fun c0 => ?_)
  · skip
    refine XK.seq (XK.region rfl (XO.q (Q.assign rfl) (XO.done ?_)))
    refine XK.rt [emp] Try.func23 Try.results23 (.t rfl .n) ?_
    exact ⟨emp, rfl, by rw [(hz4 c0).1]; exact OArr.nil (fun _ => rfl)⟩
  · skip
    refine XK.skip (XK.seq (XK.region rfl ?_))
    refine XO.lit [] [] [] encI (by rfl) (by rfl) rfl (by rfl) (by exact .n _) (fun _ => rfl) (by rfl) rfl (by infer_instance) rfl fun v5 h5 O5 => ?_
    refine XO.q (Q.move rfl) ?_
    refine XO.append rfl rfl rfl rfl (by first | omega | (simp; omega)) fun v7 h7 O7 => ?_
    refine XO.q (Q.assign rfl) (XO.done ?_)
    refine XK.rt [h7] Try.func23 Try.results23 (.t rfl .n) ?_
    exact ⟨h7, rfl, O7⟩
theorem equalI (v1 v2 : Value) (h1 h2 : PHeap) (xs ys : List Int) [s1 : Arr v1 encI 1 h1 xs] [s2 : Arr v2 encI 1 h2 ys] :
    Spec Try.prog 39 #[v1, v2] [] [h1, h2] (fun v hs => v = .bool (decide (xs = ys)) ∧ hs = []) := by
  refine Spec.intro (fn := Try.f39) (N := 26) Try.func39 rfl Try.ntmps39 rfl fun B => ?_
  refine XK.seq (XK.region rfl (XO.q (Q.assign rfl) (XO.done (XK.seq (XK.seq ?_)))))
  refine XK.region rfl (XO.q (Q.move rfl) ?_)
  refine XO.len rfl fun l7 => ?_
  refine XO.q (Q.move rfl) ?_
  refine XO.len rfl fun l9 => ?_
  refine XO.q (Q.neq rfl rfl) ?_
  refine XO.done ?_
  refine XK.if rfl (fun c0 => ?_) (fun c0 => ?_)
  · skip
    refine XK.seq (XK.region rfl (XO.q (Q.assign rfl) (XO.done ?_)))
    refine XK.rt [] Try.func39 Try.results39 (.t rfl .n) ?_
    exact ⟨by rw [decide_eq_false (fun h => c0 (by rw [h]))], rfl⟩
  · skip
    refine XK.skip (XK.seq (XK.seq (XK.region rfl (XO.q (Q.move rfl) ?_))))
    refine XO.len rfl fun l12 => ?_
    refine XO.q (Q.move rfl) (XO.done (XK.block ?_))
    refine XK.while (X := Nat) [4, 5, 13, 14, 15, 16, 17, 18, 19, 20, 21, 22, 23, 24, 25] (fun i => [(13, some (.int .i64 (i : Nat)))]) (fun i => []) (fun i => i ≤ xs.length ∧ xs.take i = ys.take i) (fun i => xs.length - i) (0) [] rfl ⟨by omega, rfl⟩ (.c rfl (.base 0 rfl rfl)) ?_
    rintro i ⟨hi, ht⟩ ih0
    dsimp only [lcA, lnA] at ih0 ⊢
    refine XK.seq (XK.region rfl ?_)
    refine XO.q (Q.lss rfl rfl) ?_
    refine XO.done (XK.seq ?_)
    refine XK.if rfl (fun c1 => ?_) (fun c1 => ?_)
    · skip
      refine XK.skip (XK.seq (XK.block (XK.seq (XK.region rfl (XO.q (Q.move rfl) ?_)))))
      refine XO.q (Q.assign rfl) (XO.done (XK.seq ?_))
      refine XK.drawn [0, 1, 2, 3, 4, 5, 6, 7, 8] [] [] (.q 0 (.q 1 (.q 2 (.q 3 (.q 4 (.q 5 (.q 6 (.q 7 (.q 8 .done))))))))) Try.mixed rfl (by kernel_rfl) ?_
      refine XT.q rfl rfl (Q.move rfl) ?_
      refine XT.q rfl rfl (Q.move rfl) ?_
      refine XT.ix rfl rfl rfl rfl (by omega) (by omega) fun i18 => ?_
      refine XT.q rfl rfl (Q.ldE rfl (by first | assumption | omega) rfl) ?_
      refine XT.q rfl rfl (Q.move rfl) ?_
      refine XT.q rfl rfl (Q.move rfl) ?_
      refine XT.ix rfl rfl rfl rfl (by omega) (by omega) fun i22 => ?_
      refine XT.q rfl rfl (Q.ldE rfl (by first | assumption | omega) rfl) ?_
      refine XT.q rfl rfl (Q.neq rfl rfl) ?_
      refine XT.done ?_
      refine XK.if rfl (fun c2 => ?_) (fun c2 => ?_)
      · skip
        refine XK.seq (XK.region rfl (XO.q (Q.assign rfl) (XO.done ?_)))
        refine XK.rt [] Try.func39 Try.results39 (.t rfl .n) ?_
        exact ⟨by rw [decide_eq_false (fun h => c2 (by rw [h]))], rfl⟩
      · skip
        refine XK.skip ?_
        refine XK.inBlock ?_
        refine XK.region rfl ?_
        refine XO.q (Q.add rfl rfl ⟨by omega, by omega⟩) ?_
        refine XO.q (Q.move rfl) (XO.done ?_)
        exact ih0 (i + 1) _ _ ⟨by omega, take_step ht (by omega) (by omega) (Decidable.of_not_not c2)⟩ (by first | omega | (dsimp only; omega)) (.c rfl (.base 30 rfl rfl)) inferInstance
    · skip
      refine XK.exit rfl ?_
      refine XK.seq (XK.region rfl (XO.q (Q.assign rfl) (XO.done ?_)))
      refine XK.rt [] Try.func39 Try.results39 (.t rfl .n) ?_
      exact ⟨by rw [decide_eq_true (take_all ht c1 (by omega))], rfl⟩
theorem indexFuncI (v : Value) (h : PHeap) (xs : List Int) [s : Arr v encI 1 h xs] (gid : FuncId) (cap : List Value) (Hr : List PHeap) (p : Int → Bool)
    (hc : ∀ args w, (callFunc gid args).run Try.prog w = .ok (.enter gid args) w) (hS : ∀ x ∈ xs, Spec Try.prog gid (.int .i64 x :: cap).toArray [] Hr (fun v hs => v = .bool (p x) ∧ hs = [])) :
    Spec Try.prog 105 #[v, .func (.func gid) #[] cap.toArray] [] (h :: Hr) (fun v hs => v = .int .i64 (findFirst p xs) ∧ hs = []) := by
  refine Spec.intro (fn := Try.f105) (N := 19) Try.func105 rfl Try.ntmps105 rfl fun B => ?_
  refine XK.seq (XK.region rfl (XO.q (Q.assign rfl) (XO.done (XK.seq (XK.seq ?_)))))
  refine XK.region rfl (XO.q (Q.move rfl) ?_)
  refine XO.len rfl fun l7 => ?_
  refine XO.q (Q.move rfl) (XO.done (XK.block ?_))
  refine XK.while (X := Nat) [4, 5, 8, 9, 10, 11, 12, 13, 14, 15, 16, 17, 18] (fun i => [(8, some (.int .i64 (i : Nat)))]) (fun i => []) (fun i => i ≤ xs.length ∧ (xs.take i).any p = false) (fun i => xs.length - i) (0) [] rfl ⟨by omega, rfl⟩ (.c rfl (.base 0 rfl rfl)) ?_
  rintro i ⟨hi, ht⟩ ih0
  dsimp only [lcA, lnA] at ih0 ⊢
  refine XK.seq (XK.region rfl ?_)
  refine XO.q (Q.lss rfl rfl) ?_
  refine XO.done (XK.seq ?_)
  refine XK.if rfl (fun c0 => ?_) (fun c0 => ?_)
  · skip
    refine XK.skip (XK.seq (XK.block (XK.seq (XK.region rfl (XO.q (Q.move rfl) ?_)))))
    refine XO.q (Q.assign rfl) (XO.done (XK.seq (XK.region rfl (XO.q (Q.move rfl) (XO.q (Q.move rfl) ?_)))))
    refine XO.q (Q.move rfl) ?_
    refine XO.ix rfl rfl (by omega) (by omega) fun i14 => ?_
    refine XO.q (Q.ldE rfl (by first | assumption | omega) rfl) ?_
    refine XO.call hc rfl rfl rfl (hS _ (getD_mem (by omega))) fun v16 s16 R16 => ?_
    obtain ⟨rfl, rfl⟩ := R16
    dsimp only [lcA, lnA]
    refine XO.done ?_
    refine XK.if rfl (fun c1 => ?_) (fun c1 => ?_)
    · skip
      refine XK.seq (XK.region rfl (XO.q (Q.move rfl) (XO.q (Q.assign rfl) (XO.done ?_))))
      refine XK.rt [] Try.func105 Try.results105 (.t rfl .n) ?_
      exact ⟨by rw [findFirst_here ht (by omega) c1], rfl⟩
    · skip
      refine XK.skip ?_
      refine XK.inBlock ?_
      refine XK.region rfl ?_
      refine XO.q (Q.add rfl rfl ⟨by omega, by omega⟩) ?_
      refine XO.q (Q.move rfl) (XO.done ?_)
      exact ih0 (i + 1) _ _ ⟨by omega, any_step ht (by omega) (Bool.eq_false_iff.2 c1)⟩ (by first | omega | (dsimp only; omega)) (.c rfl (.base 25 rfl rfl)) inferInstance
  · skip
    refine XK.exit rfl ?_
    refine XK.seq (XK.region rfl (XO.q (Q.assign rfl) (XO.done ?_)))
    refine XK.rt [] Try.func105 Try.results105 (.t rfl .n) ?_
    exact ⟨by rw [findFirst_none ht c0], rfl⟩
theorem containsFuncI (v : Value) (h : PHeap) (xs : List Int) [s : Arr v encI 1 h xs] (gid : FuncId) (cap : List Value) (Hr : List PHeap) (p : Int → Bool)
    (hc : ∀ args w, (callFunc gid args).run Try.prog w = .ok (.enter gid args) w) (hS : ∀ x ∈ xs, Spec Try.prog gid (.int .i64 x :: cap).toArray [] Hr (fun v hs => v = .bool (p x) ∧ hs = [])) :
    Spec Try.prog 76 #[v, .func (.func gid) #[] cap.toArray] [] (h :: Hr) (fun v hs => v = .bool (xs.any p) ∧ hs = []) := by
  refine Spec.intro (fn := Try.f76) (N := 9) Try.func76 rfl Try.ntmps76 rfl fun B => ?_
  refine XK.seq (XK.region rfl (XO.q (Q.assign rfl) (XO.done (XK.seq (XK.region rfl ?_)))))
  refine XO.q (Q.move rfl) (XO.q (Q.move rfl) ?_)
  refine XO.call Try.call105 rfl rfl rfl (indexFuncI v h xs gid cap Hr p hc hS) fun v7 s7 R7 => ?_
  obtain ⟨rfl, rfl⟩ := R7
  dsimp only [lcA, lnA]
  refine XO.q (Q.geq rfl rfl) ?_
  refine XO.q (Q.assign rfl) (XO.done ?_)
  refine XK.rt [] Try.func76 Try.results76 (.t rfl .n) ?_
  exact ⟨by rw [← findFirst_any], rfl⟩
theorem warm1 (x : Int) : Spec Try.prog 77 #[.int .i64 x] [] [] (fun v hs => v = .bool (!inP x 1000000) ∧ hs = []) := by
  refine Spec.intro (fn := Try.f77) (N := 6) Try.func77 rfl Try.ntmps77 rfl fun B => ?_
  refine XK.seq (XK.region rfl (XO.q (Q.assign rfl) (XO.done (XK.seq (XK.region rfl ?_)))))
  refine XO.q (Q.move rfl) ?_
  refine XO.call Try.call37 rfl rfl rfl (in_spec _ _) fun v4 s4 R4 => ?_
  obtain ⟨rfl, rfl⟩ := R4
  dsimp only [lcA, lnA]
  refine XO.q (Q.not rfl) ?_
  refine XO.q (Q.assign rfl) (XO.done ?_)
  refine XK.rt [] Try.func77 Try.results77 (.t rfl .n) ?_
  exact ⟨rfl, rfl⟩
theorem cased1 (x : Int) : Spec Try.prog 78 #[.int .i64 x] [] [] (fun v hs => v = .bool (!inP x 10000000) ∧ hs = []) := by
  refine Spec.intro (fn := Try.f78) (N := 6) Try.func78 rfl Try.ntmps78 rfl fun B => ?_
  refine XK.seq (XK.region rfl (XO.q (Q.assign rfl) (XO.done (XK.seq (XK.region rfl ?_)))))
  refine XO.q (Q.move rfl) ?_
  refine XO.call Try.call37 rfl rfl rfl (in_spec _ _) fun v4 s4 R4 => ?_
  obtain ⟨rfl, rfl⟩ := R4
  dsimp only [lcA, lnA]
  refine XO.q (Q.not rfl) ?_
  refine XO.q (Q.assign rfl) (XO.done ?_)
  refine XK.rt [] Try.func78 Try.results78 (.t rfl .n) ?_
  exact ⟨rfl, rfl⟩
theorem warm_spec (h : Hall) (vr vw vb vc : Value) (hr : PHeap) [ir : Arr vr encRoom 2 hr h.rooms] [iw : One vw] [ib : One vb] [ic : One vc] (vt : Value) (ht : PHeap) (t : List Int) [it : Arr vt encI 1 ht t] : Spec Try.prog 41 #[.agg #[vr, vw, vb, vc], vt] [] [hr, ht]
    (fun v hs => v = .int .i64 (warmP h t) ∧ hs = []) := by
  refine Spec.intro (fn := Try.f41) (N := 13) Try.func41 rfl Try.ntmps41 rfl fun B => ?_
  refine XK.seq (XK.region rfl ?_)
  refine XO.box rfl fun b2 => ?_
  refine XO.q (Q.assign rfl) (XO.done (XK.seq (XK.seq (XK.region rfl (XO.q (Q.move rfl) ?_)))))
  refine XO.len rfl fun l6 => ?_
  refine XO.q (Q.fieldAddr rfl) ?_
  refine XO.q (Q.ld rfl rfl) ?_
  refine XO.len rfl fun l9 => ?_
  refine XO.q (Q.neq rfl rfl) ?_
  refine XO.done ?_
  refine XK.if rfl (fun c0 => ?_) (fun c0 => ?_)
  · skip
    refine XK.seq (XK.region rfl (XO.q (Q.assign rfl) (XO.done ?_)))
    refine XK.rt [] Try.func41 Try.results41 (.t rfl .n) ?_
    exact ⟨by rw [warmP, if_pos c0], rfl⟩
  · skip
    refine XK.skip (XK.seq (XK.seq (XK.region rfl (XO.q (Q.move rfl) ?_))))
    refine XO.call Try.call76 rfl rfl rfl (containsFuncI vt ht t 77 [] [] _ Try.call77 (fun x hx => warm1 x)) fun v12 s12 R12 => ?_
    obtain ⟨rfl, rfl⟩ := R12
    dsimp only [lcA, lnA]
    refine XO.done ?_
    refine XK.if rfl (fun c1 => ?_) (fun c1 => ?_)
    · skip
      refine XK.seq (XK.region rfl (XO.q (Q.assign rfl) (XO.done ?_)))
      refine XK.rt [] Try.func41 Try.results41 (.t rfl .n) ?_
      exact ⟨by rw [warmP, if_neg c0, if_pos c1], rfl⟩
    · skip
      refine XK.skip (XK.seq (XK.region rfl (XO.q (Q.assign rfl) (XO.done ?_))))
      refine XK.rt [] Try.func41 Try.results41 (.t rfl .n) ?_
      exact ⟨by rw [warmP, if_neg c0, if_neg c1], rfl⟩
theorem cased_spec (h : Hall) (vr vw vb vc : Value) (hr : PHeap) [ir : Arr vr encRoom 2 hr h.rooms] [iw : One vw] [ib : One vb] [ic : One vc] (vl : Value) (hl : PHeap) (c : HCase) [il : Arr vl encI 1 hl c.load] : Spec Try.prog 42 #[.agg #[vr, vw, vb, vc], .agg #[vl, .int .i64 c.out, .int .i64 c.pump]] [] [hr, hl]
    (fun v hs => v = .int .i64 (casedP h c) ∧ hs = []) := by
  refine Spec.intro (fn := Try.f42) (N := 27) Try.func42 rfl Try.ntmps42 rfl fun B => ?_
  refine XK.seq (XK.region rfl ?_)
  refine XO.box rfl fun b2 => ?_
  refine XO.box rfl fun b3 => ?_
  refine XO.q (Q.assign rfl) (XO.done (XK.seq (XK.seq (XK.region rfl ?_))))
  refine XO.q (Q.fieldAddr rfl) ?_
  refine XO.q (Q.ld rfl rfl) ?_
  refine XO.len rfl fun l7 => ?_
  refine XO.q (Q.fieldAddr rfl) ?_
  refine XO.q (Q.ld rfl rfl) ?_
  refine XO.len rfl fun l10 => ?_
  refine XO.q (Q.neq rfl rfl) ?_
  refine XO.done ?_
  refine XK.if rfl (fun c0 => ?_) (fun c0 => ?_)
  · skip
    refine XK.seq (XK.region rfl (XO.q (Q.assign rfl) (XO.done ?_)))
    refine XK.rt [] Try.func42 Try.results42 (.t rfl .n) ?_
    exact ⟨by rw [casedP, if_pos c0], rfl⟩
  · skip
    refine XK.skip (XK.seq (XK.seq (XK.region rfl ?_)))
    refine XO.q (Q.fieldAddr rfl) ?_
    refine XO.q (Q.ld rfl rfl) ?_
    refine XO.call Try.call76 rfl rfl rfl (containsFuncI vl hl c.load 78 [] [] _ Try.call78 (fun x hx => cased1 x)) fun v14 s14 R14 => ?_
    obtain ⟨rfl, rfl⟩ := R14
    dsimp only [lcA, lnA]
    refine XO.q (Q.move rfl) ?_
    refine XO.q (Quiet.guardF rfl rfl fun g16 p16 => Q.fieldAddr rfl) ?_
    refine XO.q (Quiet.guardF rfl rfl fun g17 p17 => Q.ld (lzv g17 rfl) rfl) ?_
    refine XO.gcallF rfl rfl Try.call37 rfl (fun g18 => .c (lzv g18 rfl) (.c rfl .n)) rfl (fun g18 p18 => in_spec _ _) ?_
    refine XO.q (Quiet.guardF rfl rfl fun g19 p19 => Q.not (lzv g19 rfl)) ?_
    refine XO.q (Q.or rfl (fun hp => lzv hp rfl)) ?_
    refine XO.q (Q.move rfl) ?_
    refine XO.q (Quiet.guardF rfl rfl fun g22 p22 => Q.fieldAddr rfl) ?_
    refine XO.q (Quiet.guardF rfl rfl fun g23 p23 => Q.ld (lzv g23 rfl) rfl) ?_
    refine XO.gcallF rfl rfl Try.call37 rfl (fun g24 => .c (lzv g24 rfl) (.c rfl .n)) rfl (fun g24 p24 => in_spec _ _) ?_
    refine XO.q (Quiet.guardF rfl rfl fun g25 p25 => Q.not (lzv g25 rfl)) ?_
    refine XO.q (Q.or rfl (fun hp => lzv hp rfl)) ?_
    refine XO.done ?_
    refine XK.if rfl (fun c1 => ?_) (fun c1 => ?_)
    · skip
      refine XK.seq (XK.region rfl (XO.q (Q.assign rfl) (XO.done ?_)))
      refine XK.rt [] Try.func42 Try.results42 (.t rfl .n) ?_
      exact ⟨by rw [casedP, if_neg c0, if_pos c1], rfl⟩
    · skip
      refine XK.skip (XK.seq (XK.region rfl (XO.q (Q.assign rfl) (XO.done ?_))))
      refine XK.rt [] Try.func42 Try.results42 (.t rfl .n) ?_
      exact ⟨by rw [casedP, if_neg c0, if_neg c1], rfl⟩
theorem indexE (v : Value) (hh : PHeap) (xs : List Int) [s : Arr v encI 1 hh xs] (x : Int) : Spec Try.prog 104 #[v, .int .i64 x] [] [hh] (fun v hs => v = .int .i64 (findFirst (fun y => decide (x = y)) xs) ∧ hs = []) := by
  refine Spec.intro (fn := Try.f104) (N := 19) Try.func104 rfl Try.ntmps104 rfl fun B => ?_
  refine XK.seq (XK.region rfl (XO.q (Q.assign rfl) (XO.done (XK.seq (XK.seq ?_)))))
  refine XK.region rfl (XO.q (Q.move rfl) ?_)
  refine XO.len rfl fun l7 => ?_
  refine XO.q (Q.move rfl) (XO.done (XK.block ?_))
  refine XK.while (X := Nat) [4, 5, 8, 9, 10, 11, 12, 13, 14, 15, 16, 17, 18] (fun i => [(8, some (.int .i64 (i : Nat)))]) (fun i => []) (fun i => i ≤ xs.length ∧ (xs.take i).any (fun y => decide (x = y)) = false) (fun i => xs.length - i) (0) [] rfl ⟨by omega, rfl⟩ (.c rfl (.base 0 rfl rfl)) ?_
  rintro i ⟨hi, hany⟩ ih0
  dsimp only [lcA, lnA] at ih0 ⊢
  refine XK.seq (XK.region rfl ?_)
  refine XO.q (Q.lss rfl rfl) ?_
  refine XO.done (XK.seq ?_)
  refine XK.if rfl (fun c0 => ?_) (fun c0 => ?_)
  · skip
    refine XK.skip (XK.seq (XK.block (XK.seq (XK.region rfl (XO.q (Q.move rfl) ?_)))))
    refine XO.q (Q.assign rfl) (XO.done (XK.seq (XK.region rfl (XO.q (Q.move rfl) (XO.q (Q.move rfl) ?_)))))
    refine XO.q (Q.move rfl) ?_
    refine XO.ix rfl rfl (by omega) (by omega) fun i14 => ?_
    refine XO.q (Q.ldE rfl (by first | assumption | omega) rfl) ?_
    refine XO.q (Q.eql rfl rfl) ?_
    refine XO.done ?_
    refine XK.if rfl (fun c1 => ?_) (fun c1 => ?_)
    · skip
      refine XK.seq (XK.region rfl (XO.q (Q.move rfl) (XO.q (Q.assign rfl) (XO.done ?_))))
      refine XK.rt [] Try.func104 Try.results104 (.t rfl .n) ?_
      exact ⟨by rw [findFirst_here hany (by omega) (by rw [decide_eq_true_eq]; exact c1)], rfl⟩
    · skip
      refine XK.skip ?_
      refine XK.inBlock ?_
      refine XK.region rfl ?_
      refine XO.q (Q.add rfl rfl ⟨by omega, by omega⟩) ?_
      refine XO.q (Q.move rfl) (XO.done ?_)
      exact ih0 (i + 1) _ _ ⟨by omega, any_step hany (by omega) (by rw [decide_eq_false_iff_not]; exact c1)⟩ (by first | omega | (dsimp only; omega)) (.c rfl (.base 25 rfl rfl)) inferInstance
  · skip
    refine XK.exit rfl ?_
    refine XK.seq (XK.region rfl (XO.q (Q.assign rfl) (XO.done ?_)))
    refine XK.rt [] Try.func104 Try.results104 (.t rfl .n) ?_
    exact ⟨by rw [findFirst_none hany c0], rfl⟩
theorem containsE (v : Value) (hh : PHeap) (xs : List Int) [s : Arr v encI 1 hh xs] (x : Int) : Spec Try.prog 75 #[v, .int .i64 x] [] [hh] (fun v hs => v = .bool (xs.any (fun y => decide (x = y))) ∧ hs = []) := by
  refine Spec.intro (fn := Try.f75) (N := 9) Try.func75 rfl Try.ntmps75 rfl fun B => ?_
  refine XK.seq (XK.region rfl (XO.q (Q.assign rfl) (XO.done (XK.seq (XK.region rfl ?_)))))
  refine XO.q (Q.move rfl) (XO.q (Q.move rfl) ?_)
  refine XO.call Try.call104 rfl rfl rfl (indexE v hh xs x) fun v7 s7 R7 => ?_
  obtain ⟨rfl, rfl⟩ := R7
  dsimp only [lcA, lnA]
  refine XO.q (Q.geq rfl rfl) ?_
  refine XO.q (Q.assign rfl) (XO.done ?_)
  refine XK.rt [] Try.func75 Try.results75 (.t rfl .n) ?_
  exact ⟨by rw [← findFirst_any], rfl⟩
theorem any_mem {x : Int} {xs : List Int} : xs.any (fun y => decide (x = y)) = true ↔ x ∈ xs := by
  rw [List.any_eq_true]
  exact ⟨fun ⟨y, hy, h⟩ => by rw [decide_eq_true_eq] at h; exact h ▸ hy, fun h => ⟨x, h, by simp⟩⟩
theorem both_spec (v : Value) (hh : PHeap) (xs : List Int) [s : Arr v encI 1 hh xs] : Spec Try.prog 40 #[v] [] [hh] (fun v hs => v = .int .i64 (bothP xs) ∧ hs = []) := by
  refine Spec.intro (fn := Try.f40) (N := 16) Try.func40 rfl Try.ntmps40 rfl fun B => ?_
  refine XK.seq (XK.region rfl (XO.q (Q.assign rfl) (XO.done (XK.seq (XK.seq ?_)))))
  refine XK.region rfl ?_
  refine XO.lit [_, _] [_, _] [1, 6] encI (by rfl) (by rfl) rfl (by rfl) (by exact .c 0 1 rfl rfl rfl (.c 1 1 rfl rfl rfl (.n _))) (fun _ => rfl) (by rfl) rfl (by infer_instance) rfl fun v5 h5 O5 => ?_
  refine XO.len rfl fun l6 => ?_
  rw [show (((([1, 6] : List Int).length : Nat) : Int)) = 2 from rfl]
  refine XO.q (Q.move rfl) (XO.done (XK.block ?_))
  refine XK.while (X := Nat) [2, 4, 7, 8, 9, 10, 11, 12, 13, 14, 15] (fun i => [(7, some (.int .i64 (i : Nat)))]) (fun i => []) (fun i => i ≤ 2 ∧ (0 < i → ¬ (1 : Int) ∈ xs) ∧ (1 < i → ¬ (6 : Int) ∈ xs)) (fun i => 2 - i) (0) [] rfl ⟨by omega, by omega, by omega⟩ (.c rfl (.base 0 rfl rfl)) ?_
  rintro i ⟨hi, h0, h1⟩ ih0
  dsimp only [lcA, lnA] at ih0 ⊢
  refine XK.seq (XK.region rfl ?_)
  refine XO.q (Q.lss rfl rfl) ?_
  refine XO.done (XK.seq ?_)
  refine XK.if rfl (fun c0 => ?_) (fun c0 => ?_)
  · skip
    refine XK.skip (XK.seq (XK.block (XK.seq (XK.region rfl ?_))))
    refine XO.ix rfl rfl (by omega) (by show (i : Int) < 2; omega) fun i9 => ?_
    refine XO.q (Q.ldE rfl (by first | assumption | omega) rfl) ?_
    refine XO.q (Q.assign rfl) (XO.done (XK.seq (XK.region rfl (XO.q (Q.move rfl) (XO.q (Q.move rfl) ?_)))))
    refine XO.call Try.call75 rfl rfl rfl (containsE v hh xs _) fun v13 s13 R13 => ?_
    obtain ⟨rfl, rfl⟩ := R13
    dsimp only [lcA, lnA]
    refine XO.done ?_
    refine XK.if rfl (fun c1 => ?_) (fun c1 => ?_)
    · skip
      refine XK.seq (XK.region rfl (XO.q (Q.move rfl) (XO.q (Q.assign rfl) (XO.done ?_))))
      refine XK.rt [] Try.func40 Try.results40 (.t rfl .n) ?_
      rw [any_mem] at c1
      match i, (by omega : i < 2) with
      | 0, _ => exact ⟨by rw [bothP, if_pos (show (1 : Int) ∈ xs from c1)]; rfl, rfl⟩
      | 1, _ => exact ⟨by rw [bothP, if_neg (h0 (by omega)), if_pos (show (6 : Int) ∈ xs from c1)]; rfl, rfl⟩
    · skip
      refine XK.skip ?_
      refine XK.inBlock ?_
      refine XK.region rfl ?_
      refine XO.q (Q.add rfl rfl ⟨by omega, by omega⟩) ?_
      refine XO.q (Q.move rfl) (XO.done ?_)
      rw [any_mem] at c1
      exact ih0 (i + 1) _ _ (by match i, (by omega : i < 2) with
          | 0, _ => exact ⟨by omega, fun _ => c1, by omega⟩
          | 1, _ => exact ⟨by omega, fun _ => h0 (by omega), fun _ => c1⟩) (by first | omega | (dsimp only; omega)) (.c rfl (.base 21 rfl rfl)) inferInstance
  · skip
    refine XK.exit rfl ?_
    refine XK.seq (XK.region rfl (XO.q (Q.assign rfl) (XO.done ?_)))
    refine XK.rt [] Try.func40 Try.results40 (.t rfl .n) ?_
    have hi2 : i = 2 := by omega
    exact ⟨by rw [bothP, if_neg (h0 (by omega)), if_neg (h1 (by omega))], rfl⟩
theorem Next_spec (h : Hall) (vr vw vb vc : Value) (hr hw hb hc : PHeap) [ir : Arr vr encRoom 2 hr h.rooms] [iw : Arr vw encWall 3 hw h.walls] [ib : Arr vb encBranch 3 hb h.branches] [ic : Arr vc encCooler 5 hc h.coolers] (t : List Int) (vt : Value) (ht : PHeap) [it : Arr vt encI 1 ht t] (c : HCase) (vl : Value) (hl : PHeap) [il : Arr vl encI 1 hl c.load] : Spec Try.prog 16 #[.agg #[vr, vw, vb, vc], vt, .agg #[vl, .int .i64 c.out, .int .i64 c.pump]] [] [hr, hw, hb, hc, ht, hl]
    (fun v hs => ∃ v1 k1, v = .tuple #[v1, .int .i64 (nextG h t c).2] ∧ hs = [k1] ∧ OArr v1 encI 1 3 k1 (nextG h t c).1) := by
  refine Spec.intro (fn := Try.f16) (N := 30) Try.func16 rfl Try.ntmps16 rfl fun B => ?_
  refine XK.seq (XK.region rfl ?_)
  refine XO.box rfl fun b3 => ?_
  refine XO.box rfl fun b5 => ?_
  refine XO.q (Q.assign rfl) (XO.q (Q.assign rfl) (XO.done (XK.seq (XK.seq (XK.region rfl ?_)))))
  refine XO.q (Q.ldA [_, _, _, _] rfl rfl rfl) ?_
  refine XO.call Try.call36 rfl rfl rfl (Check_spec h vr vw vb vc hr hw hb hc) fun v11 s11 R11 => ?_
  obtain ⟨rfl, rfl⟩ := R11
  dsimp only [lcA, lnA]
  refine XO.q (Q.assign rfl) (XO.done (XK.seq (XK.region rfl (XO.q (Q.move rfl) ?_))))
  refine XO.q (Q.neq rfl rfl) ?_
  refine XO.done ?_
  refine XK.if rfl (fun c0 => ?_) (fun c0 => ?_)
  · skip
    refine XK.seq (XK.region rfl (XO.q (Q.move rfl) (XO.q (Q.assign rfl) (XO.q (Q.assign rfl) (XO.done ?_)))))
    refine XK.rt [emp] Try.func16 Try.results16 (.t rfl (.t rfl .n)) ?_
    have hw0 : nextG h t c = ([], hcheck h) := by rw [nextG, if_pos c0]
    rw [hw0]
    exact ⟨.slice none 0 0, emp, rfl, rfl, OArr.nil (fun _ => rfl)⟩
  · skip
    refine XK.skip (XK.seq (XK.seq ?_))
    refine XK.drawn [0, 1, 3, 4, 8] [b3, b5] [] (.q 0 (.q 1 (.q 3 (.q 4 (.br 2 true (.br 5 true (.br 6 true (.br 7 true (.q 8 .done) .stop) .stop) .stop) .stop))))) Try.mixed rfl (by kernel_rfl) ?_
    refine XT.q rfl rfl (Q.ldA [_, _, _, _] rfl rfl rfl) ?_
    refine XT.q rfl rfl (Q.move rfl) ?_
    refine XT.q rfl rfl (Q.ldA [_, _, _, _] rfl rfl rfl) ?_
    refine XT.q rfl rfl (Q.ldA [_, _, _] rfl rfl rfl) ?_
    refine XT.call rfl rfl Try.call41 rfl rfl rfl (warm_spec h vr vw vb vc hr vt ht t) (fun v17 s17 R17 => ?_) XT.stop
    obtain ⟨rfl, rfl⟩ := R17
    dsimp only [lcA, lnA]
    refine ⟨inferInstance, ?_⟩
    refine XT.call rfl rfl Try.call42 rfl rfl rfl (cased_spec h vr vw vb vc hr vl hl c) (fun v20 s20 R20 => ?_) XT.stop
    obtain ⟨rfl, rfl⟩ := R20
    dsimp only [lcA, lnA]
    refine ⟨inferInstance, ?_⟩
    refine XT.lit [_, _] [_, _] [warmP h t, casedP h c] encI rfl rfl (by rfl) (by rfl) rfl (by rfl) (by exact .c 0 1 rfl rfl rfl (.c 1 1 rfl rfl rfl (.n _))) (fun _ => rfl) (by rfl) rfl (by infer_instance) rfl (fun v21 h21 O21 => ⟨inferInstance, ?_⟩) XT.stop
    refine XT.call rfl rfl Try.call40 rfl rfl rfl (both_spec v21 h21 [warmP h t, casedP h c]) (fun v22 s22 R22 => ?_) XT.stop
    obtain ⟨rfl, rfl⟩ := R22
    dsimp only [lcA, lnA]
    refine ⟨inferInstance, ?_⟩
    refine XT.q rfl rfl (Q.assign rfl) ?_
    refine XT.done ?_
    refine XK.seq (XK.region rfl (XO.q (Q.move rfl) ?_))
    refine XO.q (Q.neq rfl rfl) ?_
    refine XO.done ?_
    refine XK.if rfl (fun c1 => ?_) (fun c1 => ?_)
    · skip
      refine XK.seq (XK.region rfl (XO.q (Q.move rfl) (XO.q (Q.assign rfl) (XO.q (Q.assign rfl) (XO.done ?_)))))
      refine XK.rt [emp] Try.func16 Try.results16 (.t rfl (.t rfl .n)) ?_
      have hw0 : nextG h t c = ([], bothP [warmP h t, casedP h c]) := by rw [nextG, if_neg c0, if_pos c1]
      rw [hw0]
      exact ⟨.slice none 0 0, emp, rfl, rfl, OArr.nil (fun _ => rfl)⟩
    · skip
      refine XK.skip (XK.seq (XK.region rfl ?_))
      refine XO.q (Q.ldA [_, _, _, _] rfl rfl rfl) ?_
      refine XO.q (Q.move rfl) ?_
      refine XO.q (Q.ldA [_, _, _] rfl rfl rfl) ?_
      refine XO.call Try.call43 rfl rfl rfl (next_spec7 h vr vw vb vc hr hw hb hc (hcheck_ok (Decidable.of_not_not c0)) t vt ht (both_ok (Decidable.of_not_not c1)).1 c (both_ok (Decidable.of_not_not c1)).2 vl hl) fun v29 s29 R29 => ?_
      obtain ⟨k1, rfl, O1⟩ := R29
      dsimp only [lcA, lnA]
      refine XO.q (Q.assign rfl) (XO.q (Q.assign rfl) (XO.done ?_))
      refine XK.rt [k1] Try.func16 Try.results16 (.t rfl (.t rfl .n)) ?_
      have hw0 : nextG h t c = (nextL h t c, 0) := by rw [nextG, if_neg c0, if_neg c1]
      rw [hw0]
      exact ⟨_, k1, rfl, rfl, O1⟩
end Go.X
