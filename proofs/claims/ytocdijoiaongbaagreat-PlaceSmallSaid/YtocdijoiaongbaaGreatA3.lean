/- A part of the proof: a small program logic, plain laws and contracts of functions, each proved by a walk through its operations. No condition but those that stand in each theorem. -/
import Derived.Test.YtocdijoiaongbaaGreatA2
import Derived.KernelRfl
import Derived.Lib.AppendZeros
import Derived.Shelf.Slices.In.SortNone
import Derived.Shelf.Sort.Plain
import Derived.Test.YtocdijoiaongbaaGreatProg
/- A region that draws its order over operations that have nothing to do with each other: each part is proved alone. No condition. -/
set_option linter.unusedSimpArgs false
set_option linter.unusedVariables false
namespace Go.X
def depsOf (ops : Array Oper) (i : Nat) : List Nat := match ops[i]? with
  | some x => (x.after.toList.filter fun e => Region.binds .any e).map (·.on)
  | none => []
def rdyC (ops : Array Oper) (L0 : Array Bool) (dn : List Nat) (i : Nat) : Bool := !dn.contains i && (depsOf ops i).all fun j => L0.getD j false || dn.contains j
def okC (ops : Array Oper) (L0 : Array Bool) (C : List Nat) : Plan → List Nat → List Nat → Bool
  | .done, dn, _ => C.all dn.contains
  | .q _ _, _, _ => false
  | .br i _ t u, dn, acc => C.contains i && rdyC ops L0 dn i && okC ops L0 C t (i :: dn) [] && okC ops L0 C u dn (i :: acc)
  | .stop, dn, acc => !acc.isEmpty && C.all fun i => !rdyC ops L0 dn i || acc.contains i
def alts : Plan → List (Nat × Plan)
  | .br i _ t u => (i, t) :: alts u
  | _ => []
def cdepth : Plan → Nat
  | .br _ _ t u => max (cdepth t + 1) (cdepth u)
  | _ => 0
theorem okC_alts {ops : Array Oper} {L0 : Array Bool} {C : List Nat} : ∀ (p : Plan) (dn acc : List Nat), okC ops L0 C p dn acc = true → (∀ i ∈ acc, rdyC ops L0 dn i = true) →
    (p = .done ∧ ∀ i ∈ C, i ∈ dn) ∨ ((∀ i ∈ C, rdyC ops L0 dn i = true → i ∈ acc ∨ ∃ t, (i, t) ∈ alts p) ∧ (∀ i t, (i, t) ∈ alts p → i ∈ C ∧ rdyC ops L0 dn i = true ∧ okC ops L0 C t (i :: dn) [] = true ∧ cdepth t + 1 ≤ cdepth p) ∧ (acc = [] → alts p ≠ []))
  | .done, dn, acc, h, _ => .inl ⟨rfl, fun i hi => by
    simp only [okC, List.all_eq_true] at h
    simpa using h i hi⟩
  | .q _ _, dn, acc, h, _ => by simp [okC] at h
  | .stop, dn, acc, h, _ => by
    simp only [okC, Bool.and_eq_true, List.all_eq_true] at h
    refine .inr ⟨fun i hi hr => ?_, fun i t hm => absurd hm List.not_mem_nil, fun ha => ?_⟩
    · have := h.2 i hi
      rw [hr] at this
      exact .inl (by simpa using this)
    · subst ha
      simp at h
  | .br i b t u, dn, acc, h, hacc => by
    simp only [okC, Bool.and_eq_true] at h
    obtain ⟨⟨⟨h1, h2⟩, h3⟩, h4⟩ := h
    rcases okC_alts u dn (i :: acc) h4 (fun j hj => by
      rcases List.mem_cons.1 hj with rfl | hj
      · exact h2
      · exact hacc j hj) with ⟨rfl, hall⟩ | ⟨a1, a2, a3⟩
    · exfalso
      have hi := hall i (by simpa using h1)
      unfold rdyC at h2
      rw [Bool.and_eq_true] at h2
      have := h2.1
      simp [hi] at this
    · refine .inr ⟨fun j hj hr => ?_, fun j tt hm => ?_, fun _ => by simp [alts]⟩
      · rcases a1 j hj hr with h | ⟨tt, h⟩
        · rcases List.mem_cons.1 h with rfl | h
          · exact .inr ⟨t, List.mem_cons_self⟩
          · exact .inl h
        · exact .inr ⟨tt, List.mem_cons_of_mem _ h⟩
      · rcases List.mem_cons.1 hm with h | h
        · cases h
          exact ⟨by simpa using h1, h2, h3, by rw [cdepth]; omega⟩
        · obtain ⟨b1, b2, b3, b4⟩ := a2 j tt h
          exact ⟨b1, b2, b3, by rw [cdepth]; omega⟩
/-! ### the parts -/
def CT (c : Cx) (ops : Array Oper) (e : Env) (r : List PHeap) (post : Env → List PHeap → Prop) : Plan → Env → List PHeap → Prop
  | .done, el, ol => post el ol
  | .q _ _, _, _ => False
  | .br i _ t u, el, ol => (∃ x Ψ, ops[i]? = some x ∧ okOper c.N x = true ∧ Stp c.P ops x (el ++ e) ol (c.B :: r) Ψ ∧ ∀ v o', Ψ v o' → CT c ops e r post t (puts el x.dst v) o') ∧ CT c ops e r post u el ol
  | .stop, _, _ => True
theorem CT.alt {c : Cx} {ops : Array Oper} {e : Env} {r : List PHeap} {post : Env → List PHeap → Prop} {el : Env} {ol : List PHeap} {i : Nat} {t : Plan} : ∀ {p : Plan}, CT c ops e r post p el ol → (i, t) ∈ alts p →
    ∃ x Ψ, ops[i]? = some x ∧ okOper c.N x = true ∧ Stp c.P ops x (el ++ e) ol (c.B :: r) Ψ ∧ ∀ v o', Ψ v o' → CT c ops e r post t (puts el x.dst v) o'
  | .done, _, hm => by cases hm
  | .q _ _, _, hm => by cases hm
  | .stop, _, hm => by cases hm
  | .br j b tt u, h, hm => by
    rcases List.mem_cons.1 hm with hm | hm
    · cases hm; exact h.1
    · exact CT.alt h.2 hm
/-- A part: its operations, the last one, what it may do still, what is done, what it knows and owns. -/
structure CS where
  C : List Nat
  z : Nat
  p : Plan
  dn : List Nat
  el : Env
  ol : List PHeap
  post : Env → List PHeap → Prop
def dstO (ops : Array Oper) (i : Nat) : Option Tmp := (ops[i]?).bind (·.dst)
def dstsOf (ops : Array Oper) (C : List Nat) : List Nat := C.filterMap (dstO ops)
def clo (ops : Array Oper) (C : List Nat) : Nat → List Nat → List Nat
  | 0, s => s
  | k + 1, s => clo ops C k (s ++ (s.flatMap (depsOf ops)).filter (fun j => C.contains j))
theorem clo_in {ops : Array Oper} {L0 : Array Bool} {C dn : List Nat} (hC : ∀ j ∈ C, L0.getD j false = false) (hcl : ∀ i ∈ dn, ∀ j ∈ depsOf ops i, L0.getD j false = true ∨ j ∈ dn) : ∀ (k : Nat) (s : List Nat), (∀ j ∈ s, j ∈ dn) → ∀ j ∈ clo ops C k s, j ∈ dn
  | 0, s, h, j, hj => h j hj
  | k + 1, s, h, j, hj => clo_in hC hcl k _ (fun i hi => by
    rcases List.mem_append.1 hi with hi | hi
    · exact h i hi
    · obtain ⟨h1, h2⟩ := List.mem_filter.1 hi
      obtain ⟨q, hq, hqi⟩ := List.mem_flatMap.1 h1
      rcases hcl q (h q hq) i hqi with h3 | h3
      · rw [hC i (by simpa using h2)] at h3; cases h3
      · exact h3) j hj
def usesC (ops : Array Oper) (L0 : Array Bool) (C : List Nat) (z : Nat) : Bool := C.contains z && C.all fun i => Nat.blt i ops.size && !L0.getD i true && (clo ops C C.length [z]).contains i && (depsOf ops i).all fun j => L0.getD j false || C.contains j
def nodupB : List Nat → Bool
  | [] => true
  | a :: l => !l.contains a && nodupB l
theorem nodupB_iff : ∀ {l : List Nat}, nodupB l = true → l.Nodup
  | [], _ => List.nodup_nil
  | a :: l, h => by
    simp only [nodupB, Bool.and_eq_true] at h
    exact List.nodup_cons.2 ⟨by simpa using h.1, nodupB_iff h.2⟩
def netOk (ops : Array Oper) (L0 : Array Bool) (cs : List (List Nat × Nat × Plan)) : Bool :=
  (cs.all fun s => okC ops L0 s.1 s.2.2 [] [] && usesC ops L0 s.1 s.2.1) && nodupB (cs.flatMap (·.1)) && nodupB (dstsOf ops (cs.flatMap (·.1))) &&
  (List.range ops.size).all fun i => L0.getD i true || (cs.flatMap (·.1)).contains i || (depsOf ops i).any (fun j => !L0.getD j false && !(cs.flatMap (·.1)).contains j) || cs.all fun s => (depsOf ops i).contains s.2.1
/-- What holds of a part while the parts are run. -/
structure CSOk (c : Cx) (ops : Array Oper) (L0 : Array Bool) (U : List Nat) (e : Env) (r : List PHeap) (s : CS) : Prop where
  ok : okC ops L0 s.C s.p s.dn [] = true
  uses : usesC ops L0 s.C s.z = true
  sub : ∀ i ∈ s.dn, i ∈ s.C
  closed : ∀ i ∈ s.dn, ∀ j ∈ depsOf ops i, L0.getD j false = true ∨ j ∈ s.dn
  ct : CT c ops e r s.post s.p s.el s.ol
  far : ∀ d ∈ dstsOf ops U, d ∉ dstsOf ops s.C → find (s.el ++ e) d = none
theorem mem_depsOf {ops : Array Oper} {i j : Nat} {x : Oper} (hx : ops[i]? = some x) : j ∈ depsOf ops i ↔ ∃ e ∈ x.after, Region.binds .any e = true ∧ e.on = j := by
  unfold depsOf
  rw [hx]
  simp only [List.mem_map, List.mem_filter, Array.mem_toList_iff]
  constructor
  · rintro ⟨e, ⟨h1, h2⟩, h3⟩; exact ⟨e, h1, h2, h3⟩
  · rintro ⟨e, h1, h2, h3⟩; exact ⟨e, ⟨h1, h2⟩, h3⟩
theorem find_app {A B : Env} {t : Nat} {v : Value} (h : find (A ++ B) t = some v) : find A t = some v ∨ find B t = some v := by
  induction A with
  | nil => exact .inr h
  | cons p A ih =>
    obtain ⟨k, u⟩ := p
    simp only [List.cons_append, find] at h ⊢
    split at h
    · rename_i hb; exact .inl h
    · exact ih h
theorem find_left {A B : Env} {t : Nat} {v : Value} (h : find A t = some v) : find (A ++ B) t = some v := by
  induction A with
  | nil => cases h
  | cons p A ih =>
    obtain ⟨k, u⟩ := p
    simp only [List.cons_append, find] at h ⊢
    split at h
    · exact h
    · exact ih h
theorem ERel.far {e : Env} {a : Array Value} {d : Option Tmp} {v : Value} (h : ERel e a) (hf : ∀ t, d = some t → find e t = none) : ERel e (X.put a d v) := by
  cases d with
  | none => exact h
  | some d =>
    intro t u hu
    have hne : d ≠ t := by
      rintro rfl
      rw [hf d rfl] at hu; cases hu
    have := h t u hu
    simpa [X.put, Array.getElem?_setIfInBounds_ne hne] using this
def FinAll : List (Env → List PHeap → Prop) → (Env → List PHeap → Prop) → Prop
  | [], K => K [] []
  | p :: ps, K => ∀ el ol, p el ol → FinAll ps (fun e2 o2 => K (el ++ e2) (ol ++ o2))
theorem FinAll.app : ∀ (cs : List CS) (K : Env → List PHeap → Prop), (∀ s ∈ cs, s.post s.el s.ol) → FinAll (cs.map (·.post)) K → K (cs.flatMap (·.el)) (cs.flatMap (·.ol))
  | [], K, _, h => h
  | s :: cs, K, hp, h => by
    have := FinAll.app cs _ (fun x hx => hp x (List.mem_cons_of_mem _ hx)) (h s.el s.ol (hp s List.mem_cons_self))
    simpa using this
theorem split_mid {α β : Type} (f : α → List β) {cs : List α} {s : α} {pre suf : List α} (h : cs = pre ++ s :: suf) : cs.flatMap f = pre.flatMap f ++ (f s ++ suf.flatMap f) := by
  rw [h, List.flatMap_append, List.flatMap_cons]

theorem mem_flat {cs : List CS} {i : Nat} : i ∈ cs.flatMap (·.C) ↔ ∃ s ∈ cs, i ∈ s.C := List.mem_flatMap
/-- Where two operations of a list without repeats write one variable, they are one. -/
theorem dst_one {ops : Array Oper} : ∀ {U : List Nat}, (dstsOf ops U).Nodup → ∀ {i j d : Nat}, i ∈ U → j ∈ U → dstO ops i = some d → dstO ops j = some d → i = j
  | [], _, _, _, _, hi, _, _, _ => by cases hi
  | a :: U, hn, i, j, d, hi, hj, h1, h2 => by
    have key : ∀ x, x ∈ U → dstO ops x = some d → dstO ops a = some d → False := fun x hx hx2 ha => by
      unfold dstsOf at hn
      rw [List.filterMap_cons_some ha] at hn
      exact (List.nodup_cons.1 hn).1 (List.mem_filterMap.2 ⟨x, hx, hx2⟩)
    have hn' : (dstsOf ops U).Nodup := by
      unfold dstsOf at hn ⊢
      cases ha : dstO ops a with
      | none => rwa [List.filterMap_cons_none ha] at hn
      | some y => rw [List.filterMap_cons_some ha] at hn; exact (List.nodup_cons.1 hn).2
    rcases List.mem_cons.1 hi with h3 | h3
    · rcases List.mem_cons.1 hj with h4 | h4
      · rw [h3, h4]
      · rw [h3] at h1; exact (key j h4 h2 h1).elim
    · rcases List.mem_cons.1 hj with h4 | h4
      · rw [h4] at h2; exact (key i h3 h1 h2).elim
      · exact dst_one hn' h3 h4 h1 h2
theorem nodup_mid {pre suf : List CS} {s s2 : CS} {i : Nat} (hn : ((pre ++ s :: suf).flatMap (·.C)).Nodup) (h1 : i ∈ s.C) (h2 : s2 ∈ pre ∨ s2 ∈ suf) : i ∉ s2.C := fun hc => by
  rw [List.flatMap_append, List.flatMap_cons, List.nodup_append] at hn
  obtain ⟨_, hb, hx⟩ := hn
  rw [List.nodup_append] at hb
  rcases h2 with h2 | h2
  · exact hx i (mem_flat.2 ⟨s2, h2, hc⟩) i (List.mem_append_left _ h1) rfl
  · exact hb.2.2 i h1 i (mem_flat.2 ⟨s2, h2, hc⟩) rfl
section
variable {c : Cx} {ops : Array Oper} {L0 : Array Bool} {e : Env} {o f r : List PHeap} {fl : List Nat} {D : PHeap}
/-- What is listed is what was at the start and what the parts have done. -/
def Lst (L0 : Array Bool) (cs : List CS) (l : Array Bool) (n : Nat) : Prop := l.size = n ∧ ∀ j, l.getD j false = true ↔ (L0.getD j false = true ∨ ∃ s ∈ cs, j ∈ s.dn)
theorem getD_lt {l : Array Bool} {j : Nat} (h : j < l.size) : l.getD j true = l.getD j false := by
  simp [h]
theorem net_ready {U : List Nat} {cs : List CS} (hcs : ∀ s ∈ cs, CSOk c ops L0 U e (o ++ r) s) (hU : U = cs.flatMap (·.C)) (hn : U.Nodup)
    (hrest : ∀ i, i < ops.size → L0.getD i true = true ∨ i ∈ U ∨ (∃ j ∈ depsOf ops i, L0.getD j false = false ∧ j ∉ U) ∨ ∀ s ∈ cs, s.z ∈ depsOf ops i)
    {l : Array Bool} (hl : Lst L0 cs l ops.size) (hsz : L0.size = ops.size) {i : Nat} (hi : i ∈ Region.ready .any ops l) (hinc : ∃ s ∈ cs, s.p ≠ .done) :
    ∃ pre s suf, cs = pre ++ s :: suf ∧ i ∈ s.C ∧ rdyC ops L0 s.dn i = true := by
  obtain ⟨h0, x, hx, hall⟩ := mem_ready.1 hi
  have hlt : i < ops.size := (Array.getElem?_eq_some_iff.1 hx).1
  have hun : l.getD i false = false := by rw [← getD_lt (by rw [hl.1]; exact hlt)]; exact h0
  have hdep : ∀ j ∈ depsOf ops i, l.getD j false = true := fun j hj => by
    obtain ⟨ed, he, hb, rfl⟩ := (mem_depsOf hx).1 hj
    exact hall ed he hb
  have hL : L0.getD i true = false := by
    rw [getD_lt (by rw [hsz]; exact hlt)]
    cases hc : L0.getD i false with
    | false => rfl
    | true => rw [(hl.2 i).2 (.inl hc)] at hun; cases hun
  rcases hrest i hlt with h | h | ⟨j, hj, hj0, hjU⟩ | h
  · rw [h] at hL; cases hL
  · rw [hU] at h
    obtain ⟨s, hs, hiC⟩ := mem_flat.1 h
    obtain ⟨pre, suf, hcs2⟩ := List.append_of_mem hs
    refine ⟨pre, s, suf, hcs2, hiC, ?_⟩
    have so := hcs s hs
    have us := so.uses
    simp only [usesC, Bool.and_eq_true, List.all_eq_true] at us
    have hA := (us.2 i hiC).2
    unfold rdyC
    simp only [Bool.and_eq_true, List.all_eq_true, Bool.not_eq_true', Bool.or_eq_true] at hA ⊢
    refine ⟨?_, fun j hj => ?_⟩
    · cases hc : s.dn.contains i with
      | false => rfl
      | true => rw [(hl.2 i).2 (.inr ⟨s, hs, by simpa using hc⟩)] at hun; cases hun
    · rcases (hl.2 j).1 (hdep j hj) with h1 | ⟨s2, hs2, hd⟩
      · exact .inl h1
      · rcases hA j hj with h1 | h1
        · exact .inl h1
        · have hjC : j ∈ s.C := by simpa using h1
          have hj2 := (hcs s2 hs2).sub j hd
          rw [hcs2] at hs2
          rcases List.mem_append.1 hs2 with h2 | h2
          · exact absurd hj2 (nodup_mid (by rw [← hcs2, ← hU]; exact hn) hjC (.inl h2))
          · rcases List.mem_cons.1 h2 with rfl | h2
            · right; simpa using hd
            · exact absurd hj2 (nodup_mid (by rw [← hcs2, ← hU]; exact hn) hjC (.inr h2))
  · exfalso
    have := hdep j hj
    rcases (hl.2 j).1 this with h1 | ⟨s, hs, hd⟩
    · rw [h1] at hj0; cases hj0
    · exact hjU (by rw [hU]; exact mem_flat.2 ⟨s, hs, (hcs s hs).sub j hd⟩)
  · exfalso
    obtain ⟨s, hs, hne⟩ := hinc
    have so := hcs s hs
    have us := so.uses
    simp only [usesC, Bool.and_eq_true, List.all_eq_true] at us
    have hzC : s.z ∈ s.C := by simpa using us.1
    have hz := hdep s.z (h s hs)
    have hz0 : L0.getD s.z false = false := by
      have h1 := (us.2 s.z hzC).1.1.2
      have h2 := (us.2 s.z hzC).1.1.1
      rw [Nat.blt_eq] at h2
      rw [← getD_lt (by rw [hsz]; exact h2)]
      simpa using h1
    have hzd : s.z ∈ s.dn := by
      rcases (hl.2 s.z).1 hz with h1 | ⟨s2, hs2, hd⟩
      · rw [h1] at hz0; cases hz0
      · obtain ⟨pre, suf, hcs2⟩ := List.append_of_mem hs
        have hj2 := (hcs s2 hs2).sub s.z hd
        rw [hcs2] at hs2
        rcases List.mem_append.1 hs2 with h2 | h2
        · exact absurd hj2 (nodup_mid (by rw [← hcs2, ← hU]; exact hn) hzC (.inl h2))
        · rcases List.mem_cons.1 h2 with rfl | h2
          · exact hd
          · exact absurd hj2 (nodup_mid (by rw [← hcs2, ← hU]; exact hn) hzC (.inr h2))
    have hC0 : ∀ k ∈ s.C, L0.getD k false = false := fun k hk => by
      have h3 := (us.2 k hk).1.1.2
      have h4 := (us.2 k hk).1.1.1
      rw [Nat.blt_eq] at h4
      rw [← getD_lt (by rw [hsz]; exact h4)]
      simpa using h3
    have hfull : ∀ k ∈ s.C, k ∈ s.dn := fun k hk =>
      clo_in hC0 so.closed _ [s.z] (fun j hj => by rw [List.mem_singleton] at hj; rw [hj]; exact hzd) k (by simpa using (us.2 k hk).1.2)
    rcases okC_alts s.p s.dn [] so.ok (fun i hi => by cases hi) with ⟨hp, _⟩ | ⟨_, h2, h3⟩
    · exact hne hp
    · have h4 := h3 rfl
      cases ha : alts s.p with
      | nil => exact h4 ha
      | cons q qs =>
        obtain ⟨k, t⟩ := q
        obtain ⟨b1, b2, _⟩ := h2 k t (by rw [ha]; exact List.mem_cons_self)
        have := hfull k b1
        unfold rdyC at b2
        rw [Bool.and_eq_true] at b2
        have b3 := b2.1
        simp [this] at b3

theorem Sep.toRead {D : PHeap} {ol o r : List PHeap} {B : PHeap} {w : World} (s : Sep (D :: (ol ++ o)) (B :: r) w) : Sep (D :: ol) (B :: (o ++ r)) w where
  pw := by
    have h := List.pairwise_cons.1 s.pw
    exact List.pairwise_cons.2 ⟨fun g hg => h.1 g (List.mem_append_left _ hg), (List.pairwise_append.1 h.2).1⟩
  dr := fun h hh g hg => by
    have hp := List.pairwise_cons.1 s.pw
    rcases List.mem_cons.1 hg with rfl | hg
    · refine s.dr h ?_ g List.mem_cons_self
      rcases List.mem_cons.1 hh with rfl | hh
      · exact List.mem_cons_self
      · exact List.mem_cons_of_mem _ (List.mem_append_left _ hh)
    · rcases List.mem_append.1 hg with hg | hg
      · rcases List.mem_cons.1 hh with rfl | hh
        · exact hp.1 g (List.mem_append_right _ hg)
        · exact (List.pairwise_append.1 hp.2).2.2 h hh g hg
      · refine s.dr h ?_ g (List.mem_cons_of_mem _ hg)
        rcases List.mem_cons.1 hh with rfl | hh
        · exact List.mem_cons_self
        · exact List.mem_cons_of_mem _ (List.mem_append_left _ hh)
  so := fun h hh => s.so h (by
    rcases List.mem_cons.1 hh with rfl | hh
    · exact List.mem_cons_self
    · exact List.mem_cons_of_mem _ (List.mem_append_left _ hh))
  sr := fun g hg => by
    rcases List.mem_cons.1 hg with rfl | hg
    · exact s.sr g List.mem_cons_self
    · rcases List.mem_append.1 hg with hg | hg
      · exact s.so g (List.mem_cons_of_mem _ (List.mem_append_right _ hg))
      · exact s.sr g (List.mem_cons_of_mem _ hg)
  no := fun h hh => s.no h (by
    rcases List.mem_cons.1 hh with rfl | hh
    · exact List.mem_cons_self
    · exact List.mem_cons_of_mem _ (List.mem_append_left _ hh))
  sm := fun g hg m hm => by
    rcases List.mem_cons.1 hg with rfl | hg
    · exact s.sm g List.mem_cons_self m hm
    · rcases List.mem_append.1 hg with hg | hg
      · rw [s.no g (List.mem_cons_of_mem _ (List.mem_append_right _ hg))] at hm; cases hm
      · exact s.sm g (List.mem_cons_of_mem _ hg) m hm
theorem Sep.toOwn {D : PHeap} {ol o r : List PHeap} {B : PHeap} {w : World} (s : Sep (D :: ol) (B :: (o ++ r)) w) (hpw : (D :: o).Pairwise Disj) (hno : ∀ h ∈ o, h.m = none) (hdr : ∀ h ∈ o, ∀ g ∈ B :: r, Disj h g) : Sep (D :: (ol ++ o)) (B :: r) w where
  pw := by
    have h := List.pairwise_cons.1 s.pw
    have h2 := List.pairwise_cons.1 hpw
    refine List.pairwise_cons.2 ⟨fun g hg => ?_, List.pairwise_append.2 ⟨h.2, h2.2, fun a ha b hb => s.dr a (List.mem_cons_of_mem _ ha) b (List.mem_cons_of_mem _ (List.mem_append_left _ hb))⟩⟩
    rcases List.mem_append.1 hg with hg | hg
    · exact h.1 g hg
    · exact h2.1 g hg
  dr := fun h hh g hg => by
    have hg' : g ∈ B :: (o ++ r) := by
      rcases List.mem_cons.1 hg with rfl | hg
      · exact List.mem_cons_self
      · exact List.mem_cons_of_mem _ (List.mem_append_right _ hg)
    rcases List.mem_cons.1 hh with rfl | hh
    · exact s.dr h List.mem_cons_self g hg'
    · rcases List.mem_append.1 hh with hh | hh
      · exact s.dr h (List.mem_cons_of_mem _ hh) g hg'
      · exact hdr h hh g hg
  so := fun h hh => by
    rcases List.mem_cons.1 hh with rfl | hh
    · exact s.so h List.mem_cons_self
    · rcases List.mem_append.1 hh with hh | hh
      · exact s.so h (List.mem_cons_of_mem _ hh)
      · exact s.sr h (List.mem_cons_of_mem _ (List.mem_append_left _ hh))
  sr := fun g hg => s.sr g (by
    rcases List.mem_cons.1 hg with rfl | hg
    · exact List.mem_cons_self
    · exact List.mem_cons_of_mem _ (List.mem_append_right _ hg))
  no := fun h hh => by
    rcases List.mem_cons.1 hh with rfl | hh
    · exact s.no h List.mem_cons_self
    · rcases List.mem_append.1 hh with hh | hh
      · exact s.no h (List.mem_cons_of_mem _ hh)
      · exact hno h hh
  sm := fun g hg => s.sm g (by
    rcases List.mem_cons.1 hg with rfl | hg
    · exact List.mem_cons_self
    · exact List.mem_cons_of_mem _ (List.mem_append_right _ hg))
theorem Stp.away {P : Program} {x : Oper} {e : Env} {ol r : List PHeap} {Ψ : Value → List PHeap → Prop} (s : Stp P ops x e ol r Ψ) {oth : List PHeap} {a : Array Value} {w : World} (he : ERel e a) (hs : Sep (oth ++ ol) r w) :
    Does P ops x a w fun v w' => ∃ o', Ψ v o' ∧ Sep (oth ++ o') r w' := by
  have pd : PD oth := ⟨(List.pairwise_append.1 hs.pw).1, fun h hh => hs.no h (List.mem_append_left _ hh)⟩
  have hj : Sep (X.join oth :: ol) r w := Sep.join hs
  refine (s (X.join oth) a w he hj).mono fun v w' ⟨o2, ⟨o', hΨ, hp⟩, h2⟩ => ⟨o', hΨ, Sep.split pd (h2.perm hp)⟩
def cdepths (cs : List CS) : Nat := (cs.map fun s => cdepth s.p).sum
theorem cdepths_mid {pre suf : List CS} {s : CS} : cdepths (pre ++ s :: suf) = cdepths pre + (cdepth s.p + cdepths suf) := by
  unfold cdepths
  rw [List.map_append, List.map_cons, List.sum_append, List.sum_cons]
theorem net_alt {cs : List CS} {U : List Nat} (hcs : ∀ s ∈ cs, CSOk c ops L0 U e (o ++ r) s) {s : CS} (hs : s ∈ cs) (hne : s.p ≠ .done) : ∃ k t, (k, t) ∈ alts s.p ∧ k ∈ s.C ∧ rdyC ops L0 s.dn k = true ∧ cdepth t + 1 ≤ cdepth s.p := by
  have so := hcs s hs
  rcases okC_alts s.p s.dn [] so.ok (fun i hi => by cases hi) with ⟨hp, _⟩ | ⟨_, h2, h3⟩
  · exact absurd hp hne
  · cases ha : alts s.p with
    | nil => exact absurd ha (h3 rfl)
    | cons q qs =>
      obtain ⟨k, t⟩ := q
      obtain ⟨b1, b2, _, b4⟩ := h2 k t (by rw [ha]; exact List.mem_cons_self)
      exact ⟨k, t, List.mem_cons_self, b1, b2, b4⟩
theorem net_more {cs : List CS} {U : List Nat} (hcs : ∀ s ∈ cs, CSOk c ops L0 U e (o ++ r) s) {s : CS} (hs : s ∈ cs) (hne : s.p ≠ .done) : 1 ≤ cdepths cs := by
  obtain ⟨k, t, _, _, _, h⟩ := net_alt hcs hs hne
  obtain ⟨pre, suf, hcs2⟩ := List.append_of_mem hs
  rw [hcs2, cdepths_mid]; omega
theorem net_some {cs : List CS} {U : List Nat} (hcs : ∀ s ∈ cs, CSOk c ops L0 U e (o ++ r) s) (hU : U = cs.flatMap (·.C)) (hn : U.Nodup) {l : Array Bool} (hl : Lst L0 cs l ops.size) (hsz : L0.size = ops.size) {s : CS} (hs : s ∈ cs) (hne : s.p ≠ .done) :
    ∃ k, k ∈ Region.ready .any ops l := by
  obtain ⟨k, t, hm, hkC, hrd, _⟩ := net_alt hcs hs hne
  have so := hcs s hs
  obtain ⟨x, Ψ, hx, _⟩ := so.ct.alt hm
  have hlt : k < ops.size := (Array.getElem?_eq_some_iff.1 hx).1
  have us := so.uses
  simp only [usesC, Bool.and_eq_true, List.all_eq_true] at us
  have hk0 := (us.2 k hkC).1.1.2
  unfold rdyC at hrd
  simp only [Bool.and_eq_true, List.all_eq_true, Bool.or_eq_true] at hrd
  refine ⟨k, mem_ready.2 ⟨?_, x, hx, fun ed he hb => ?_⟩⟩
  · rw [getD_lt (by rw [hl.1]; exact hlt)]
    cases hc : l.getD k false with
    | false => rfl
    | true =>
      exfalso
      rcases (hl.2 k).1 hc with h1 | ⟨s2, hs2, hd⟩
      · rw [getD_lt (by rw [hsz]; exact hlt), h1] at hk0; cases hk0
      · have hk2 := (hcs s2 hs2).sub k hd
        obtain ⟨pre, suf, hcs2⟩ := List.append_of_mem hs
        rw [hcs2] at hs2
        rcases List.mem_append.1 hs2 with h2 | h2
        · exact nodup_mid (by rw [← hcs2, ← hU]; exact hn) hkC (.inl h2) hk2
        · rcases List.mem_cons.1 h2 with rfl | h2
          · have b3 := hrd.1
            simp [hd] at b3
          · exact nodup_mid (by rw [← hcs2, ← hU]; exact hn) hkC (.inr h2) hk2
  · refine (hl.2 _).2 ?_
    rcases hrd.2 ed.on ((mem_depsOf hx).2 ⟨ed, he, hb, rfl⟩) with h1 | h1
    · exact .inl h1
    · exact .inr ⟨s, hs, by simpa using h1⟩
theorem ERel.flat {cs : List CS} {a : Array Value} (hes : ∀ s ∈ cs, ERel (s.el ++ e) a) (he : ERel e a) : ERel (cs.flatMap (·.el) ++ e) a := by
  induction cs with
  | nil => exact he
  | cons s cs ih =>
    intro t v h
    rw [List.flatMap_cons, List.append_assoc] at h
    rcases find_app h with h1 | h1
    · exact hes s List.mem_cons_self t v (find_left h1)
    · exact ih (fun x hx => hes x (List.mem_cons_of_mem _ hx)) t v h1
theorem net_end {U : List Nat} {Q : Array Value → World → Prop} {K : Env → List PHeap → Prop} {posts : List (Env → List PHeap → Prop)} {T n : Nat} {cs : List CS} {l : Array Bool} {a : Array Value} {w : World} (hcs : ∀ s ∈ cs, CSOk c ops L0 U e (o ++ r) s) (hU : cs.flatMap (·.C) = U) (hp : cs.map (·.post) = posts)
    (hl : Lst L0 cs l ops.size) (ha : a.size = c.N) (hes : ∀ s ∈ cs, ERel (s.el ++ e) a) (he : ERel e a) (hs : Sep (D :: cs.flatMap (·.ol)) (c.B :: (o ++ r)) w) (hT : cdepths cs + T ≤ n) (hall : ∀ s ∈ cs, s.p = .done)
    (hpw : (D :: o).Pairwise Disj) (hno : ∀ h ∈ o, h.m = none) (hdr : ∀ h ∈ o, ∀ g ∈ c.B :: r, Disj h g) (hK : FinAll posts K)
    (hfin : ∀ n l a w el ol, K el ol → T ≤ n → l.size = ops.size → (∀ j, l.getD j false = true ↔ (L0.getD j false = true ∨ j ∈ U)) → a.size = c.N → ERel (el ++ e) a → Sep (D :: (ol ++ o)) (c.B :: r) w → Any c.P ops (Sf f (c.B :: r)) fl Q n l a w) :
    Any c.P ops (Sf f (c.B :: r)) fl Q n l a w := by
  have hposts : ∀ s ∈ cs, s.post s.el s.ol := fun s hs => by
    have := (hcs s hs).ct
    rw [hall s hs] at this
    exact this
  have hk := FinAll.app cs K hposts (by rw [hp]; exact hK)
  refine hfin n l a w _ _ hk (by omega) hl.1 (fun j => ?_) ha (ERel.flat hes he) (hs.toOwn hpw hno hdr)
  rw [hl.2 j]
  constructor
  · rintro (h | ⟨s, hs, hj⟩)
    · exact .inl h
    · exact .inr (by rw [← hU]; exact mem_flat.2 ⟨s, hs, (hcs s hs).sub j hj⟩)
  · rintro (h | h)
    · exact .inl h
    · right
      rw [← hU] at h
      obtain ⟨s, hs, hj⟩ := mem_flat.1 h
      refine ⟨s, hs, ?_⟩
      rcases okC_alts s.p s.dn [] (hcs s hs).ok (fun i hi => by cases hi) with ⟨_, hf⟩ | ⟨_, _, h3⟩
      · exact hf j hj
      · exact absurd (by rw [hall s hs]; rfl) (h3 rfl)
theorem net_sound {U zs : List Nat} {Q : Array Value → World → Prop} {K : Env → List PHeap → Prop} {posts : List (Env → List PHeap → Prop)} {T : Nat} (hn : U.Nodup) (hdn : (dstsOf ops U).Nodup) (hkill : ∀ d ∈ dstsOf ops U, find e d = none) (hsz : L0.size = ops.size)
    (hrest : ∀ i, i < ops.size → L0.getD i true = true ∨ i ∈ U ∨ (∃ j ∈ depsOf ops i, L0.getD j false = false ∧ j ∉ U) ∨ ∀ z ∈ zs, z ∈ depsOf ops i)
    (hf : ∀ h ∈ f, h ∈ o) (hpw : (D :: o).Pairwise Disj) (hno : ∀ h ∈ o, h.m = none) (hdr : ∀ h ∈ o, ∀ g ∈ c.B :: r, Disj h g) (hK : FinAll posts K)
    (hfin : ∀ n l a w el ol, K el ol → T ≤ n → l.size = ops.size → (∀ j, l.getD j false = true ↔ (L0.getD j false = true ∨ j ∈ U)) → a.size = c.N → ERel (el ++ e) a → Sep (D :: (ol ++ o)) (c.B :: r) w → Any c.P ops (Sf f (c.B :: r)) fl Q n l a w) :
    ∀ (n : Nat) (cs : List CS) (l : Array Bool) (a : Array Value) (w : World), (∀ s ∈ cs, CSOk c ops L0 U e (o ++ r) s) → cs.flatMap (·.C) = U → cs.map (·.z) = zs → cs.map (·.post) = posts → Lst L0 cs l ops.size → a.size = c.N →
      (∀ s ∈ cs, ERel (s.el ++ e) a) → ERel e a → Sep (D :: cs.flatMap (·.ol)) (c.B :: (o ++ r)) w → cdepths cs + T ≤ n → Any c.P ops (Sf f (c.B :: r)) fl Q n l a w := by
  intro n
  induction n with
  | zero =>
    intro cs l a w hcs hU hz hp hl ha hes he hs hT
    by_cases hall : ∀ s ∈ cs, s.p = .done
    · exact net_end hcs hU hp hl ha hes he hs hT hall hpw hno hdr hK hfin
    · exfalso
      simp only [Classical.not_forall] at hall
      obtain ⟨s, hs1, hne⟩ := hall
      have := net_more hcs hs1 hne
      omega
  | succ n ih =>
    intro cs l a w hcs hU hz hp hl ha hes he hs hT
    by_cases hall : ∀ s ∈ cs, s.p = .done
    · exact net_end hcs hU hp hl ha hes he hs hT hall hpw hno hdr hK hfin
    · simp only [Classical.not_forall] at hall
      obtain ⟨s0, hs0, hne0⟩ := hall
      refine ⟨fun hnil => ?_, fun i hi x hx => ?_⟩
      · exfalso
        obtain ⟨k, hk⟩ := net_some hcs hU.symm hn hl hsz hs0 hne0
        rw [hnil] at hk; cases hk
      · obtain ⟨pre, s, suf, hcs2, hiC, hrd⟩ := net_ready hcs hU.symm hn (fun i hi => by
          rcases hrest i hi with h | h | h | h
          · exact .inl h
          · exact .inr (.inl h)
          · exact .inr (.inr (.inl h))
          · exact .inr (.inr (.inr fun s hs => h s.z (by rw [← hz]; exact List.mem_map.2 ⟨s, hs, rfl⟩)))) hl hsz hi ⟨s0, hs0, hne0⟩
        have hsm : s ∈ cs := by rw [hcs2]; simp
        have so := hcs s hsm
        rcases okC_alts s.p s.dn [] so.ok (fun i hi => by cases hi) with ⟨hpd, hfull⟩ | ⟨h1, h2, _⟩
        · exfalso
          have := hfull i hiC
          unfold rdyC at hrd
          rw [Bool.and_eq_true] at hrd
          have b3 := hrd.1
          simp [this] at b3
        · obtain ⟨t, ht⟩ := (h1 i hiC hrd).resolve_left (fun h => by cases h)
          obtain ⟨_, _, hokt, hcd⟩ := h2 i t ht
          obtain ⟨x', Ψ, hx', hko, hst, hnx⟩ := so.ct.alt ht
          rw [hx] at hx'; cases hx'
          have hperm : (D :: cs.flatMap (·.ol)).Perm ((D :: (pre.flatMap (·.ol) ++ suf.flatMap (·.ol))) ++ s.ol) := by
            rw [split_mid _ hcs2]
            show (D :: (pre.flatMap (·.ol) ++ (s.ol ++ suf.flatMap (·.ol)))).Perm (D :: ((pre.flatMap (·.ol) ++ suf.flatMap (·.ol)) ++ s.ol))
            refine List.Perm.cons _ ?_
            rw [List.append_assoc]
            exact List.Perm.append_left _ List.perm_append_comm
          refine (hst.away (he := hes s hsm) (hs.perm hperm)).mono fun v w' ⟨o', hΨ, hs'⟩ => ⟨fun _ => ⟨fun h hh => hs'.sr h (List.mem_cons_of_mem _ (List.mem_append_left _ (hf h hh))), fun h hh => hs'.sr h (by
            rcases List.mem_cons.1 hh with rfl | hh
            · exact List.mem_cons_self
            · exact List.mem_cons_of_mem _ (List.mem_append_right _ hh))⟩, ?_⟩
          have hUi : i ∈ U := by rw [← hU]; exact mem_flat.2 ⟨s, hsm, hiC⟩
          have hdi : ∀ d, x.dst = some d → dstO ops i = some d := fun d hd => by unfold dstO; rw [hx]; exact hd
          have hCsub : ∀ k ∈ s.C, k ∈ U := fun k hk => by rw [← hU]; exact mem_flat.2 ⟨s, hsm, hk⟩
          -- another part knows nothing of this operation's variable
          have hother : ∀ s2, s2 ∈ pre ∨ s2 ∈ suf → ∀ d, x.dst = some d → find (s2.el ++ e) d = none := fun s2 hs2 d hd => by
            have hs2m : s2 ∈ cs := by rw [hcs2]; rcases hs2 with h | h <;> simp [h]
            refine (hcs s2 hs2m).far d (List.mem_filterMap.2 ⟨i, hUi, hdi d hd⟩) fun hc => ?_
            obtain ⟨j, hj, hjd⟩ := List.mem_filterMap.1 hc
            have hjU : j ∈ U := by rw [← hU]; exact mem_flat.2 ⟨s2, hs2m, hj⟩
            have := dst_one hdn hUi hjU (hdi d hd) hjd
            subst this
            exact nodup_mid (by rw [← hcs2, hU]; exact hn) hiC hs2 hj
          refine ih (pre ++ { s with p := t, dn := i :: s.dn, el := puts s.el x.dst v, ol := o' } :: suf) (l.setIfInBounds i true) (X.put a x.dst v) w' ?_ ?_ ?_ ?_ ?_ ?_ ?_ ?_ ?_ ?_
          · intro s2 hs2
            rcases List.mem_append.1 hs2 with h | h
            · exact hcs s2 (by rw [hcs2]; simp [h])
            · rcases List.mem_cons.1 h with rfl | h
              · refine ⟨hokt, so.uses, fun k hk => ?_, fun k hk j hj => ?_, hnx v o' hΨ, fun d hdU hdC => ?_⟩
                · rcases List.mem_cons.1 hk with rfl | hk
                  · exact hiC
                  · exact so.sub k hk
                · rcases List.mem_cons.1 hk with rfl | hk
                  · unfold rdyC at hrd
                    simp only [Bool.and_eq_true, List.all_eq_true, Bool.or_eq_true] at hrd
                    rcases hrd.2 j hj with h5 | h5
                    · exact .inl h5
                    · exact .inr (List.mem_cons_of_mem _ (by simpa using h5))
                  · rcases so.closed k hk j hj with h5 | h5
                    · exact .inl h5
                    · exact .inr (List.mem_cons_of_mem _ h5)
                · have h0 := so.far d hdU hdC
                  cases hxd : x.dst with
                  | none => exact h0
                  | some d2 =>
                    have hne : d ≠ d2 := by
                      rintro rfl
                      exact hdC (List.mem_filterMap.2 ⟨i, hiC, hdi d hxd⟩)
                    show find ((d2, some v) :: (s.el ++ e)) d = none
                    rw [find]
                    have : Nat.beq d d2 = false := by
                      cases hb : Nat.beq d d2 with
                      | false => rfl
                      | true => exact absurd (Nat.eq_of_beq_eq_true hb) hne
                    rw [this]; exact h0
              · exact hcs s2 (by rw [hcs2]; simp [h])
          · rw [← hU, hcs2]; simp
          · rw [← hz, hcs2]; simp
          · rw [← hp, hcs2]; simp
          · refine ⟨by simp [hl.1], fun j => ?_⟩
            have hlt : i < l.size := by rw [hl.1]; exact (Array.getElem?_eq_some_iff.1 hx).1
            by_cases hij : i = j
            · subst hij
              have : (l.setIfInBounds i true).getD i false = true := by simp [hlt]
              rw [this]
              exact ⟨fun _ => .inr ⟨_, List.mem_append_right _ List.mem_cons_self, List.mem_cons_self⟩, fun _ => rfl⟩
            · rw [getD_set_ne false hij, hl.2 j]
              constructor
              · rintro (h | ⟨s2, hs2, hj⟩)
                · exact .inl h
                · right
                  rw [hcs2] at hs2
                  rcases List.mem_append.1 hs2 with h | h
                  · exact ⟨s2, List.mem_append_left _ h, hj⟩
                  · rcases List.mem_cons.1 h with rfl | h
                    · exact ⟨_, List.mem_append_right _ List.mem_cons_self, List.mem_cons_of_mem _ hj⟩
                    · exact ⟨s2, List.mem_append_right _ (List.mem_cons_of_mem _ h), hj⟩
              · rintro (h | ⟨s2, hs2, hj⟩)
                · exact .inl h
                · right
                  rcases List.mem_append.1 hs2 with h | h
                  · exact ⟨s2, by rw [hcs2]; simp [h], hj⟩
                  · rcases List.mem_cons.1 h with rfl | h
                    · rcases List.mem_cons.1 hj with rfl | hj
                      · exact absurd rfl hij
                      · exact ⟨s, hsm, hj⟩
                    · exact ⟨s2, by rw [hcs2]; simp [h], hj⟩
          · rw [size_put, ha]
          · intro s2 hs2
            rcases List.mem_append.1 hs2 with h | h
            · exact (hes s2 (by rw [hcs2]; simp [h])).far (hother s2 (.inl h))
            · rcases List.mem_cons.1 h with rfl | h
              · have := (hes s hsm).puts (v := v) ha hko
                cases hxd : x.dst with
                | none => rw [hxd] at this; exact this
                | some d => rw [hxd] at this; exact this
              · exact (hes s2 (by rw [hcs2]; simp [h])).far (hother s2 (.inr h))
          · exact he.far fun d hd => hkill d (List.mem_filterMap.2 ⟨i, hUi, hdi d hd⟩)
          · refine hs'.perm ?_
            rw [List.flatMap_append, List.flatMap_cons]
            show (D :: ((pre.flatMap (·.ol) ++ suf.flatMap (·.ol)) ++ o')).Perm (D :: _)
            refine List.Perm.cons _ ?_
            rw [List.append_assoc]
            exact List.Perm.append_left _ List.perm_append_comm
          · rw [hcs2, cdepths_mid] at hT
            rw [cdepths_mid]
            dsimp only
            omega
end
/-! ### the region -/
def XQ (c : Cx) (ops : Array Oper) (f r : List PHeap) (fin : Env → List PHeap → Prop) : List Nat → Env → List PHeap → Prop
  | [], e, o => fin e o
  | i :: qs, e, o => ∃ x v, ops[i]? = some x ∧ okOper c.N x = true ∧ Quiet c.P ops x e f (c.B :: r) v ∧ XQ c ops f r fin qs (puts e x.dst v) o
def qsOk (ops : Array Oper) (fl : List Nat) : List Nat → Array Bool → Bool
  | [], _ => true
  | i :: qs, l => (Region.ready .any ops l).contains i && Region.free .any ops l i && fl.contains i && qsOk ops fl qs (l.setIfInBounds i true)
def listQ (qs : List Nat) (l : Array Bool) : Array Bool := qs.foldl (fun l i => l.setIfInBounds i true) l
def CTs (c : Cx) (ops : Array Oper) (e : Env) (r : List PHeap) : List (List Nat × Nat × Plan) → List (Env → List PHeap → Prop) → Prop
  | [], [] => True
  | s :: cs, p :: ps => CT c ops e r p s.2.2 [] [] ∧ CTs c ops e r cs ps
  | _, _ => False
/-- The parts, each alone, and what follows when all are done. -/
def XN (c : Cx) (ops : Array Oper) (fl : List Nat) (f : List PHeap) (k : List Item) (r : List PHeap) (cs : List (List Nat × Nat × Plan)) (ds : List Nat) (t : Plan) (e : Env) (o : List PHeap) : Prop :=
  ∃ posts, CTs c ops (kills ds e) (o ++ r) cs posts ∧ FinAll posts (fun el ol => XT c ops fl f k r t (el ++ kills ds e) (ol ++ o))
def cdep (cs : List (List Nat × Nat × Plan)) : Nat := (cs.map fun s => cdepth s.2.2).sum
theorem listQ_size (qs : List Nat) : ∀ l : Array Bool, (listQ qs l).size = l.size := by
  induction qs with
  | nil => intro l; rfl
  | cons i qs ih => intro l; show (listQ qs (l.setIfInBounds i true)).size = _; rw [ih]; simp
theorem listQ_get {qs : List Nat} : ∀ {l : Array Bool} {j : Nat}, (∀ i ∈ qs, i < l.size) → ((listQ qs l).getD j false = true ↔ (l.getD j false = true ∨ j ∈ qs)) := by
  induction qs with
  | nil => intro l j _; simp [listQ]
  | cons i qs ih =>
    intro l j h
    show (listQ qs (l.setIfInBounds i true)).getD j false = true ↔ _
    rw [ih fun k hk => by rw [Array.size_setIfInBounds]; exact h k (List.mem_cons_of_mem _ hk)]
    have hi := h i List.mem_cons_self
    by_cases hij : i = j
    · subst hij
      have : (l.setIfInBounds i true).getD i false = true := by simp [hi]
      simp [this]
    · rw [getD_set_ne false hij, List.mem_cons]
      constructor
      · rintro (h | h)
        · exact .inl h
        · exact .inr (.inr h)
      · rintro (h | h | h)
        · exact .inl h
        · exact absurd h.symm hij
        · exact .inr h
theorem bools_eq {a b : Array Bool} (hs : a.size = b.size) (h : ∀ j, a.getD j false = true ↔ b.getD j false = true) : a = b := by
  refine Array.ext hs fun i h1 h2 => ?_
  have := h i
  simp only [Array.getD_eq_getD_getElem?, Array.getElem?_eq_getElem h1, Array.getElem?_eq_getElem h2, Option.getD_some] at this
  cases ha : a[i] <;> cases hb : b[i] <;> simp_all
theorem memN_false {t : Nat} : ∀ {ks : List Nat}, memN t ks = false → t ∉ ks
  | [], _ => by simp
  | s :: ss, h => by
    rw [memN] at h
    split at h
    · cases h
    · rename_i hb
      rw [List.mem_cons, not_or]
      exact ⟨(fun he => by subst he; rw [Nat.beq_refl] at hb; cases hb), memN_false h⟩
theorem find_killed {ks : List Nat} {e : Env} {d : Nat} (h : d ∈ ks) : find (kills ks e) d = none := by
  cases hf : find (kills ks e) d with
  | none => rfl
  | some v => exact absurd h (memN_false (find_kills hf).1)
section
variable {c : Cx} {k : List Item} {f r : List PHeap} {fl : List Nat} {ops : Array Oper}
theorem CTs.states {e : Env} {rr : List PHeap} : ∀ {cs : List (List Nat × Nat × Plan)} {posts : List (Env → List PHeap → Prop)}, CTs c ops e rr cs posts →
    ∃ ss : List CS, ss.map (·.post) = posts ∧ ss.flatMap (·.C) = cs.flatMap (·.1) ∧ ss.map (·.z) = cs.map (·.2.1) ∧ ss.flatMap (·.ol) = [] ∧ cdepths ss = cdep cs ∧
      ∀ s ∈ ss, s.dn = [] ∧ s.el = [] ∧ CT c ops e rr s.post s.p s.el s.ol ∧ (s.C, s.z, s.p) ∈ cs
  | [], [], _ => ⟨[], rfl, rfl, rfl, rfl, rfl, (fun s h => absurd h List.not_mem_nil)⟩
  | s :: cs, p :: ps, h => by
    obtain ⟨ss, h1, h2, h3, h4, h5, h6⟩ := CTs.states h.2
    refine ⟨⟨s.1, s.2.1, s.2.2, [], [], [], p⟩ :: ss, by rw [List.map_cons, h1], by rw [List.flatMap_cons, List.flatMap_cons, h2], by rw [List.map_cons, List.map_cons, h3], by rw [List.flatMap_cons, h4]; rfl, ?_, fun x hx => ?_⟩
    · unfold cdepths cdep at h5 ⊢
      rw [List.map_cons, List.map_cons, List.sum_cons, List.sum_cons, h5]
    · rcases List.mem_cons.1 hx with rfl | hx
      · exact ⟨rfl, rfl, h.1, List.mem_cons_self⟩
      · obtain ⟨a, b, d, e⟩ := h6 x hx
        exact ⟨a, b, d, List.mem_cons_of_mem _ e⟩
  | [], _ :: _, h => h.elim
  | _ :: _, [], h => h.elim
theorem xq_sound {D : PHeap} {Q : Array Value → World → Prop} {fin : Env → List PHeap → Prop} (hsel : Region.noSelect ops = true) (M : Nat) :
    ∀ (qs : List Nat) (n : Nat) (l : Array Bool) (e : Env) (o : List PHeap) (a : Array Value) (w : World), qsOk ops fl qs l = true → qs.length + M ≤ n → XQ c ops f r fin qs e o → a.size = c.N → ERel e a → Sep (D :: o) (c.B :: r) w → Sf f (c.B :: r) w →
      (∀ n e a w, M ≤ n → fin e o → a.size = c.N → ERel e a → Sep (D :: o) (c.B :: r) w → Sf f (c.B :: r) w → Any c.P ops (Sf f (c.B :: r)) fl Q n (listQ qs l) a w) → Any c.P ops (Sf f (c.B :: r)) fl Q n l a w
  | [], n, l, e, o, a, w, _, hn, hX, ha, he, hs, hS, hfin => hfin n e a w (by simpa using hn) hX ha he hs hS
  | i :: qs, n, l, e, o, a, w, hok, hn, hX, ha, he, hs, hS, hfin => by
    simp only [qsOk, Bool.and_eq_true] at hok
    obtain ⟨⟨⟨hr, hf⟩, hfl⟩, hok'⟩ := hok
    obtain ⟨x, v, hx, hko, hq, hX'⟩ := hX
    simp only [List.length_cons] at hn
    obtain ⟨m, rfl⟩ : ∃ m, n = m + 1 := ⟨n - 1, by omega⟩
    refine any_first hx (Region.noSelect_spec hsel) (by simpa using hfl) m l a w (Region.free_spec hx hf) (by simpa using hr) (fun w' hw' => hq a w' he hw') hS ?_
    exact xq_sound hsel M qs m _ _ o _ w hok' (by omega) hX' (by rw [size_put, ha]) (he.puts ha hko) hs hS hfin
def drawOk (ops : Array Oper) (fl qs : List Nat) (cs : List (List Nat × Nat × Plan)) (ds : List Nat) (t : Plan) : Bool :=
  let l0 := Array.replicate ops.size false
  let L0 := listQ qs l0
  Region.noSelect ops && qsOk ops fl qs l0 && netOk ops L0 cs && (dstsOf ops (cs.flatMap (·.1))).all (fun d => ds.contains d) && t.ok ops fl (listQ (cs.flatMap (·.1)) L0) [] && Nat.ble (qs.length + (cdep cs + t.depth)) ops.size
theorem XK.drawNet {id : Nat} {l : List Oper} {e : Env} {o : List PHeap} (fl : List Nat) (f : List PHeap) (qs : List Nat) (cs : List (List Nat × Nat × Plan)) (ds : List Nat) (t : Plan) (hmix : c.P.follows .mixedOrders = true) (hl : l.all (okOper c.N) = true)
    (hok : drawOk l.toArray fl qs cs ds t = true) (hf : AllIn f o [])
    (h : XQ c l.toArray f r (XN c l.toArray fl f k r cs ds t) qs e o) : XK c (.code (.region id l.toArray true) :: k) e o r := fun D dd a w cs0 ha he hD hs => by
  unfold drawOk at hok
  simp only [Bool.and_eq_true] at hok
  obtain ⟨⟨⟨⟨⟨hsel, hqs⟩, hnet⟩, hds⟩, htok⟩, hdep⟩ := hok
  have hdep := Nat.le_of_ble_eq_true hdep
  simp only [List.size_toArray] at hqs hnet htok hdep
  have hs1 : Sep (D :: o) (c.B :: r) { w with drawn := w.drawn + 1 } := ⟨hs.pw, hs.dr, hs.so, hs.sr, hs.no, hs.sm⟩
  have hfo : ∀ g ∈ f, g ∈ o := fun g hg => (hf.pf g hg).elim (fun h => h) (fun h => by cases h)
  have hA : Any c.P l.toArray (Sf f (c.B :: r)) fl (fun a' w' => ∀ cs, ∃ fr w'', c.E fr w'' ∧ Steps c.P (lone (mk c.f c.rd a' (marks dd) k) cs w') (lone fr cs w'')) l.length (Array.replicate l.length false) a { w with drawn := w.drawn + 1 } := by
    refine xq_sound hsel (cdep cs + t.depth) qs l.length _ e o a _ hqs (by omega) h ha he hs1 ⟨fun g hg => hs1.so g (List.mem_cons_of_mem _ (hfo g hg)), hs1.sr⟩ ?_
    intro n e1 a1 w1 hn1 ⟨posts, hC, hF⟩ ha1 he1 hs2 hSf
    obtain ⟨ss, p1, p2, p3, p4, p5, p6⟩ := hC.states
    simp only [netOk, Bool.and_eq_true, List.all_eq_true] at hnet
    obtain ⟨⟨⟨hparts, hnd⟩, hdd⟩, hrest⟩ := hnet
    have hnd := nodupB_iff hnd
    have hdd := nodupB_iff hdd
    have hL0 : (listQ qs (Array.replicate l.length false)).size = l.toArray.size := by rw [listQ_size]; simp
    have hkill : ∀ d ∈ dstsOf l.toArray (cs.flatMap (·.1)), find (kills ds e1) d = none := fun d hd => find_killed (by
      have := (List.all_eq_true.1 hds) d hd
      simpa using this)
    have hek : ERel (kills ds e1) a1 := fun t v hv => he1 t v (find_kills hv).2
    have hq := List.pairwise_cons.1 hs2.pw
    refine net_sound (U := cs.flatMap (·.1)) (zs := cs.map (·.2.1)) (T := t.depth) (o := o) hnd hdd hkill hL0 ?_ hfo hs2.pw (fun g hg => hs2.no g (List.mem_cons_of_mem _ hg)) (fun g hg => hs2.dr g (List.mem_cons_of_mem _ hg)) hF ?_ n ss _ a1 w1 ?_ p2 p3 p1 ⟨hL0, fun j => ?_⟩ ha1 ?_ hek ?_ (by rw [p5]; exact hn1)
    · intro i hi
      have := hrest i (List.mem_range.2 (by simpa using hi))
      simp only [Bool.or_eq_true, List.any_eq_true, List.all_eq_true, Bool.and_eq_true, Bool.not_eq_true'] at this
      rcases this with ((h1 | h1) | ⟨j, hj, h2, h3⟩) | h1
      · exact .inl h1
      · exact .inr (.inl (by simpa using h1))
      · exact .inr (.inr (.inl ⟨j, hj, h2, by simpa using h3⟩))
      · refine .inr (.inr (.inr fun z hz => ?_))
        obtain ⟨s, hs, rfl⟩ := List.mem_map.1 hz
        simpa using h1 s hs
    · intro n l2 a2 w2 el ol hX hT hl2 hg ha2 he2 hs3
      have hall : ∀ i ∈ cs.flatMap (·.1), i < (listQ qs (Array.replicate l.length false)).size := fun i hi => by
        obtain ⟨s, hs, his⟩ := List.mem_flatMap.1 hi
        have := (hparts s hs).2
        simp only [usesC, Bool.and_eq_true, List.all_eq_true] at this
        have := (this.2 i his).1.1.1
        rw [Nat.blt_eq] at this
        rw [hL0]; exact this
      have hl3 : l2 = listQ (cs.flatMap (·.1)) (listQ qs (Array.replicate l.length false)) := by
        refine bools_eq (by rw [hl2, listQ_size, hL0]) fun j => ?_
        rw [hg j, listQ_get hall]
      subst hl3
      exact plan_sound (D := D) (Q := fun a' w' => ∀ cs, ∃ fr w'', c.E fr w'' ∧ Steps c.P (lone (mk c.f c.rd a' (marks dd) k) cs w') (lone fr cs w'')) hsel
        (fun e o hX a w ha he hs cs => hX D dd a w cs ha he hD hs) t n _ [] _ _ a2 w2 htok hT hX ha2 he2 hs3 (.inr ⟨fun g hg => hs3.so g (List.mem_cons_of_mem _ (List.mem_append_right _ (hfo g hg))), hs3.sr⟩) (fun i hi => by cases hi)
    · intro s hs
      obtain ⟨q1, q2, q3, q4⟩ := p6 s hs
      obtain ⟨r1, r2⟩ := hparts _ q4
      refine ⟨by rw [q1]; exact r1, r2, (fun i hi => by rw [q1] at hi; exact absurd hi List.not_mem_nil), (fun i hi => by rw [q1] at hi; exact absurd hi List.not_mem_nil), q3, fun d hd _ => ?_⟩
      rw [q2]; exact hkill d hd
    · constructor
      · exact fun h => .inl h
      · rintro (h | ⟨s, hs, hj⟩)
        · exact h
        · rw [(p6 s hs).1] at hj; cases hj
    · intro s hs
      rw [(p6 s hs).2.1]; exact hek
    · rw [p4]
      exact Sep.toRead (ol := []) hs2
  have hnd : ∀ (i : Nat) (x : Oper), l.toArray[i]? = some x → noDefer x = true := fun i x hx => by
    have := List.all_eq_true.1 hl x (by
      rw [List.getElem?_toArray] at hx
      exact List.mem_of_getElem? hx)
    unfold okOper at this
    simp only [Bool.and_eq_true] at this
    exact this.1
  obtain ⟨a', w', hQ, st⟩ := any_steps (f := c.f) (rd := c.rd) (ds := marks dd) (k := k) (cs := cs0) hnd l.length (w.tape w.drawn (.order c.f id)) _ a _ hA
  obtain ⟨fr, w'', hE, st'⟩ := hQ cs0
  refine ⟨fr, w'', hE, .head step_region_draw ?_⟩
  have hsch : Region.schedule (c.P.follows .mixedOrders) l.toArray (w.tape w.drawn (.order c.f id)) =
      Region.linearise.go .any l.toArray l.length (w.tape w.drawn (.order c.f id)) (Array.replicate l.length false) [] := by
    simp [Region.schedule, hmix, Region.linearise]
  rw [hsch]
  exact Steps.trans st st'
end
end Go.X

/- Rules for the parts of a drawn region. No condition. -/
set_option linter.unusedSimpArgs false
set_option linter.unusedVariables false
namespace Go.X
section
variable {c : Cx} {ops : Array Oper} {e el : Env} {ol r : List PHeap} {post : Env → List PHeap → Prop} {i0 d : Nat} {ty : TypeId} {pos : String} {aft : Array Edge} {bb : Bool} {tt uu : Plan}
variable {α : Type} {enc : α → List Value} {sz : Nat} {h : PHeap} {xs : List α} {v : Value}
theorem CT.done (h : post el ol) : CT c ops e r post .done el ol := h
theorem CT.stop : CT c ops e r post .stop el ol := trivial
theorem CT.s {op : Op} {g : Option (Nat × Bool)} {Ψ : Value → List PHeap → Prop} (hx : ops[i0]? = some ⟨some d, op, ty, pos, aft, g⟩) (hok : okOper c.N ⟨some d, op, ty, pos, aft, g⟩ = true) (s : Stp c.P ops ⟨some d, op, ty, pos, aft, g⟩ (el ++ e) ol (c.B :: r) Ψ)
    (h : ∀ v o', Ψ v o' → CT c ops e r post tt ((d, some v) :: el) o') (hu : CT c ops e r post uu el ol) : CT c ops e r post (.br i0 bb tt uu) el ol := ⟨⟨_, Ψ, hx, hok, s, fun v o' hΨ => h v o' hΨ⟩, hu⟩
theorem CT.s0 {op : Op} {g : Option (Nat × Bool)} {Ψ : Value → List PHeap → Prop} (hx : ops[i0]? = some ⟨none, op, ty, pos, aft, g⟩) (hok : okOper c.N ⟨none, op, ty, pos, aft, g⟩ = true) (s : Stp c.P ops ⟨none, op, ty, pos, aft, g⟩ (el ++ e) ol (c.B :: r) Ψ)
    (h : ∀ v o', Ψ v o' → CT c ops e r post tt el o') (hu : CT c ops e r post uu el ol) : CT c ops e r post (.br i0 bb tt uu) el ol := ⟨⟨_, Ψ, hx, hok, s, fun v o' hΨ => h v o' hΨ⟩, hu⟩
theorem CT.qs {op : Op} {g : Option (Nat × Bool)} {v : Value} (hi : ops[i0]? = some ⟨some d, op, ty, pos, aft, g⟩) (hok : okOper c.N ⟨some d, op, ty, pos, aft, g⟩ = true)
    (q : Quiet c.P ops ⟨some d, op, ty, pos, aft, g⟩ (el ++ e) ol (c.B :: r) v) (hn : CT c ops e r post tt ((d, some v) :: el) ol) (hu : CT c ops e r post uu el ol) : CT c ops e r post (.br i0 bb tt uu) el ol :=
  CT.s hi hok q.stp (fun _ _ ⟨hv, ho⟩ => by subst hv ho; exact hn) hu
theorem CT.lit {t el1 : TypeId} [u : Und c.P t (.slice el1)] [z : TySize c.P el1 sz] {zs : List Value} [zz : Zero c.P el1 zs] {n : Nat} {l : List (Nat × Operand)} (zl cs : List Value) (xs : List α) (enc : α → List Value)
    (hi : ops[i0]? = some ⟨some d, .buildSlice t n l.toArray, ty, pos, aft, none⟩) (hok : okOper c.N ⟨some d, .buildSlice t n l.toArray, ty, pos, aft, none⟩ = true)
    (hzs : zs.length = sz) (hsz : Nat.blt 0 sz = true) (hn : Nat.ble (n * sz) 16777216 = true) (hzl : (List.replicate n zs).flatten = zl) (hf : Fill (el ++ e) (fun i => some (i * sz, sz)) l zl cs)
    (henc : ∀ x, (enc x).length = sz) (hcs : xs.flatMap enc = cs) (hxn : xs.length = n) (ho : Ones cs) (hle : Nat.ble n 16777216 = true)
    (hnx : ∀ v' h', OArr v' enc sz el1 h' xs → CT c ops e r post tt ((d, some v') :: el) (h' :: ol)) (hu : CT c ops e r post uu el ol) : CT c ops e r post (.br i0 bb tt uu) el ol :=
  CT.s hi hok ((Makes.lit cs hzs hsz hn (by rw [hzl]; exact hf)).stp _ _) (fun v' o' ⟨b, hv, ho'⟩ => by subst hv ho'; exact hnx _ _ (OArr.lit xs enc henc hcs hxn ho hle)) hu
theorem CT.make {t el1 : TypeId} [u : Und c.P t (.slice el1)] [z : TySize c.P el1 sz] {zs : List Value} [zz : Zero c.P el1 zs] {by' : Nat} [tb : TyBytes c.P el1 by'] {x y : Operand} {kk k' : IntKind} {n n' : Int} {i : Nat}
    (enc : α → List Value) (x0 : α) (hi : ops[i0]? = some ⟨some d, .makeSlice t x y, ty, pos, aft, none⟩) (hok : okOper c.N ⟨some d, .makeSlice t x y, ty, pos, aft, none⟩ = true)
    (hx : ev (el ++ e) x = some (.int kk n)) (hy : ev (el ++ e) y = some (.int k' n')) (hnn : n = n') [ix : Idx n i] (h0 : 0 ≤ n) (h1 : n ≤ 68719476736)
    (henc : ∀ x, (enc x).length = sz) (hz : enc x0 = zs) (hsz : Nat.blt 0 sz = true) (hby : Nat.ble by' 128 = true) (ho : Ones (enc x0))
    (hnx : ∀ v' h', OArr v' enc sz el1 h' (List.replicate i x0) → CT c ops e r post tt ((d, some v') :: el) (h' :: ol)) (hu : CT c ops e r post uu el ol) : CT c ops e r post (.br i0 bb tt uu) el ol :=
  CT.s hi hok (Stp.make enc x0 hx hy hnn h0 h1 henc hz hsz hby ho) (fun v' _ ⟨h', hO, h2⟩ => by subst h2; exact hnx v' h' hO) hu
theorem CT.append {t0 t1 el0 el1 : TypeId} [u : Und c.P t0 (.slice el0)] [u1 : Und c.P t1 (.slice el1)] [z : TySize c.P el0 sz] {zs : List Value} [zz : Zero c.P el0 zs] {by' : Nat} [tb : TyBytes c.P el0 by']
    {x y : Operand} {v2 : Value} {h2 : PHeap} {ys : List α} {o1 : List PHeap} (hi : ops[i0]? = some ⟨some d, .call ⟨.builtin .append, #[x, y], #[t0, t1]⟩, ty, pos, aft, none⟩)
    (hok : okOper c.N ⟨some d, .call ⟨.builtin .append, #[x, y], #[t0, t1]⟩, ty, pos, aft, none⟩ = true) (hx : ev (el ++ e) x = some v) (hy : ev (el ++ e) y = some v2) [s : OArr v enc sz el0 h xs] [t : Take h ol o1] [s2 : Arr v2 enc sz h2 ys] [m : InM h2 o1 (c.B :: r)]
    (hzs : zs.length = sz) (hby : Nat.ble by' 128 = true) (hn : xs.length + ys.length ≤ 68719476736)
    (hnx : ∀ v' h', OArr v' enc sz el0 h' (xs ++ ys) → CT c ops e r post tt ((d, some v') :: el) (h' :: o1)) (hu : CT c ops e r post uu el ol) : CT c ops e r post (.br i0 bb tt uu) el ol :=
  CT.s hi hok (Stp.append hx hy hzs hby hn) (fun v' _ ⟨h', hO, h2⟩ => by subst h2; exact hnx v' h' hO) hu
theorem CT.alloc {t : TypeId} {zs : List Value} [z : Zero c.P t zs] (hi : ops[i0]? = some ⟨some d, .alloc t, ty, pos, aft, none⟩) (hok : okOper c.N ⟨some d, .alloc t, ty, pos, aft, none⟩ = true)
    (hn : ∀ b, CT c ops e r post tt ((d, some (ptr b 0)) :: el) (blk b zs t :: ol)) (hu : CT c ops e r post uu el ol) : CT c ops e r post (.br i0 bb tt uu) el ol :=
  CT.s hi hok (Makes.alloc.stp _ _) (fun v' o' ⟨b, hv, ho'⟩ => by subst hv ho'; exact hn b) hu
theorem CT.call {g : FuncId} {x : Operand} {l : List Operand} {tys : Array TypeId} {fst vs cap A : List Value} {Hm Hr : List PHeap} {R : Value → List PHeap → Prop} {o1 : List PHeap}
    (hi : ops[i0]? = some ⟨some d, .call ⟨.value x, l.toArray, tys⟩, ty, pos, aft, none⟩) (hok : okOper c.N ⟨some d, .call ⟨.value x, l.toArray, tys⟩, ty, pos, aft, none⟩ = true)
    (hc : ∀ args w, (callFunc g args).run c.P w = .ok (.enter g args) w) (hx : ev (el ++ e) x = some (.func (.func g) fst.toArray cap.toArray)) (hl : evs (el ++ e) l = some vs) (hA : fst ++ vs ++ cap = A)
    (hS : Spec c.P g A.toArray Hm Hr R) [t : Takes Hm ol o1] [al : AllIn Hr o1 (c.B :: r)] (h : ∀ v hs, R v hs → CT c ops e r post tt ((d, some v) :: el) (hs ++ o1)) (hu : CT c ops e r post uu el ol) :
    CT c ops e r post (.br i0 bb tt uu) el ol := CT.s hi hok (Stp.call hc hx hl hA hS) (fun v o2 ⟨hs, hR, h2⟩ => by subst h2; exact h v hs hR) hu
end
section
variable {c : Cx} {ops : Array Oper} {fl : List Nat} {f r : List PHeap} {k : List Item} {e : Env} {o : List PHeap} {qs : List Nat} {fin : Env → List PHeap → Prop}
theorem XQ.nil (h : fin e o) : XQ c ops f r fin [] e o := h
theorem XQ.q {i d : Nat} {op : Op} {ty : TypeId} {pos : String} {aft : Array Edge} {g : Option (Nat × Bool)} {v : Value} (hx : ops[i]? = some ⟨some d, op, ty, pos, aft, g⟩) (hok : okOper c.N ⟨some d, op, ty, pos, aft, g⟩ = true)
    (q : Quiet c.P ops ⟨some d, op, ty, pos, aft, g⟩ e f (c.B :: r) v) (h : XQ c ops f r fin qs ((d, some v) :: e) o) : XQ c ops f r fin (i :: qs) e o := ⟨_, v, hx, hok, q, h⟩
theorem XN.intro {cs : List (List Nat × Nat × Plan)} {ds : List Nat} {t : Plan} (posts : List (Env → List PHeap → Prop)) (h : CTs c ops (kills ds e) (o ++ r) cs posts) (hf : FinAll posts (fun el ol => XT c ops fl f k r t (el ++ kills ds e) (ol ++ o))) : XN c ops fl f k r cs ds t e o := ⟨posts, h, hf⟩
theorem CTs.nil {rr : List PHeap} : CTs c ops e rr [] [] := trivial
theorem CTs.cons {rr : List PHeap} {s : List Nat × Nat × Plan} {cs : List (List Nat × Nat × Plan)} {p : Env → List PHeap → Prop} {ps : List (Env → List PHeap → Prop)} (h : CT c ops e rr p s.2.2 [] []) (hs : CTs c ops e rr cs ps) : CTs c ops e rr (s :: cs) (p :: ps) := ⟨h, hs⟩
end

/-! ### what a part leaves -/
/-- Whatever e knows, e' knows. -/
def Le (e e' : Env) : Prop := ∀ t u, find e t = some u → find e' t = some u
theorem Le.erel {e e' : Env} (h : Le e e') {a : Array Value} (ha : ERel e' a) : ERel e a := fun t v hv => ha t v (h t v hv)
theorem Le.puts {e e' : Env} (h : Le e e') (d : Option Tmp) (v : Value) : Le (X.puts e d v) (X.puts e' d v) := by
  cases d with
  | none => exact h
  | some d =>
    intro t u hu
    simp only [X.puts, find] at hu ⊢
    split
    · rename_i hb; simp only [hb] at hu; exact hu
    · rename_i hb; simp only [hb] at hu; exact h t u hu
theorem XT.mono {c : Cx} {ops : Array Oper} {fl : List Nat} {f : List PHeap} {k : List Item} {r : List PHeap} : ∀ {p : Plan} {e e' : Env} {o : List PHeap}, Le e e' → XT c ops fl f k r p e o → XT c ops fl f k r p e' o
  | .done, e, e', o, h, hx => XK.weaken (e' := e) (o' := o) (r' := r) hx (fun a ha => h.erel ha) (fun D w hs => hs)
  | .q i t, e, e', o, h, ⟨x, v, h1, h2, h3, h4⟩ => ⟨x, v, h1, h2, fun a w ha hr => h3 a w (h.erel ha) hr, XT.mono (h.puts x.dst v) h4⟩
  | .br i b t u, e, e', o, h, ⟨⟨x, Ψ, h1, h2, h3, h4⟩, h5⟩ => ⟨⟨x, Ψ, h1, h2, fun D a w ha hs => h3 D a w (h.erel ha) hs, fun v o' hΨ => ⟨(h4 v o' hΨ).1, XT.mono (h.puts x.dst v) (h4 v o' hΨ).2⟩⟩, XT.mono h h5⟩
  | .stop, _, _, _, _, _ => trivial
/-- Of a part's variables only one is asked. -/
structure Gives (ks : List Nat) (d : Nat) (v : Value) (el : Env) : Prop where
  has : ∀ R, find (el ++ R) d = some v
  far : ∀ R t, memN t ks = false → find (el ++ R) t = find R t
theorem Gives.of {ks : List Nat} {d : Nat} {v : Value} {tl : Env} (hd : memN d ks = true) (ht : tl.all (fun p => memN p.1 ks) = true) : Gives ks d v ((d, some v) :: tl) where
  has R := by simp [find, Nat.beq_refl]
  far R t hk := by
    have key : ∀ l : Env, l.all (fun p => memN p.1 ks) = true → find (l ++ R) t = find R t := fun l => by
      induction l with
      | nil => intro _; rfl
      | cons p l ih =>
        intro h
        obtain ⟨q, u⟩ := p
        simp only [List.all_cons, Bool.and_eq_true] at h
        rw [List.cons_append, find]
        have : Nat.beq t q = false := by
          cases hb : Nat.beq t q with
          | false => rfl
          | true =>
            rw [Nat.eq_of_beq_eq_true hb, h.1] at hk; cases hk
        rw [this]
        exact ih h.2
    exact key ((d, some v) :: tl) (by rw [List.all_cons, hd, ht]; rfl)
theorem XT.gives {c : Cx} {ops : Array Oper} {fl : List Nat} {f : List PHeap} {k : List Item} {r : List PHeap} {p : Plan} {ks : List Nat} {d : Nat} {v : Value} {el R : Env} {o : List PHeap} (g : Gives ks d v el) (hk : ks.all (fun k => (find R k).isNone) = true)
    (h : XT c ops fl f k r p ((d, some v) :: R) o) : XT c ops fl f k r p (el ++ R) o := by
  refine XT.mono (fun t u hu => ?_) h
  rw [find] at hu
  split at hu
  · rename_i hb
    rw [Nat.eq_of_beq_eq_true hb, g.has R]; exact hu
  · cases hm : memN t ks with
    | false => rw [g.far R t hm]; exact hu
    | true =>
      exfalso
      have : ∀ l : List Nat, memN t l = true → l.all (fun k => (find R k).isNone) = true → False := fun l => by
        induction l with
        | nil => intro h; cases h
        | cons s l ih =>
          intro h1 h2
          rw [List.all_cons, Bool.and_eq_true] at h2
          rw [memN] at h1
          split at h1
          · rename_i hb
            rw [← Nat.eq_of_beq_eq_true hb, hu] at h2
            cases h2.1
          · exact ih h1 h2.2
      exact this ks hm hk
section
variable {c : Cx} {ops : Array Oper} {rest : List Oper} {fl : List Nat} {f : List PHeap} {k : List Item} {e : Env} {o r : List PHeap} {i0 d : Nat} {ty : TypeId} {pos : String} {aft : Array Edge} {bb : Bool} {tt uu : Plan} {α : Type} {sz : Nat}
theorem XT.makeS {t el : TypeId} [u : Und c.P t (.slice el)] [z : TySize c.P el sz] {zs : List Value} [zz : Zero c.P el zs] {by' : Nat} [tb : TyBytes c.P el by'] {x y : Operand} {kk k' : IntKind} {n n' : Int} {i : Nat} {j gt : Nat} {want b : Bool}
    (enc : α → List Value) (x0 : α) (hi : ops[i0]? = some ⟨some d, .makeSlice t x y, ty, pos, aft, some (j, want)⟩) (hok : okOper c.N ⟨some d, .makeSlice t x y, ty, pos, aft, some (j, want)⟩ = true)
    (hj : (ops[j]?).bind (·.dst) = some gt) (hg : find e gt = some (.bool b)) (hb : b = want)
    (hx : ev e x = some (.int kk n)) (hy : ev e y = some (.int k' n')) (hnn : n = n') [ix : Idx n i] (h0 : 0 ≤ n) (h1 : n ≤ 68719476736)
    (henc : ∀ x, (enc x).length = sz) (hz : enc x0 = zs) (hsz : Nat.blt 0 sz = true) (hby : Nat.ble by' 128 = true) (ho : Ones (enc x0))
    (hnx : ∀ v' h', OArr v' enc sz el h' (List.replicate i x0) → Keeps bb f (h' :: o) ∧ XT c ops fl f k r tt ((d, some v') :: e) (h' :: o)) (hu : XT c ops fl f k r uu e o) : XT c ops fl f k r (.br i0 bb tt uu) e o :=
  XT.s hi hok (Stp.want hj hg hb (Stp.make enc x0 hx hy hnn h0 h1 henc hz hsz hby ho)) (fun v' _ ⟨h', hO, h2⟩ => by subst h2; exact hnx v' h' hO) hu
end
end Go.X

/- Two heaps that a call reads are read as one. No condition. -/
set_option linter.unusedVariables false
namespace Go.X
end Go.X

/- One bit more: shifts of one and 'or' of small numbers. No condition. -/
set_option linter.unusedSimpArgs false
set_option linter.unusedVariables false
namespace Go.X
section
variable {P : Program} {ops : Array Oper} {e : Env} {o r : List PHeap} {d : Option Tmp} {ty : TypeId} {pos : String} {aft : Array Edge}
theorem ofInt_toNat {n : Nat} (h : n < 4611686018427387904) : (BitVec.ofInt 64 (n : Int)).toNat = n := by
  rw [BitVec.toNat_ofInt]
  omega
theorem Q.shlOne {t t2 : TypeId} {x y : Operand} {k' : IntKind} {i : Nat} (hx : ev e x = some (.int .i64 1)) (hy : ev e y = some (.int k' (i : Int))) (hi : i < 60) :
    Quiet P ops ⟨d, .binOp .shl t x y t2, ty, pos, aft, none⟩ e o r (.int .i64 ((2 ^ i : Nat) : Int)) := Q.bin hx hy fun w => by
  have e1 : binOp .shl t (.int .i64 1) (.int k' (i : Int)) = Op.shift .shl .i64 1 k' (i : Int) := by simp [binOp]
  rw [e1]
  have hp : 2 ^ i ≤ 2 ^ 60 := Nat.pow_le_pow_right (by decide) (by omega)
  have hb : IntKind.bits .i64 = 64 := rfl
  unfold Op.shift
  rw [if_neg (by omega)]
  simp only [Int.toNat_natCast, hb, Nat.min_eq_left (show i ≤ 64 by omega), Int.one_mul]
  have hw : IntKind.wrap .i64 ((2 : Int) ^ i) = ((2 ^ i : Nat) : Int) := by
    rw [show ((2 : Int) ^ i) = ((2 ^ i : Nat) : Int) by rw [Int.natCast_pow]; rfl]
    generalize 2 ^ i = p at hp
    exact wrap64_of ⟨by omega, by omega⟩
  rw [hw]
  rfl
theorem Q.orN {t t2 : TypeId} {x y : Operand} {m n : Nat} (hx : ev e x = some (.int .i64 (m : Int))) (hy : ev e y = some (.int .i64 (n : Int))) (hm : m < 1152921504606846976) (hn : n < 1152921504606846976) :
    Quiet P ops ⟨d, .binOp .or t x y t2, ty, pos, aft, none⟩ e o r (.int .i64 ((m ||| n : Nat) : Int)) := Q.bin hx hy fun w => by
  have e1 : binOp .or t (.int .i64 (m : Int)) (.int .i64 (n : Int)) = Op.intBits .or .i64 m n := by simp [binOp]
  rw [e1]
  have hor : m ||| n < 2 ^ 60 := Nat.or_lt_two_pow (by omega) (by omega)
  have hb : IntKind.bits .i64 = 64 := rfl
  have hv : IntKind.wrap .i64 (((BitVec.ofInt (IntKind.bits .i64) (m : Int)) ||| (BitVec.ofInt (IntKind.bits .i64) (n : Int))).toNat : Int) = ((m ||| n : Nat) : Int) := by
    show IntKind.wrap .i64 (((BitVec.ofInt 64 (m : Int)) ||| (BitVec.ofInt 64 (n : Int))).toNat : Int) = _
    rw [BitVec.toNat_or, ofInt_toNat (by omega), ofInt_toNat (by omega), wrap64_of ⟨by omega, by omega⟩]
  unfold Op.intBits
  simp only []
  rw [hv]
  rfl
end
end Go.X

/- The library's sort of numbers, by the library's own contract. No condition. -/
set_option linter.unusedSimpArgs false
set_option linter.unusedVariables false
namespace Go.X
open Go.Proofs Go.Shelf Go.Sort
theorem Sep.swapG {h h' : PHeap} {o r : List PHeap} {w w' : World} (s : Sep (h :: o) r w) (d : ∀ x, h x = none → h' x = none) (hb : sub h' w') (hk : ∀ x ob, w.heap[x]? = some ob → h x = none → w'.heap[x]? = some ob) (hm : h'.m = none) (ht : mt w' = mt w) : Sep (h' :: o) r w' where
  pw := by
    obtain ⟨a, b⟩ := List.pairwise_cons.1 s.pw
    exact List.pairwise_cons.2 ⟨fun g hg x => orMap (a g hg x) (d x) id, b⟩
  dr := fun g hg q hq => by
    rcases List.mem_cons.1 hg with rfl | hg
    · exact fun x => orMap (s.dr h List.mem_cons_self q hq x) (d x) id
    · exact s.dr g (List.mem_cons_of_mem _ hg) q hq
  so := fun g hg => by
    rcases List.mem_cons.1 hg with rfl | hg
    · exact hb
    · intro x ob hx
      refine hk x ob (s.so g (List.mem_cons_of_mem _ hg) x ob hx) ?_
      rcases (List.pairwise_cons.1 s.pw).1 g hg x with h1 | h1
      · exact h1
      · rw [hx] at h1; cases h1
  sr := fun g hg x ob hx => by
    refine hk x ob (s.sr g hg x ob hx) ?_
    rcases s.dr h List.mem_cons_self g hg x with h1 | h1
    · exact h1
    · rw [hx] at h1; cases h1
  no := fun g hg => by
    rcases List.mem_cons.1 hg with rfl | hg
    · exact hm
    · exact s.no g (List.mem_cons_of_mem _ hg)
  sm := fun g hg m h => ht.trans (s.sm g hg m h)
theorem flat_encI (xs : List Int) : xs.flatMap encI = xs.map (Value.int .i64) := by
  induction xs with
  | nil => rfl
  | cons a l ih => rw [List.flatMap_cons, ih]; rfl
def sortL (xs : List Int) : List Int := xs.mergeSort fun x y => decide (x ≤ y)
theorem sort_specG {P : Program} {ρ : Ren} (L : Lays.n189 P ρ) (T : TypeId) (v : Value) (h : PHeap) (xs : List Int) [s : OArr v encI 1 T h xs] : Spec P (ρ.f 189) #[v] [h] [] (fun _ hs => ∃ h', hs = [h'] ∧ OArr v encI 1 T h' (sortL xs)) := fun o r w hs hr => by
  obtain ⟨henc, hm, ⟨rfl, rfl, rfl⟩ | ⟨b, c, cs, rfl, rfl, hle, hlen, ht⟩⟩ := s.pf
  · refine (Any.slices_Sort_int_none L none 0 w).mono fun e w' ⟨he, hw⟩ => ⟨_, [emp], he, ⟨emp, rfl, ?_⟩, by rw [hw]; exact hs⟩
    have : sortL [] = [] := by simp [sortL]
    rw [this]; exact s
  · have hh : w.heap[b]? = some (.cells cs.toArray T (0, 0)) := hs.so _ List.mem_cons_self b _ (sing_self _ _)
    have hlt : b < w.heap.size := (Array.getElem?_eq_some_iff.1 hh).1
    have lS : (sortL xs).length = xs.length := List.length_mergeSort _
    rw [Nat.mul_one] at hlen ht
    rw [flat_encI] at ht
    have hcs : ∀ j, (hj : j < xs.length) → cs[j]? = some (.int .i64 xs[j]) := fun j hj => by
      have e := congrArg (·[j]?) ht
      simp only [List.getElem?_take, if_pos hj, List.getElem?_map, List.getElem?_eq_getElem hj, Option.map_some] at e
      exact e
    have hH : Holds (Value.int .i64) w b 0 xs.toArray := fun j hj => by
      have hj : j < xs.length := hj
      rw [Nat.zero_add]
      refine ⟨?_, ?_⟩
      · rw [cell_of_heap hh (hcs j hj)]
        congr 2
        rw [getElem!_pos xs.toArray j hj]; rfl
      · simp [World.frozen?, hh]
    refine (Any.slices_Sort_int L b 0 c xs w hH hlt (by have := hm.1; omega)).mono fun e w' ⟨he, n, os, hw⟩ => ?_
    have hb' : w'.heap[b]? = some (.cells (putCells (Value.int .i64) 0 (sortL xs).toArray cs.toArray) T (0, 0)) := by
      rw [hw]
      show ((w.heap.modify b _) ++ os)[b]? = _
      rw [Array.getElem?_append_left (by simpa using hlt), Array.getElem?_modify, if_pos rfl, hh]; rfl
    have hk : ∀ x ob, w.heap[x]? = some ob → x ≠ b → w'.heap[x]? = some ob := fun x ob hx hne => by
      have hlx : x < w.heap.size := (Array.getElem?_eq_some_iff.1 hx).1
      rw [hw]
      show ((w.heap.modify b _) ++ os)[x]? = _
      rw [Array.getElem?_append_left (by simpa using hlx), Array.getElem?_modify, if_neg (fun h => hne h.symm), hx]
    have hcl : (putCells (Value.int .i64) 0 (sortL xs).toArray cs.toArray).toList.length = c := by
      rw [Array.length_toList, putCells, Array.size_mapIdx]; exact hlen
    refine ⟨_, [blk b (putCells (Value.int .i64) 0 (sortL xs).toArray cs.toArray).toList T], he, ⟨_, rfl, ⟨henc, ⟨by rw [lS]; exact hm.1, fun x hx => hm.2 x (List.mem_mergeSort.1 hx)⟩, .inr ⟨b, c, _, by rw [lS], rfl, by rw [lS]; exact hle, by rw [Nat.mul_one]; exact hcl, ?_⟩⟩⟩, ?_⟩
    · rw [Nat.mul_one, flat_encI]
      refine List.ext_getElem? fun j => ?_
      rw [List.getElem?_take, List.getElem?_map]
      by_cases hj : j < (sortL xs).length
      · rw [if_pos hj, List.getElem?_eq_getElem hj, Array.getElem?_toList, putCells, Array.getElem?_mapIdx, List.getElem?_toArray, hcs j (by omega), Option.map_some, Option.map_some, if_pos ⟨Nat.zero_le _, by simpa using hj⟩, Nat.sub_zero, getElem!_pos _ j hj]; rfl
      · rw [if_neg hj, List.getElem?_eq_none (by omega)]; rfl
    · refine hs.swapG (fun x hx => ?_) (fun x ob hx => ?_) (fun x ob h1 h2 => hk x ob h1 ?_) rfl (by rw [hw]; rfl)
      · unfold blk sing at *; dsimp only at hx ⊢; split at hx
        · cases hx
        · simp [*]
      · obtain ⟨rfl, rfl⟩ := sing_some hx
        rw [hb']
      · rintro rfl
        rw [blk, sing_self] at h2; cases h2
end Go.X

/- Iterators over what has no order: each of n things once; loops over them. No condition. -/
set_option linter.unusedSimpArgs false
set_option linter.unusedVariables false
namespace Go.X
/-- It yields n things, each once, in any order. -/
def ItM (P : Program) (y : Value) (n : Nat) (Y : Nat → List Value) (Hg : List PHeap) : Prop :=
  ∀ (f : Value) (Hr : List PHeap) (Q : List Nat → PHeap → Prop) (X : PHeap → Prop),
    (∀ seen i, i < n → ¬ i ∈ seen → ∀ q, Q seen q → VSpec P f (Y i) [q] Hr (fun v hs => ∃ b q', v = .bool b ∧ hs = [q'] ∧ (b = true → Q (seen ++ [i]) q') ∧ (b = false → X q'))) →
    ∀ q, Q [] q → VSpec P y [f] [q] (Hg ++ Hr) (fun _ hs => ∃ q', hs = [q'] ∧ ((∃ seen, seen.Nodup ∧ (∀ i, i ∈ seen ↔ i < n) ∧ Q seen q') ∨ X q'))
/-- A loop over a function in a frame that is no round. 'I i x': ahead of item i; 'J j x': a round has left the loop by the jump j. -/
theorem XK.rangeM {P : Program} {f : FuncId} {N : Nat} {B : PHeap} {E : Frame → World → Prop} {X : Type} {k : List Item} {e : Env} {o ok r : List PHeap} {x : Operand} {y : Value} {ps : List Tmp} {asn bd : Code} {Hg : List PHeap} {n : Nat} (Y : Nat → List Value)
    (oc : X → List PHeap) (I : List Nat → X → Prop) (J : Code → X → Prop) (x0 : X) (o0 : List PHeap) [rst : Rest o0 o ok] (ho0 : oc x0 = o0) (h0 : I [] x0) (hx : ev e x = some y)
    (hit : ItM P y n Y Hg) [al : AllIn Hg ok (B :: r)] (hps : ps.all (fun p => Nat.blt p N) = true) (hlen : ∀ i, i < n → (Y i).length = ps.length)
    (round : ∀ l rec B' seen i x, i < n → ¬ i ∈ seen → I seen x → XK (rcx P f N l rec B' (RoundR oc (I (seen ++ [i])) J)) [.code asn, .beginRound, .code bd] (pars ps (Y i) e) (rdy l rec :: oc x) (ok ++ r))
    (cont : ∀ x seen, seen.Nodup → (∀ i, i ∈ seen ↔ i < n) → I seen x → XK ⟨P, f, none, N, B, E⟩ k e (oc x ++ ok) r)
    (jump : ∀ j x, J j x → XK ⟨P, f, none, N, B, E⟩ (.code j :: k) e (oc x ++ ok) r) :
    XK ⟨P, f, none, N, B, E⟩ (.code (.rangeFunc x ps.toArray asn bd) :: k) e o r := fun D ds a w cs ha he hD hm => by
  have hm1 : Sep (D :: (o0 ++ ok)) (B :: r) w := rst.wk.sepD hm
  let rec' : Loop := { state := .ready, pending := none, fn := f, tmps := a, params := ps.toArray, assign := asn, body := bd, defers := w.heap.size }
  let l := w.heap.size + 1
  let w1 := (w.alloc (.deferred (some []))).alloc (.loop rec')
  have henter : (Instr.enterLoop f a ps.toArray asn bd none).run P w = .ok (l, [{ target := .collected w.heap.size, args := #[] }]) w1 := run_enterLoop_outer f a ps.toArray asn bd
  have hs1 : Sep (rdy l rec' :: sing w.heap.size (.deferred (some [])) :: D :: (o0 ++ ok)) (B :: r) w1 := by
    have := (hm1.push (.deferred (some []))).push (.loop rec')
    simp only [Array.size_push] at this
    exact this
  let D' := Go.X.join [sing w.heap.size (.deferred (some [])), D]
  have hs2 : Sep (D' :: rdy l rec' :: (o0 ++ ok)) (B :: r) w1 := by
    refine Sep.join (hs := [sing w.heap.size (.deferred (some [])), D]) (hs1.perm ?_)
    exact (List.Perm.swap _ _ _).trans ((List.Perm.swap _ _ _).cons _)
  have hD' : Marked D' (w.heap.size :: ds) := by
    refine ⟨List.nodup_cons.2 ⟨fun hmem => ?_, hD.1⟩, fun b => ?_⟩
    · have := sub_lt (hm.so D List.mem_cons_self) (b := w.heap.size) (o := .deferred (some [])) (by rw [hD.2, if_pos hmem])
      omega
    · simp only [D', Go.X.join, sing, emp, Option.or_none, hD.2 b, List.mem_cons]
      by_cases hb : b = w.heap.size
      · simp [hb]
      · simp [hb]
  have hs3 : Sep (Go.X.join (rdy l rec' :: o0) :: D' :: ok) (B :: r) w1 := Sep.join (hs := rdy l rec' :: o0) (hs2.perm (by
    simp only [List.cons_append]
    exact (List.Perm.swap _ _ _).trans (List.perm_middle.symm.cons _)))
  have hp0 : PD (rdy l rec' :: oc x0) := by
    rw [ho0]
    have hsub : (rdy l rec' :: o0).Sublist (rdy l rec' :: (o0 ++ ok)) := List.Sublist.cons_cons _ (List.sublist_append_left _ _)
    exact ⟨hs2.tail.pw.sublist hsub, fun h hh => hs2.tail.no h (hsub.mem hh)⟩
  have hpsN : ∀ p ∈ ps, p < N := fun p hp => by
    have := List.all_eq_true.1 hps p hp
    rwa [Nat.blt_eq] at this
  have hyield : ∀ seen i, i < n → ¬ i ∈ seen → ∀ q, (∃ x, I seen x ∧ PD (rdy l rec' :: oc x) ∧ q = Go.X.join (rdy l rec' :: oc x)) →
      VSpec P (.func (.yield l) #[] #[]) (Y i) [q] (ok ++ r) (fun v hs => ∃ b q', v = .bool b ∧ hs = [q'] ∧
        (b = true → ∃ x, I (seen ++ [i]) x ∧ PD (rdy l rec' :: oc x) ∧ q' = Go.X.join (rdy l rec' :: oc x)) ∧
        (b = false → ∃ j x, J j x ∧ PD (ovr l rec' (some j) :: oc x) ∧ q' = Go.X.join (ovr l rec' (some j) :: oc x))) := by
    rintro seen i hi hns q ⟨x, hI, hp, rfl⟩
    refine ((VSpec.round (rec := rec') (N := N) (e := e) rfl ha he hpsN (hlen i hi) (fun B' => round l rec' B' seen i x hi hns hI)).joined hp).mono ?_
    rintro v hs ⟨hs', ⟨j, hs'', rfl, rfl, hR⟩, hpw, rfl⟩
    refine ⟨_, _, rfl, rfl, ?_, ?_⟩
    · intro hj
      cases j with
      | some j => cases hj
      | none =>
        obtain ⟨x', h1, rfl⟩ := hR
        exact ⟨x', h1, hpw, rfl⟩
    · intro hj
      cases j with
      | none => cases hj
      | some j =>
        obtain ⟨x', h1, rfl⟩ := hR
        exact ⟨j, x', h1, hpw, rfl⟩
  have hN := hit _ (ok ++ r) _ _ hyield (Go.X.join (rdy l rec' :: o0)) ⟨x0, h0, hp0, by rw [ho0]⟩ (D' :: ok) (B :: r) w1 hs3 (fun h hh => by
    rcases List.mem_append.1 hh with hh | hh
    · exact orMap (al.pf h hh) (List.mem_cons_of_mem _) id
    · rcases List.mem_append.1 hh with hh | hh
      · exact .inl (List.mem_cons_of_mem _ hh)
      · exact .inr (List.mem_cons_of_mem _ hh))
  obtain ⟨v, w', ⟨hs', ⟨q', rfl, hq⟩, hS⟩, st⟩ := step_range (ds := marks ds) (k := k) (cs := cs) henter (ev_rel he hx) hN
  rcases hq with ⟨seen, hnd, hall, x', hI, hpw, rfl⟩ | ⟨j, x', hJ, hpw, rfl⟩
  · obtain ⟨hS2, hb⟩ := Sep.turn (y := .loop { rec' with state := .exhausted, pending := none }) (Sep.split hpw hS)
    obtain ⟨fr, w2, hE, st2⟩ := cont x' seen hnd hall hI D' (w.heap.size :: ds) a _ cs ha he hD' (hS2.tail.perm List.perm_middle)
    exact ⟨fr, w2, hE, Steps.trans st (.head (step_endRange (run_endLoop hb (by simp))) st2)⟩
  · obtain ⟨hS2, hb⟩ := Sep.turn (y := .loop { rec' with state := .exhausted, pending := some j }) (Sep.split hpw hS)
    obtain ⟨fr, w2, hE, st2⟩ := jump j x' hJ D' (w.heap.size :: ds) a _ cs ha he hD' (hS2.tail.perm List.perm_middle)
    exact ⟨fr, w2, hE, Steps.trans st (.head (step_endRange (run_endLoop hb (by simp))) st2)⟩
end Go.X

/- Sorted lists of sums. No condition. -/
set_option linter.unusedVariables false
namespace Go.X
def dd : List Int → List Int
  | [] => []
  | a :: l => if a ∈ dd l then dd l else a :: dd l
theorem dd_mem {a : Int} : ∀ {l : List Int}, a ∈ dd l ↔ a ∈ l
  | [] => Iff.rfl
  | b :: l => by
    rw [dd]
    split
    · rename_i h
      rw [dd_mem, List.mem_cons]
      exact ⟨.inr, fun h2 => h2.elim (fun e => e ▸ dd_mem.1 h) id⟩
    · rw [List.mem_cons, List.mem_cons, dd_mem]
theorem dd_nodup : ∀ l : List Int, (dd l).Nodup
  | [] => List.nodup_nil
  | b :: l => by
    rw [dd]
    split
    · exact dd_nodup l
    · exact List.nodup_cons.2 ⟨‹_›, dd_nodup l⟩
theorem sort_sorted (l : List Int) : (sortL l).Pairwise (fun a b => a ≤ b) := by
  have := List.pairwise_mergeSort (le := fun x y : Int => decide (x ≤ y)) (fun a b c h1 h2 => by simp only [decide_eq_true_eq] at *; omega) (fun a b => by simp only [Bool.or_eq_true, decide_eq_true_eq]; omega) l
  exact pairMap this fun h => by simpa using h
theorem sort_perm (l : List Int) : (sortL l).Perm l := List.mergeSort_perm l _
theorem sort_eq {a b : List Int} (p : a.Perm b) : sortL a = sortL b :=
  List.Perm.eq_of_pairwise (fun x y _ _ h1 h2 => Int.le_antisymm h1 h2) (sort_sorted a) (sort_sorted b) (((sort_perm a).trans p).trans (sort_perm b).symm)
/-- The sums that occur, in order, each with how often. -/
def sumsL (L : List Int) : List PDraw := (sortL (dd L)).map fun p => ⟨p, (L.count p : Nat)⟩
theorem sums_keys {es : List (Int × Value)} {L : List Int} (h : MapIs es L) {seen : List Nat} (hn : seen.Nodup) (ha : ∀ i, i ∈ seen ↔ i < es.length) : sortL (seen.map fun i => (es.getD i default).1) = sortL (dd L) := by
  refine sort_eq ?_
  have p1 : seen.Perm (List.range es.length) := (List.perm_ext_iff_of_nodup hn List.nodup_range).2 fun i => by rw [ha, List.mem_range]
  have p2 := p1.map fun i => (es.getD i default).1
  have e : (List.range es.length).map (fun i => (es.getD i default).1) = es.map Prod.fst := by
    refine List.ext_getElem (by simp) fun i h1 h2 => ?_
    simp only [List.getElem_map, List.getElem_range]
    rw [List.getD_eq_getElem?_getD, List.getElem?_eq_getElem (by simpa using h2)]; rfl
  rw [e] at p2
  refine p2.trans ((List.perm_ext_iff_of_nodup h.nodup (dd_nodup L)).2 fun a => ?_)
  rw [dd_mem]
  exact ⟨fun h2 => by
    obtain ⟨x, hx, rfl⟩ := List.mem_map.1 h2
    exact (h.val x.1 x.2 hx).2, h.all a⟩
theorem sum_keys_len {es : List (Int × Value)} {L : List Int} (h : MapIs es L) : (sortL (dd L)).length = es.length := by
  rw [(sort_perm _).length_eq]
  have : (es.map Prod.fst).Perm (dd L) := (List.perm_ext_iff_of_nodup h.nodup (dd_nodup L)).2 fun a => by
    rw [dd_mem]
    exact ⟨fun h2 => by
      obtain ⟨x, hx, rfl⟩ := List.mem_map.1 h2
      exact (h.val x.1 x.2 hx).2, h.all a⟩
  rw [← this.length_eq, List.length_map]
def sumsG (l : List PJob) : List PDraw × Int × Int := if (listedG l).2 ≠ 0 then ([], 0, (listedG l).2) else (sumsL (combos l), (listedG l).1, 0)
theorem few_keys {es : List (Int × Value)} {L : List Int} (h : MapIs es L) {n : Nat} (hL : ∀ x ∈ L, 0 ≤ x ∧ x < n) : es.length ≤ n := by
  have hs : (es.map fun p => p.1.toNat).Nodup := by
    have : (es.map fun p => p.1.toNat) = (es.map Prod.fst).map Int.toNat := by rw [List.map_map]; rfl
    rw [this]
    unfold List.Nodup
    rw [List.pairwise_map]
    have hn := h.nodup
    unfold List.Nodup at hn
    refine hn.imp_of_mem fun {a b} ha hb hab he => hab ?_
    obtain ⟨x, hx, rfl⟩ := List.mem_map.1 ha
    obtain ⟨y, hy, rfl⟩ := List.mem_map.1 hb
    have h1 := hL _ (h.val x.1 x.2 hx).2
    have h2 := hL _ (h.val y.1 y.2 hy).2
    omega
  have := seen_few (n := n) hs (fun i hi => by
    obtain ⟨x, hx, rfl⟩ := List.mem_map.1 hi
    have h1 := hL _ (h.val x.1 x.2 hx).2
    omega)
  rwa [List.length_map] at this
end Go.X

/- The example, and tasks made of digits. No condition. -/
set_option linter.unusedVariables false
namespace Go.X
def jobX : PJob := ⟨1, 1, 1, [⟨100, 3⟩, ⟨200, 1⟩], 0, 5⟩
def taskX : PTask := ⟨[jobX, jobX, jobX], [⟨3, 3, 3, 400, 0⟩], ⟨1, 10⟩⟩
theorem sortL_is {a b : List Int} (p : a.Perm b) (s : b.Pairwise (fun x y => x ≤ y)) : sortL a = b :=
  List.Perm.eq_of_pairwise (fun x y _ _ h1 h2 => Int.le_antisymm h1 h2) (sort_sorted a) s ((sort_perm a).trans p)
theorem job_sums : sumsG [jobX, jobX] = ([⟨200, 9⟩, ⟨300, 6⟩, ⟨400, 1⟩], 16, 0) := by
  rw [sumsG, if_neg (by decide), sumsL, sortL_is (b := [200, 300, 400]) (by decide) (by decide)]; decide
theorem job_chance : chanceG [jobX, jobX] 300 = (⟨1, 16⟩, 0) := by decide
theorem task_ready : readyG taskX = 0 := by decide
set_option maxRecDepth 100000 in
theorem task_best : (bestP taskX).1 = [0, 0, -1] ∧ (bestP taskX).2.1 = 10 := by decide +kernel
set_option maxRecDepth 100000 in
theorem task_verify : verifyP taskX (bestP taskX).1 (bestP taskX).2.1 (bestP taskX).2.2 = 0 := by decide +kernel
/-- Draws that Made writes. -/
structure MkD (k : Nat) (p : Int) (ds : List PDraw) : Prop where
  len : ds.length = k
  p1 : 0 ≤ p ∧ p ≤ 14 + 15 * k
  at' : ∀ i, i < k → (0 ≤ (ds.getD i default).power ∧ (ds.getD i default).power < p) ∧ (1 ≤ (ds.getD i default).count ∧ (ds.getD i default).count ≤ 4) ∧ (0 < i → (ds.getD (i - 1) default).power < (ds.getD i default).power)
theorem snoc_getP {α : Type} [Inhabited α] (l : List α) (x : α) (i : Nat) : (l ++ [x]).getD i default = if i < l.length then l.getD i default else if i = l.length then x else default := by
  rw [List.getD_eq_getElem?_getD, List.getElem?_append]
  split
  · rw [List.getD_eq_getElem?_getD]
  · split
    · rename_i h1 h2; subst h2; simp
    · rename_i h1 h2
      rw [List.getElem?_eq_none (by simp; omega)]; rfl
theorem MkD.nil {p : Int} (h : 0 ≤ p ∧ p ≤ 14) : MkD 0 p [] := ⟨rfl, by omega, fun i hi => absurd hi (Nat.not_lt_zero i)⟩
theorem MkD.snoc {k : Nat} {p q c : Int} {ds : List PDraw} (m : MkD k p ds) (hc : 1 ≤ c ∧ c ≤ 4) (hq : p < q ∧ q ≤ p + 15) : MkD (k + 1) q (ds ++ [⟨p, c⟩]) where
  len := by rw [List.length_append, m.len]; rfl
  p1 := by have := m.p1; omega
  at' := fun i hi => by
    have pp := m.p1
    have l := m.len
    rw [snoc_getP, snoc_getP, l]
    by_cases h : i < k
    · have a := m.at' i h
      rw [if_pos h]
      refine ⟨⟨a.1.1, by omega⟩, a.2.1, fun h0 => ?_⟩
      rw [if_pos (by omega)]; exact a.2.2 h0
    · rw [if_neg h, if_pos (by omega)]
      refine ⟨⟨pp.1, hq.1⟩, hc, fun h0 => ?_⟩
      rw [if_pos (by omega)]
      exact (m.at' (i - 1) (by omega)).1.2
structure MkJob (j : PJob) : Prop where
  ok : PJobOk j
  few : j.draws.length ≤ 3
  cnt : ∀ i, i < j.draws.length → (j.draws.getD i default).count ≤ 4
theorem MkJob.total {j : PJob} (h : MkJob j) : 1 ≤ totalJ j ∧ totalJ j ≤ 12 := by
  have a := (total_rng h.ok).1
  have b := sum_le_mul (l := j.draws.map (·.count)) (m := 4) fun x hx => by
    obtain ⟨d, hd, rfl⟩ := List.mem_map.1 hx
    obtain ⟨i, hi, rfl⟩ := List.getElem_of_mem hd
    have := h.cnt i hi
    rwa [List.getD_eq_getElem?_getD, List.getElem?_eq_getElem hi] at this
  rw [List.length_map] at b
  have := h.few
  unfold totalJ at *; omega
theorem mk_prod {l : List PJob} (h : ∀ i, i < l.length → MkJob (l.getD i default)) : ∀ i, i ≤ l.length → 1 ≤ prodJ l i ∧ prodJ l i ≤ 12 ^ i
  | 0, _ => ⟨Int.le_refl _, Int.le_refl _⟩
  | i + 1, hi => by
    have a := mk_prod h i (by omega)
    have b := (h i (by omega)).total
    have c1 : 1 * 1 ≤ prodJ l i * totalJ (l.getD i default) := Int.mul_le_mul a.1 b.1 (by omega) (by omega)
    have c2 : prodJ l i * totalJ (l.getD i default) ≤ 12 ^ i * 12 := Int.mul_le_mul a.2 b.2 (by omega) (by omega)
    rw [prodJ, Int.pow_succ]; omega
theorem mk_list {l : List PJob} (h : ∀ i, i < l.length → MkJob (l.getD i default)) (h7 : l.length ≤ 7) : ListOk l := by
  refine ⟨by omega, fun i hi => (h i hi).ok, fun i hi => ?_⟩
  have a := (mk_prod h i hi).2
  have b : (12 : Nat) ^ i ≤ 12 ^ 7 := Nat.pow_le_pow_right (by decide) (by omega)
  have c : ((12 ^ i : Nat) : Int) = (12 : Int) ^ i := by rw [Int.natCast_pow]; rfl
  have d : (12 : Nat) ^ 7 = 35831808 := by decide
  omega
structure MkTask (t : PTask) : Prop where
  job : ∀ i, i < t.jobs.length → MkJob (t.jobs.getD i default)
  few : t.jobs.length ≤ 7
  rk : 1 ≤ t.racks.length ∧ t.racks.length ≤ 3
  rack : ∀ i, i < t.racks.length → rackR (t.racks.getD i default) = true
  most : chanceR t.most = true
theorem MkTask.ok {t : PTask} (h : MkTask t) : TaskOk t := ⟨by have := h.few; omega, h.rk.1, by have := h.rk; omega, fun i hi => (h.job i hi).ok, h.rack, h.most⟩
theorem MkTask.lok {t : PTask} (h : MkTask t) : ListOk t.jobs := mk_list h.job h.few
theorem MkTask.ready {t : PTask} (h : MkTask t) : readyG t = 0 := by
  rw [readyG, if_neg (by rw [pcheck_iff.2 h.ok]; decide)]; exact listed_ok.2 h.lok
theorem each_snoc {α : Type} [Inhabited α] {Q : α → Prop} {l : List α} {x : α} (h : ∀ i, i < l.length → Q (l.getD i default)) (hx : Q x) : ∀ i, i < (l ++ [x]).length → Q ((l ++ [x]).getD i default) := fun i hi => by
  rw [List.length_append] at hi
  rw [snoc_getP]
  by_cases hc : i < l.length
  · rw [if_pos hc]; exact h i hc
  · rw [if_neg hc, if_pos (by simp at hi; omega)]; exact hx
end Go.X

/- Chances grow with the list; what fits still fits with less. No condition. -/
set_option linter.unusedVariables false
namespace Go.X
theorem mul_le_cancel {a b c : Int} (hc : 1 ≤ c) : a * c ≤ b * c ↔ a ≤ b := ⟨fun h => Int.le_of_mul_le_mul_right h (by omega), fun h => Int.mul_le_mul_of_nonneg_right h (by omega)⟩
/-- A part of all is at most a fraction. -/
theorem atMost_iff {n all : Int} {m : PRat} (hn : 0 ≤ n ∧ n ≤ all) (ha : 1 ≤ all) : atMostB (ratG n all) m = true ↔ n * m.d ≤ m.n * all := by
  have x := rat_cross (n := n) ha
  have r := rat_rng hn ha
  unfold atMostB
  rw [decide_eq_true_eq, ← mul_le_cancel (c := all) ha, ← mul_le_cancel (a := n * m.d) (c := (ratG n all).d) r.2.1]
  generalize ratG n all = q at *
  have e1 : q.n * m.d * all = n * m.d * q.d := by rw [Int.mul_right_comm, x, Int.mul_right_comm]
  have e2 : m.n * q.d * all = m.n * all * q.d := Int.mul_right_comm ..
  rw [e1, e2]
theorem count_flat {L : List Int} {f : Int → List Int} {p q : Int → Bool} {c : Nat} (h : ∀ s ∈ L, p s = true → c ≤ (f s).countP q) : L.countP p * c ≤ (L.flatMap f).countP q := by
  induction L with
  | nil => simp
  | cons a L ih =>
    have i := ih fun s hs => h s (List.mem_cons_of_mem _ hs)
    have ha := h a List.mem_cons_self
    rw [List.flatMap_cons, List.countP_append, List.countP_cons]
    by_cases hp : p a = true
    · rw [if_pos hp, Nat.add_mul, Nat.one_mul]
      have := ha hp
      omega
    · rw [if_neg hp, Nat.add_zero]; omega
theorem over_step {j : PJob} (ok : PJobOk j) (L : List Int) (lim : Int) : (overN L lim : Int) * totalJ j ≤ (overN (step1 L j) lim : Nat) := by
  have t := (total_rng ok).1
  have h := count_flat (L := L) (f := fun s => j.draws.flatMap fun d => List.replicate d.count.toNat (s + d.power)) (p := fun s => decide (lim < s)) (q := fun s => decide (lim < s)) (c := (totalJ j).toNat) fun s hs hp => by
    have rl := reps_len ok s
    rw [List.countP_eq_length.2 fun x hx => ?_]
    · omega
    · obtain ⟨d, hd, hx⟩ := List.mem_flatMap.1 hx
      have := (List.mem_replicate.1 hx).2
      have hp := of_decide_eq_true hp
      have := (mem_draws ok hd).1
      exact decide_eq_true (by omega)
  have e : ((L.countP (fun s => decide (lim < s)) * (totalJ j).toNat : Nat) : Int) = (overN L lim : Int) * totalJ j := by
    rw [Int.natCast_mul]; unfold overN; rw [show (((totalJ j).toNat : Nat) : Int) = totalJ j by omega]
  unfold overN at *
  unfold step1
  omega
theorem need_app (l : List PJob) (x : PJob) (k : Nat) : ∀ i, i ≤ l.length → needK (l ++ [x]) k i = needK l k i
  | 0, _ => rfl
  | i + 1, h => by
    rw [needK, needK, need_app l x k i (by omega), List.getD_eq_getElem?_getD, List.getElem?_append_left (by omega), ← List.getD_eq_getElem?_getD]
theorem need_last (l : List PJob) (x : PJob) (k : Nat) : needK (l ++ [x]) k (l ++ [x]).length = needK l k l.length + needOf x k := by
  rw [List.length_append, show ([x] : List PJob).length = 1 from rfl, needK, need_app l x k _ (Nat.le_refl _), List.getD_eq_getElem?_getD, List.getElem?_append_right (Nat.le_refl _), Nat.sub_self]; rfl
theorem lok_app {l : List PJob} {x : PJob} (ok : ListOk (l ++ [x])) : ListOk l ∧ PJobOk x := by
  have hl : (l ++ [x]).length = l.length + 1 := List.length_append
  refine ⟨⟨by have := ok.few; omega, fun i hi => ?_, fun i hi => ?_⟩, ?_⟩
  · have := ok.job i (by omega)
    rwa [List.getD_eq_getElem?_getD, List.getElem?_append_left hi, ← List.getD_eq_getElem?_getD] at this
  · have := ok.prod i (by omega)
    rwa [prodJ_app _ _ _ hi] at this
  have := ok.job l.length (by rw [List.length_append]; simp)
  rwa [List.getD_eq_getElem?_getD, List.getElem?_append_right (Nat.le_refl _), Nat.sub_self] at this
theorem combos_all {l : List PJob} (ok : ListOk l) : ((combos l).length : Int) = prodJ l l.length ∧ 1 ≤ prodJ l l.length := by
  have := combos_len ok _ (Nat.le_refl _)
  rw [List.take_length] at this
  exact ⟨this, prod_pos ok _ (Nat.le_refl _)⟩
theorem over_bound {l : List PJob} (ok : ListOk l) (lim : Int) : (0 ≤ ((overN (combos l) lim : Nat) : Int) ∧ ((overN (combos l) lim : Nat) : Int) ≤ prodJ l l.length) := by
  have a := over_len (combos l) lim
  have b := (combos_all ok).1
  omega
/-- What a list's chance is at most. -/
theorem chance_iff {l : List PJob} (ok : ListOk l) (lim : Int) (m : PRat) : atMostB (overG l lim (prodJ l l.length)) m = true ↔ ((overN (combos l) lim : Nat) : Int) * m.d ≤ m.n * prodJ l l.length := atMost_iff (over_bound ok lim) (combos_all ok).2
/-- A longer list is over the limit at least as often. -/
theorem over_more {l : List PJob} {x : PJob} (ok : ListOk (l ++ [x])) (lim : Int) : ((overN (combos l) lim : Nat) : Int) * prodJ (l ++ [x]) (l ++ [x]).length ≤ ((overN (combos (l ++ [x])) lim : Nat) : Int) * prodJ l l.length := by
  obtain ⟨okl, okx⟩ := lok_app ok
  have s := over_step okx (combos l) lim
  have c := (combos_all okl).2
  rw [combos_snoc, List.length_append, show ([x] : List PJob).length = 1 from rfl, prodJ_last, Int.mul_comm (prodJ l l.length), ← Int.mul_assoc]
  exact Int.mul_le_mul_of_nonneg_right s (by omega)
theorem fits_prefix {l : List PJob} {x : PJob} {r : PRack} {m : PRat} (ok : ListOk (l ++ [x])) (hm : 1 ≤ m.d) (h : fitsG (l ++ [x]) r m = true) : fitsG l r m = true := by
  obtain ⟨okl, okx⟩ := lok_app ok
  have n := pin_three.1 okx.need
  unfold fitsG at h ⊢
  rw [need_last, need_last, need_last, Bool.and_eq_true, Bool.and_eq_true, Bool.and_eq_true, decide_eq_true_eq, decide_eq_true_eq, decide_eq_true_eq, chance_iff ok] at h
  obtain ⟨⟨⟨h0, h1⟩, h2⟩, h3⟩ := h
  change _ + x.n0 ≤ _ at h0
  change _ + x.n1 ≤ _ at h1
  change _ + x.n2 ≤ _ at h2
  rw [Bool.and_eq_true, Bool.and_eq_true, Bool.and_eq_true, decide_eq_true_eq, decide_eq_true_eq, decide_eq_true_eq, chance_iff okl]
  refine ⟨⟨⟨by omega, by omega⟩, by omega⟩, ?_⟩
  have mo := over_more ok r.cap
  have c1 := (combos_all okl).2
  have c2 := (combos_all ok).2
  rw [← mul_le_cancel (c := prodJ (l ++ [x]) (l ++ [x]).length) c2]
  have e1 := Int.mul_le_mul_of_nonneg_right mo (show (0 : Int) ≤ m.d by omega)
  have e2 := Int.mul_le_mul_of_nonneg_right h3 (show (0 : Int) ≤ prodJ l l.length by omega)
  generalize prodJ (l ++ [x]) (l ++ [x]).length = P2 at *
  generalize prodJ l l.length = P1 at *
  generalize ((overN (combos l) r.cap : Nat) : Int) = o1 at *
  generalize ((overN (combos (l ++ [x])) r.cap : Nat) : Int) = o2 at *
  have a1 : o1 * m.d * P2 = o1 * P2 * m.d := Int.mul_right_comm ..
  have a2 : o2 * P1 * m.d = o2 * m.d * P1 := Int.mul_right_comm ..
  have a3 : m.n * P2 * P1 = m.n * P1 * P2 := Int.mul_right_comm ..
  omega
theorem fits_nil {r : PRack} {m : PRat} (hr : rackR r = true) (hm : 0 ≤ m.n) : fitsG [] r m = true := by
  unfold rackR at hr
  rw [Bool.and_eq_true, Bool.and_eq_true] at hr
  have a := pin_three.1 hr.1.1
  have b := pin_one.1 hr.1.2
  have ok : ListOk ([] : List PJob) := ⟨Nat.zero_le _, fun i hi => absurd hi (Nat.not_lt_zero i), fun i hi => by rw [show i = 0 by simpa using hi]; decide⟩
  unfold fitsG
  rw [Bool.and_eq_true, Bool.and_eq_true, Bool.and_eq_true, decide_eq_true_eq, decide_eq_true_eq, decide_eq_true_eq, chance_iff ok]
  refine ⟨⟨⟨a.1.1, a.2.1.1⟩, a.2.2.1⟩, ?_⟩
  have : overN (combos []) r.cap = 0 := by
    unfold overN
    rw [List.countP_eq_zero]
    intro s hs
    rw [combos, List.foldl_nil, List.mem_singleton] at hs
    rw [decide_eq_true_eq]; omega
  rw [this]
  show (0 : Int) * m.d ≤ m.n * 1
  omega
end Go.X

/- The search finds the best; its proof holds; what holds is the best. No condition. -/
set_option linter.unusedVariables false
namespace Go.X
theorem snoc_old {w : List Int} {y : Int} {i : Nat} (h : i < w.length) : (w ++ [y]).getD i default = w.getD i default := by
  rw [List.getD_eq_getElem?_getD, List.getElem?_append_left h, ← List.getD_eq_getElem?_getD]
theorem snoc_new {w : List Int} {y : Int} : (w ++ [y]).getD w.length default = y := by
  rw [List.getD_eq_getElem?_getD, List.getElem?_append_right (Nat.le_refl _), Nat.sub_self]; rfl
theorem inTo_snoc {α : Type} [Inhabited α] {l : List α} {w : List Int} {y r : Int} : ∀ n, n ≤ w.length → inTo l (w ++ [y]) r n = inTo l w r n
  | 0, _ => rfl
  | n + 1, h => by rw [inTo, inTo, inTo_snoc n (by omega), snoc_old (by omega)]
theorem inL_snoc (t : PTask) (w : List Int) (y r : Int) : inL t (w ++ [y]) r = inL t w r ++ (if y = r then [t.jobs.getD w.length default] else []) := by
  unfold inL
  rw [List.length_append, show ([y] : List Int).length = 1 from rfl, inTo, inTo_snoc _ (Nat.le_refl _), snoc_new]
theorem skip_snoc {t : PTask} {w : List Int} {y : Int} {i : Nat} (h : i < w.length) : skipK t (w ++ [y]) i = skipK t w i := by rw [skipK, skipK, snoc_old h]
theorem key_snoc {t : PTask} {w : List Int} {y : Int} {i : Nat} (h : i < w.length) : keyOf t (w ++ [y]) i = keyOf t w i := by rw [keyOf, keyOf, snoc_old h]
theorem keys_snoc {t : PTask} {w : List Int} {y : Int} : ∀ n, n ≤ w.length → keysTo t (w ++ [y]) n = keysTo t w n
  | 0, _ => rfl
  | n + 1, h => by rw [keysTo, keysTo, keys_snoc n (by omega), skip_snoc (by omega), key_snoc (by omega)]
theorem apartTo_snoc {t : PTask} {w : List Int} {y : Int} : ∀ n, n ≤ w.length → apartTo t (w ++ [y]) n = apartTo t w n
  | 0, _ => rfl
  | n + 1, h => by rw [apartTo, apartTo, apartTo_snoc n (by omega), skip_snoc (by omega), key_snoc (by omega), keys_snoc n (by omega)]
theorem apart_prefix {t : PTask} {w : List Int} {y : Int} (h : apartG t (w ++ [y]) = true) : apartG t w = true := by
  unfold apartG at *
  rw [List.length_append, show ([y] : List Int).length = 1 from rfl, apartTo, apartTo_snoc _ (Nat.le_refl _), Bool.and_eq_true] at h
  exact h.1
theorem apart_out {t : PTask} {w : List Int} (h : apartG t w = true) : apartG t (w ++ [-1]) = true := by
  unfold apartG at *
  rw [List.length_append, show ([-1] : List Int).length = 1 from rfl, apartTo, apartTo_snoc _ (Nat.le_refl _), h, skipK, snoc_new]
  rfl
theorem fitTo_iff {t : PTask} {w : List Int} : ∀ {n}, fitTo t w n = true ↔ ∀ r, r < n → fitAt t w r = true
  | 0 => ⟨fun _ r hr => absurd hr (Nat.not_lt_zero r), fun _ => rfl⟩
  | n + 1 => by
    rw [fitTo, Bool.and_eq_true, fitTo_iff]
    exact ⟨fun ⟨a, b⟩ r hr => by
      by_cases he : r = n
      · rw [he]; exact b
      · exact a r (by omega), fun h => ⟨fun r hr => h r (by omega), h n (by omega)⟩⟩
theorem allowed_iff {t : PTask} {w : List Int} : allowedB t w = true ↔ (∀ r, r < t.racks.length → fitAt t w r = true) ∧ apartG t w = true := by
  rw [allowedB, Bool.and_eq_true, fitTo_iff]
theorem fit_same {t : PTask} {w : List Int} {y : Int} {r : Nat} (h : y ≠ (r : Int)) : fitAt t (w ++ [y]) r = fitAt t w r := by
  rw [fitAt, fitAt, inL_snoc, if_neg h, List.append_nil]
theorem inL_ok {t : PTask} (lok : ListOk t.jobs) {w : List Int} (h : w.length ≤ t.jobs.length) (r : Int) : ListOk (inL t w r) := lok.inTo w r h
theorem fit_prefix {t : PTask} (ok : TaskOk t) (lok : ListOk t.jobs) {w : List Int} {y : Int} (hl : w.length < t.jobs.length) {r : Nat} (h : fitAt t (w ++ [y]) r = true) : fitAt t w r = true := by
  by_cases hy : y = (r : Int)
  · have k := inL_ok lok (w := w ++ [y]) (by rw [List.length_append]; simp; omega) (r : Int)
    rw [fitAt, inL_snoc, if_pos hy] at h
    rw [inL_snoc, if_pos hy] at k
    exact fits_prefix k (chanceR_pos ok.most) h
  · rwa [fit_same hy] at h
theorem allowed_prefix {t : PTask} (ok : TaskOk t) (lok : ListOk t.jobs) {w : List Int} {y : Int} (hl : w.length < t.jobs.length) (h : allowedB t (w ++ [y]) = true) : allowedB t w = true := by
  rw [allowed_iff] at *
  exact ⟨fun r hr => fit_prefix ok lok hl (h.1 r hr), apart_prefix h.2⟩
theorem psonsTo_memT {t : PTask} {w x : List Int} : ∀ {n}, x ∈ psonsTo t w n → ∃ r : Nat, r < n ∧ x = w ++ [(r : Int)] ∧ sonOk t w r = true
  | 0, h => by cases h
  | n + 1, h => by
    rw [psonsTo] at h
    rcases List.mem_append.1 h with h | h
    · obtain ⟨r, a, b, c⟩ := psonsTo_memT h
      exact ⟨r, by omega, b, c⟩
    · split at h
      · rw [List.mem_singleton] at h
        exact ⟨n, by omega, h, ‹_›⟩
      · cases h
theorem sons_allowed {t : PTask} {w x : List Int} (h : allowedB t w = true) (hx : x ∈ psons t w) : allowedB t x = true := by
  rw [allowed_iff] at h ⊢
  rw [psons] at hx
  rcases List.mem_append.1 hx with hx | hx
  · obtain ⟨r, hr, rfl, hs⟩ := psonsTo_memT hx
    rw [sonOk, Bool.and_eq_true] at hs
    refine ⟨fun q hq => ?_, hs.2⟩
    by_cases he : (r : Int) = q
    · have : r = q := by omega
      subst this; exact hs.1
    · rw [fit_same he]; exact h.1 q hq
  · rw [List.mem_singleton] at hx
    subst hx
    refine ⟨fun q hq => ?_, apart_out h.2⟩
    rw [fit_same (by omega)]; exact h.1 q hq
theorem son_of {t : PTask} {w : List Int} {y : Int} (h : allowedB t (w ++ [y]) = true) (h1 : -1 ≤ y) (h2 : y < t.racks.length) : ∃ i, i < (psons t w).length ∧ (psons t w).getD i default = w ++ [y] := by
  by_cases hy : y = -1
  · subst hy
    exact ⟨_, by rw [psons_len]; exact Nat.lt_succ_self _, psons_last t w⟩
  · obtain ⟨r, rfl⟩ := Int.eq_ofNat_of_zero_le (show 0 ≤ y by omega)
    rw [allowed_iff] at h
    have := psons_at (t := t) (w := w) (r := r) (by omega) (by rw [sonOk, Bool.and_eq_true]; exact ⟨h.1 r (by omega), h.2⟩)
    exact ⟨_, this.2, this.1⟩
theorem takes_allowed {t : PTask} (ok : TaskOk t) (lok : ListOk t.jobs) {w : List Int} (hw : w.length = t.jobs.length) (h : allowedB t w = true) : ∀ d, d ≤ w.length → allowedB t (w.take (w.length - d)) = true
  | 0, _ => by rw [Nat.sub_zero, List.take_length]; exact h
  | d + 1, hd => by
    have ih := takes_allowed ok lok hw h d (by omega)
    rw [show w.length - d = (w.length - (d + 1)) + 1 by omega, take_snocP (by omega)] at ih
    exact allowed_prefix ok lok (by rw [List.length_take]; omega) ih
/-- What lies below a node bounds every allowed placement that goes on from it. -/
theorem below_reach {t : PTask} (ok : TaskOk t) (lok : ListOk t.jobs) {b : Int} {w : List Int} (wok : WOk t w) (hw : w.length = t.jobs.length) (h : allowedB t w = true) : ∀ f, f ≤ w.length → belowF t b f (w.take (w.length - f)) → worthG t w ≤ b
  | 0, _, k => by rw [Nat.sub_zero, List.take_length] at k; exact k
  | f + 1, hf, k => by
    have ta := takes_allowed ok lok hw h f (by omega)
    rw [show w.length - f = (w.length - (f + 1)) + 1 by omega, take_snocP (by omega)] at ta
    have rg := wok.rng (w.length - (f + 1)) (by omega)
    obtain ⟨i, hi, e⟩ := son_of ta rg.1 rg.2
    refine below_reach ok lok wok hw h f (by omega) ?_
    have := k i hi
    rw [e] at this
    rw [show w.length - f = (w.length - (f + 1)) + 1 by omega, take_snocP (by omega)]
    exact this
theorem below_all {t : PTask} (ok : TaskOk t) (lok : ListOk t.jobs) {b : Int} (k : belowG t b []) {w : List Int} (wok : WOk t w) (hw : w.length = t.jobs.length) (h : allowedB t w = true) : worthG t w ≤ b := by
  refine below_reach ok lok wok hw h w.length (Nat.le_refl _) ?_
  rw [Nat.sub_self, List.take_zero]
  unfold belowG at k
  rw [hw]; exact k
/-- A whole placement that is allowed. -/
structure Whole (t : PTask) (s : List Int × Int) : Prop where
  wok : WOk t s.1
  len : s.1.length = t.jobs.length
  all : allowedB t s.1 = true
  wor : worthG t s.1 = s.2
theorem look_whole {t : PTask} : ∀ m w s, WOk t w → t.jobs.length - w.length ≤ m → allowedB t w = true → lookG t w s = s ∨ Whole t (lookG t w s)
  | m, w, s, wok, hm, ha => by
    rw [lookF_eq wok.len]
    split
    · exact .inl rfl
    · split
      · exact .inr ⟨wok, ‹_›, ha, rfl⟩
      · rename_i h1 h2
        have hl := wok.len
        cases m with
        | zero => omega
        | succ m =>
          have step : ∀ n, n ≤ (psons t w).length → foldTo (fun s son => lookG t son s) (psons t w) s n = s ∨ Whole t (foldTo (fun s son => lookG t son s) (psons t w) s n) := by
            intro n
            induction n with
            | zero => intro _; exact .inl rfl
            | succ n ih =>
              intro hn
              obtain ⟨y, e, y1, y2⟩ := psons_get (t := t) (w := w) (i := n) (by omega)
              have al := sons_allowed ha (getD_mem (xs := psons t w) (i := n) (by omega))
              have q := look_whole m ((psons t w).getD n default) (foldTo (fun s son => lookG t son s) (psons t w) s n) (by rw [e]; exact wok.snoc (by omega) y1 y2) (by rw [e, List.length_append]; simp; omega) al
              rw [foldTo]
              rcases q with q | q
              · rw [q]; exact ih (by omega)
              · exact .inr q
          exact step _ (Nat.le_refl _)
theorem allowed_nil {t : PTask} (ok : TaskOk t) : allowedB t [] = true := by
  rw [allowed_iff]
  exact ⟨fun r hr => fits_nil (ok.rack r hr) (chanceR_rng ok.most).1.1, rfl⟩
theorem outs_whole {t : PTask} (ok : TaskOk t) : ∀ n, n ≤ t.jobs.length → WOk t (List.replicate n (-1)) ∧ allowedB t (List.replicate n (-1)) = true
  | 0, _ => ⟨wok_nil t, allowed_nil ok⟩
  | n + 1, h => by
    obtain ⟨a, b⟩ := outs_whole ok n (by omega)
    rw [List.replicate_succ']
    exact ⟨a.snoc (by rw [List.length_replicate]; omega) (Int.le_refl _) (by have := ok.rk1; omega), sons_allowed b (by rw [psons]; simp)⟩
theorem best_whole {t : PTask} (ok : TaskOk t) (lok : ListOk t.jobs) : Whole t (lookG t [] ([], -1)) ∧ belowG t (lookG t [] ([], -1)).2 [] := by
  have bl := (look_below ok _ [] ([], -1) (Nat.zero_le _) (Nat.le_refl _)).2
  refine ⟨?_, bl⟩
  rcases look_whole _ [] ([], -1) (wok_nil t) (Nat.le_refl _) (allowed_nil ok) with h | h
  · rw [h] at bl
    obtain ⟨a, b⟩ := outs_whole ok _ (Nat.le_refl _)
    have q := below_all ok lok bl a (by rw [List.length_replicate]) b
    have p := (worth_rng ok (w := List.replicate t.jobs.length (-1)) (List.replicate t.jobs.length (-1)).length (by rw [List.length_replicate]; exact Nat.le_refl _)).1
    unfold worthG at q
    omega
  · exact h
theorem formed_of {t : PTask} (ok : TaskOk t) (lok : ListOk t.jobs) {w : List Int} (wok : WOk t w) (hw : w.length = t.jobs.length) : formedG t w = 0 := by
  have ref : ∀ n, refTo t w n = 0 := by
    intro n
    induction n with
    | zero => rfl
    | succ n ih => rw [refTo, if_neg (by rw [ih]; decide)]; exact listed_ok.2 (inL_ok lok (by omega) _)
  unfold formedG
  rw [if_neg (by rw [pcheck_iff.2 ok]; decide), if_neg ?_]
  · exact ref _
  · rintro (h | h)
    · exact h (by omega)
    · rw [any_false_of fun i hi => ?_] at h
      · cases h
      · have := wok.rng i hi
        rw [outW, Bool.or_eq_false_iff, decide_eq_false_iff_not, decide_eq_false_iff_not]; omega
/-! ### the proof holds -/
theorem fold_prefix {t : PTask} {b : Int} {w : List Int} (h : ∀ i, i < (psons t w).length → ∀ p, ∃ q, proveG t b ((psons t w).getD i default) p = p ++ q) (p : List Bool) : ∀ n, n ≤ (psons t w).length → ∃ q, foldTo (fun p son => proveG t b son p) (psons t w) p n = p ++ q
  | 0, _ => ⟨[], by rw [List.append_nil]; rfl⟩
  | n + 1, hn => by
    obtain ⟨q, e⟩ := fold_prefix h p n (by omega)
    obtain ⟨q2, e2⟩ := h n (by omega) (foldTo (fun p son => proveG t b son p) (psons t w) p n)
    exact ⟨q ++ q2, by rw [foldTo, e2, e, List.append_assoc]⟩
theorem prove_prefix {t : PTask} {b : Int} : ∀ m w p, w.length ≤ t.jobs.length → t.jobs.length - w.length ≤ m → belowG t b w → ∃ q, proveG t b w p = p ++ q
  | m, w, p, hw, hm, k => by
    rw [prove_case hw k]
    by_cases h : hopeG t w ≤ b
    · rw [if_pos h]; exact ⟨_, rfl⟩
    · rw [if_neg h]
      have hl : ¬ w.length = t.jobs.length := fun e => h (cut_leaf k e)
      cases m with
      | zero => omega
      | succ m =>
        obtain ⟨q, e⟩ := fold_prefix (t := t) (b := b) (w := w) (fun i hi p => by
          obtain ⟨y, e, _⟩ := psons_get hi
          exact prove_prefix m _ p (by rw [e, List.length_append]; simp; omega) (by rw [e, List.length_append]; simp; omega) (below_son (by omega) k hi)) (p ++ [false]) _ (Nat.le_refl _)
        exact ⟨[false] ++ q, by rw [e, List.append_assoc]⟩
theorem fold_more {t : PTask} {b : Int} {w : List Int} (h : ∀ i, i < (psons t w).length → ∀ p, ∃ q, proveG t b ((psons t w).getD i default) p = p ++ q) (p : List Bool) {n : Nat} : ∀ m, n ≤ m → m ≤ (psons t w).length → ∃ q, foldTo (fun p son => proveG t b son p) (psons t w) p m = foldTo (fun p son => proveG t b son p) (psons t w) p n ++ q
  | 0, hn, _ => ⟨[], by rw [show n = 0 by omega, List.append_nil]⟩
  | m + 1, hn, hm => by
    by_cases he : n = m + 1
    · subst he; exact ⟨[], by rw [List.append_nil]⟩
    · obtain ⟨q, e⟩ := fold_more h p (n := n) m (by omega) (by omega)
      obtain ⟨q2, e2⟩ := h m (by omega) (foldTo (fun p son => proveG t b son p) (psons t w) p m)
      exact ⟨q ++ q2, by rw [foldTo, e2, e, List.append_assoc]⟩
theorem holds_prove {t : PTask} {b : Int} : ∀ m w p z, w.length ≤ t.jobs.length → t.jobs.length - w.length ≤ m → belowG t b w → holdsG t (proveG t b w p ++ z) b w p.length = (true, (proveG t b w p).length)
  | m, w, p, z, hw, hm, k => by
    rw [holds_eq hw, prove_case hw k]
    by_cases h : hopeG t w ≤ b
    · rw [if_pos h, if_neg (by simp only [List.length_append, List.length_cons, List.length_nil]; omega), if_pos (by rw [List.append_assoc, List.getD_eq_getElem?_getD, List.getElem?_append_right (Nat.le_refl _), Nat.sub_self]; rfl), decide_eq_true h, List.length_append]; rfl
    · rw [if_neg h]
      have hl : ¬ w.length = t.jobs.length := fun e => h (cut_leaf k e)
      cases m with
      | zero => omega
      | succ m =>
        have pre : ∀ i, i < (psons t w).length → ∀ p, ∃ q, proveG t b ((psons t w).getD i default) p = p ++ q := fun i hi p => by
          obtain ⟨y, e, _⟩ := psons_get hi
          exact prove_prefix m _ p (by rw [e, List.length_append]; simp; omega) (by rw [e, List.length_append]; simp; omega) (below_son (by omega) k hi)
        obtain ⟨q, eq⟩ := fold_prefix pre (p ++ [false]) _ (Nat.le_refl _)
        have step : ∀ n, n ≤ (psons t w).length → holdsTo t (foldTo (fun p son => proveG t b son p) (psons t w) (p ++ [false]) (psons t w).length ++ z) b w p.length n = (true, (foldTo (fun p son => proveG t b son p) (psons t w) (p ++ [false]) n).length) := by
          intro n
          induction n with
          | zero => intro _; rw [holdsTo, foldTo, foldTo, List.length_append]; rfl
          | succ n ih =>
            intro hn
            have ih := ih (by omega)
            obtain ⟨y, e, _⟩ := psons_get (t := t) (w := w) (i := n) (by omega)
            obtain ⟨q2, e2⟩ := fold_more pre (p ++ [false]) (n := n + 1) _ hn (Nat.le_refl _)
            have hh := holds_prove m ((psons t w).getD n default) (foldTo (fun p son => proveG t b son p) (psons t w) (p ++ [false]) n) (q2 ++ z) (by rw [e, List.length_append]; simp; omega) (by rw [e, List.length_append]; simp; omega) (below_son (by omega) k (by omega))
            unfold holdsTo at ih ⊢
            rw [foldTo, ih, if_pos rfl, e2, List.append_assoc]
            exact hh
        have a := step _ (Nat.le_refl _)
        rw [if_neg, if_neg, if_neg hl, a]
        · rw [eq, List.append_assoc, List.append_assoc, List.getD_eq_getElem?_getD, List.getElem?_append_right (Nat.le_refl _), Nat.sub_self]; simp
        · rw [eq]; simp only [List.length_append, List.length_cons, List.length_nil]; omega
/-- The law of Best. -/
theorem best_law {t : PTask} (rd : readyG t = 0) : (formedG t (bestP t).1 = 0 ∧ allowedB t (bestP t).1 = true ∧ worthG t (bestP t).1 = (bestP t).2.1) ∧ verifyP t (bestP t).1 (bestP t).2.1 (bestP t).2.2 = 0 ∧ ∀ w, formedG t w = 0 → allowedB t w = true → worthG t w ≤ (bestP t).2.1 := by
  obtain ⟨ok, lok⟩ := ready_ok rd
  obtain ⟨wh, bl⟩ := best_whole ok lok
  have fm := formed_of ok lok wh.wok wh.len
  refine ⟨⟨fm, wh.all, wh.wor⟩, ?_, fun w hf ha => ?_⟩
  · have hp := holds_prove (t := t) (b := (lookG t [] ([], -1)).2) _ [] [] [] (Nat.zero_le _) (Nat.le_refl _) bl
    rw [List.append_nil] at hp
    rw [verifyP, if_neg (by rw [rd]; decide), if_neg (by rintro (h | h); exact h fm; exact h wh.all)]
    refine if_neg ?_
    rintro (h | h | h)
    · exact h wh.wor
    · exact h (by show (holdsG t (proveG t (lookG t [] ([], -1)).2 [] []) (lookG t [] ([], -1)).2 [] 0).1 = true; rw [show (0 : Nat) = ([] : List Bool).length from rfl, hp])
    · exact h (by show (holdsG t (proveG t (lookG t [] ([], -1)).2 [] []) (lookG t [] ([], -1)).2 [] 0).2 = _; rw [show (0 : Nat) = ([] : List Bool).length from rfl, hp]; rfl)
  · obtain ⟨_, wok, hw, _⟩ := formed_iff hf
    exact below_all ok lok bl wok hw ha
end Go.X

/- Sums that occur: in order, each as often as it is counted, together all. No condition. -/
set_option linter.unusedVariables false
namespace Go.X
end Go.X

/- Counts in a list by number. No condition. -/
set_option linter.unusedVariables false
namespace Go.X
structure CntIs (C : List Int) (L : List Int) : Prop where
  at' : ∀ x : Nat, x < C.length → C.getD x default = (L.count (x : Int) : Nat)
  rng : ∀ y ∈ L, 0 ≤ y ∧ y < C.length
theorem CntIs.one : CntIs [1] [0] := ⟨fun x hx => by
  have : x = 0 := by simpa using hx
  subst this; rfl, fun y hy => by
  rw [List.mem_singleton] at hy
  subst hy; decide⟩
/-- How often the first i draws have power y. -/
def oneJ (j : PJob) (y : Int) : Nat → Int
  | 0 => 0
  | i + 1 => oneJ j y i + if (j.draws.getD i default).power = y then (j.draws.getD i default).count else 0
def addC (C : List Int) (j : PJob) (x : Int) : Nat → Int
  | 0 => 0
  | s + 1 => addC C j x s + C.getD s default * oneJ j (x - s) j.draws.length
theorem oneJ_rng {j : PJob} (ok : PJobOk j) (y : Int) : ∀ i, i ≤ j.draws.length → 0 ≤ oneJ j y i ∧ oneJ j y i ≤ 64 * i
  | 0, _ => by simp only [oneJ]; omega
  | i + 1, h => by
    have ih := oneJ_rng ok y i (by omega)
    have d := mem_draws ok (getD_mem (show i < j.draws.length by omega))
    rw [oneJ]
    split <;> omega
theorem oneJ_count (j : PJob) (y s : Int) : ∀ i, i ≤ j.draws.length → (∀ d ∈ j.draws, 0 ≤ d.count) → oneJ j y i = (((j.draws.take i).flatMap fun d => List.replicate d.count.toNat (s + d.power)).count (s + y) : Nat)
  | 0, _, _ => by rw [List.take_zero]; rfl
  | i + 1, h, hd => by
    have ih := oneJ_count j y s i (by omega) hd
    have c := hd _ (getD_mem (show i < j.draws.length by omega))
    rw [oneJ, ih, take_snocP (by omega), List.flatMap_append, List.count_append, List.flatMap_cons, List.flatMap_nil, List.append_nil, List.count_replicate, Int.natCast_add]
    by_cases hp : (j.draws.getD i default).power = y
    · rw [if_pos hp, if_pos (by rw [hp]; simp)]; omega
    · rw [if_neg hp, if_neg (fun q => hp (by have := beq_iff_eq.1 q; omega))]; rfl
theorem sum_by {f : Int → Int} : ∀ {L : List Int} {n : Nat}, (∀ y ∈ L, 0 ≤ y ∧ y < n) → (L.map f).sum = ((List.range n).map fun s : Nat => ((L.count (s : Int) : Nat) : Int) * f s).sum
  | [], n, _ => by
    have : ∀ l : List Nat, (l.map fun s : Nat => ((([] : List Int).count (s : Int) : Nat) : Int) * f s).sum = 0 := fun l => by
      induction l with
      | nil => rfl
      | cons a l ih => rw [List.map_cons, List.sum_cons, ih, List.count_nil]; simp
    rw [this]; rfl
  | a :: L, n, h => by
    have ih := sum_by (f := f) (L := L) (n := n) fun y hy => h y (List.mem_cons_of_mem _ hy)
    have ha := h a List.mem_cons_self
    have add : ∀ l : List Nat, (l.map fun s : Nat => (((a :: L).count (s : Int) : Nat) : Int) * f s).sum = (l.map fun s : Nat => ((L.count (s : Int) : Nat) : Int) * f s).sum + (l.map fun s : Nat => if (s : Int) = a then f s else 0).sum := fun l => by
      induction l with
      | nil => rfl
      | cons s l ih =>
        rw [List.map_cons, List.sum_cons, List.map_cons, List.sum_cons, List.map_cons, List.sum_cons, ih, List.count_cons, Int.natCast_add, Int.add_mul]
        by_cases hs : (s : Int) = a
        · rw [if_pos hs, if_pos (by simp [hs])]; simp; omega
        · rw [if_neg hs, if_neg (fun q => hs (beq_iff_eq.1 q).symm)]; simp; omega
    have single : ∀ n : Nat, a < n → ((List.range n).map fun s : Nat => if (s : Int) = a then f s else 0).sum = f a := by
      intro n
      induction n with
      | zero => intro h; omega
      | succ n ihn =>
        intro h
        rw [List.range_succ, List.map_append, List.sum_append, List.map_cons, List.map_nil, List.sum_cons, List.sum_nil, Int.add_zero]
        by_cases hn : (n : Int) = a
        · rw [if_pos hn]
          have z : ∀ k : Nat, (k : Int) ≤ a → ((List.range k).map fun s : Nat => if (s : Int) = a then f s else 0).sum = 0 := by
            intro k
            induction k with
            | zero => intro _; rfl
            | succ k ihk =>
              intro hk
              rw [List.range_succ, List.map_append, List.sum_append, ihk (by omega), List.map_cons, List.map_nil, List.sum_cons, List.sum_nil, if_neg (by omega)]; rfl
          rw [z n (by omega), hn]; omega
        · rw [if_neg hn, ihn (by omega)]; omega
    rw [List.map_cons, List.sum_cons, ih, add, single n ha.2]; omega
theorem addC_sum {C L : List Int} (c : CntIs C L) (j : PJob) (x : Int) : ∀ n, n ≤ C.length → addC C j x n = ((List.range n).map fun s : Nat => ((L.count (s : Int) : Nat) : Int) * oneJ j (x - s) j.draws.length).sum
  | 0, _ => rfl
  | n + 1, h => by
    rw [addC, addC_sum c j x n (by omega), c.at' n (by omega), List.range_succ, List.map_append, List.sum_append]; simp
theorem count_flatI {L : List Int} {f : Int → List Int} {x : Int} : (((L.flatMap f).count x : Nat) : Int) = (L.map fun s => (((f s).count x : Nat) : Int)).sum := by
  induction L with
  | nil => rfl
  | cons a L ih => rw [List.flatMap_cons, List.count_append, Int.natCast_add, ih, List.map_cons, List.sum_cons]
theorem addC_all {C L : List Int} (c : CntIs C L) {j : PJob} (ok : PJobOk j) (x : Int) : addC C j x C.length = ((step1 L j).count x : Nat) := by
  rw [addC_sum c j x _ (Nat.le_refl _), ← sum_by (f := fun s => oneJ j (x - s) j.draws.length) c.rng]
  unfold step1
  rw [count_flatI]
  congr 1
  refine List.map_congr_left fun s _ => ?_
  rw [oneJ_count j (x - s) s _ (Nat.le_refl _) fun d hd => by have := (mem_draws ok hd).2.1; omega, List.take_length, show s + (x - s) = x by omega]
theorem addC_rng {C L : List Int} (c : CntIs C L) {j : PJob} (ok : PJobOk j) (hL : L.length ≤ 1099511627776) (x : Int) : ∀ s, s ≤ C.length → 0 ≤ addC C j x s ∧ addC C j x s ≤ s * 562949953421312
  | 0, _ => by simp only [addC]; omega
  | s + 1, h => by
    have ih := addC_rng c ok hL x s (by omega)
    have o := oneJ_rng ok (x - s) _ (Nat.le_refl _)
    have f := ok.few
    have cs : 0 ≤ C.getD s default ∧ C.getD s default ≤ 1099511627776 := by
      rw [c.at' s (by omega)]
      have : L.count (s : Int) ≤ L.length := List.count_le_length
      omega
    have m := mulP cs (show 0 ≤ oneJ j (x - s) j.draws.length ∧ oneJ j (x - s) j.draws.length ≤ 512 by omega)
    rw [addC, Int.natCast_add, Int.add_mul]
    omega
/-- The greatest power comes last. -/
theorem last_most {j : PJob} (ok : PJobOk j) : ∀ {i k : Nat}, i ≤ k → k < j.draws.length → (j.draws.getD i default).power ≤ (j.draws.getD k default).power
  | i, 0, h, hk => by rw [show i = 0 by omega]; exact Int.le_refl _
  | i, k + 1, h, hk => by
    by_cases he : i = k + 1
    · rw [he]; exact Int.le_refl _
    · have ih := last_most ok (i := i) (k := k) (by omega) (by omega)
      have d := ok.draw (k + 1) hk
      unfold DrawOk at d
      have := d.2.2 (by omega)
      rw [Nat.add_sub_cancel] at this
      omega
theorem CntIs.step {C L D : List Int} (c : CntIs C L) {j : PJob} (ok : PJobOk j) (hD : (D.length : Int) = C.length + (j.draws.getD (j.draws.length - 1) default).power) (h : ∀ x : Nat, x < D.length → D.getD x default = addC C j x C.length) : CntIs D (step1 L j) where
  at' := fun x hx => by rw [h x hx, addC_all c ok]
  rng := fun y hy => by
    obtain ⟨s, hs, d, hd, rfl⟩ := step1_mem hy
    have r := c.rng s hs
    have m := (mem_draws ok hd).1
    obtain ⟨i, hi, e⟩ := List.getElem_of_mem hd
    have lm := last_most ok (i := i) (k := j.draws.length - 1) (by omega) (by omega)
    rw [List.getD_eq_getElem?_getD, List.getElem?_eq_getElem hi, Option.getD_some, e] at lm
    omega
/-- What the new list holds after s numbers and i draws of the next. -/
def PartD (C D : List Int) (j : PJob) (s i : Nat) : Prop := ∀ x : Nat, x < D.length → D.getD x default = addC C j x s + C.getD s default * oneJ j ((x : Int) - s) i
theorem PartD.zero {C : List Int} {j : PJob} (n : Nat) : PartD C (List.replicate n 0) j 0 0 := fun x hx => by
  rw [addC, oneJ]
  have : (List.replicate n (0 : Int)).getD x default = 0 := by
    rw [List.getD_eq_getElem?_getD, List.getElem?_replicate]; split <;> rfl
  rw [this]; simp
theorem PartD.add {C D : List Int} {j : PJob} {s i y : Nat} (h : PartD C D j s i) (hy : (y : Int) = s + (j.draws.getD i default).power) (hl : y < D.length) : PartD C (D.set y (D.getD y default + C.getD s default * (j.draws.getD i default).count)) j s (i + 1) := fun x hx => by
  rw [List.length_set] at hx
  rw [getD_setK, oneJ]
  by_cases he : y = x
  · subst he
    rw [if_pos ⟨rfl, hl⟩, h y hl, if_pos (by omega), Int.mul_add]; omega
  · rw [if_neg (fun q => he q.1), h x hx, if_neg (by omega), Int.add_zero]
theorem PartD.next {C D : List Int} {j : PJob} {s i : Nat} (h : PartD C D j s i) (hs : i = j.draws.length ∨ C.getD s default = 0) : PartD C D j (s + 1) 0 := fun x hx => by
  rw [h x hx, addC, oneJ, Int.mul_zero, Int.add_zero]
  rcases hs with rfl | h0
  · rfl
  · rw [h0]; simp
end Go.X

/- Sums and parts over a limit read off the counts. No condition. -/
set_option linter.unusedVariables false
namespace Go.X
def ovC (C : List Int) (lim : Int) : Nat → Int
  | 0 => 0
  | i + 1 => ovC C lim i + if lim < (i : Int) then C.getD i default else 0
theorem ovC_sum {C L : List Int} (c : CntIs C L) (lim : Int) : ∀ n, n ≤ C.length → ovC C lim n = ((List.range n).map fun s : Nat => ((L.count (s : Int) : Nat) : Int) * (if lim < (s : Int) then 1 else 0)).sum
  | 0, _ => rfl
  | n + 1, h => by
    rw [ovC, ovC_sum c lim n (by omega), c.at' n (by omega), List.range_succ, List.map_append, List.sum_append]
    by_cases hn : lim < (n : Int)
    · rw [if_pos hn]; simp [hn]
    · rw [if_neg hn]; simp [hn]
theorem ovC_all {C L : List Int} (c : CntIs C L) (lim : Int) : ovC C lim C.length = (overN L lim : Nat) := by
  rw [ovC_sum c lim _ (Nat.le_refl _), ← sum_by (f := fun s => if lim < s then 1 else 0) c.rng]
  unfold overN
  clear c
  induction L with
  | nil => rfl
  | cons a L ih =>
    rw [List.map_cons, List.sum_cons, ih, List.countP_cons]
    by_cases h : lim < a
    · rw [if_pos h, if_pos (decide_eq_true h)]; omega
    · rw [if_neg h, if_neg (by rw [decide_eq_true_eq]; exact h)]; omega
theorem cnt_rng {C L : List Int} (c : CntIs C L) {i : Nat} (hi : i < C.length) : 0 ≤ C.getD i default ∧ C.getD i default ≤ L.length := by
  rw [c.at' i hi]
  have : L.count (i : Int) ≤ L.length := List.count_le_length
  omega
theorem ovC_rng {C L : List Int} (c : CntIs C L) (lim : Int) : ∀ i, i ≤ C.length → 0 ≤ ovC C lim i ∧ ovC C lim i ≤ i * L.length
  | 0, _ => by simp only [ovC]; omega
  | i + 1, h => by
    have ih := ovC_rng c lim i (by omega)
    have r := cnt_rng c (show i < C.length by omega)
    rw [ovC, Int.natCast_add, Int.add_mul]
    split <;> omega
def sumC (C : List Int) : Nat → List PDraw
  | 0 => []
  | i + 1 => sumC C i ++ if 0 < C.getD i default then [⟨(i : Int), C.getD i default⟩] else []
theorem sumC_len (C : List Int) : ∀ n, (sumC C n).length ≤ n
  | 0 => Nat.le_refl _
  | n + 1 => by
    have := sumC_len C n
    rw [sumC, List.length_append]
    split <;> simp <;> omega
def keyC (C : List Int) : Nat → List Int
  | 0 => []
  | i + 1 => keyC C i ++ if 0 < C.getD i default then [(i : Int)] else []
theorem keyC_mem (C : List Int) (x : Int) : ∀ n, x ∈ keyC C n ↔ ∃ i : Nat, i < n ∧ x = (i : Int) ∧ 0 < C.getD i default
  | 0 => ⟨fun h => (by cases h), fun ⟨i, h, _⟩ => absurd h (Nat.not_lt_zero i)⟩
  | n + 1 => by
    rw [keyC, List.mem_append, keyC_mem C x n]
    constructor
    · rintro (⟨i, a, b, c⟩ | h)
      · exact ⟨i, by omega, b, c⟩
      · split at h
        · rw [List.mem_singleton] at h
          exact ⟨n, by omega, h, ‹_›⟩
        · cases h
    · rintro ⟨i, a, b, c⟩
      by_cases he : i = n
      · subst he; right; rw [if_pos c, b]; exact List.mem_cons_self
      · left; exact ⟨i, by omega, b, c⟩
theorem keyC_sorted (C : List Int) : ∀ n, (keyC C n).Pairwise (fun a b => a < b)
  | 0 => List.Pairwise.nil
  | n + 1 => by
    rw [keyC, List.pairwise_append]
    refine ⟨keyC_sorted C n, by split <;> simp, fun a ha b hb => ?_⟩
    obtain ⟨i, h1, h2, _⟩ := (keyC_mem C a n).1 ha
    split at hb
    · rw [List.mem_singleton] at hb; omega
    · cases hb
theorem sumC_key {C L : List Int} (c : CntIs C L) : ∀ n, n ≤ C.length → sumC C n = (keyC C n).map fun p => ⟨p, (L.count p : Nat)⟩
  | 0, _ => rfl
  | n + 1, h => by
    rw [sumC, keyC, sumC_key c n (by omega), List.map_append]
    congr 1
    split
    · rw [List.map_cons, List.map_nil, c.at' n (by omega)]
    · rfl
theorem sumC_all {C L : List Int} (c : CntIs C L) : sumC C C.length = sumsL L := by
  rw [sumC_key c _ (Nat.le_refl _)]
  unfold sumsL
  congr 1
  symm
  have nd : (keyC C C.length).Nodup := pairMap (keyC_sorted C C.length) fun h => by omega
  refine sortL_is ((List.perm_ext_iff_of_nodup (dd_nodup L) nd).2 fun x => ?_) (pairMap (keyC_sorted C C.length) fun h => by omega)
  rw [dd_mem, keyC_mem]
  constructor
  · intro h
    have r := c.rng x h
    refine ⟨x.toNat, by omega, by omega, ?_⟩
    rw [c.at' x.toNat (by omega), show ((x.toNat : Nat) : Int) = x by omega]
    have := List.count_pos_iff.2 h
    omega
  · rintro ⟨i, h1, h2, h3⟩
    rw [c.at' i h1] at h3
    rw [h2]
    exact List.count_pos_iff.1 (by omega)
end Go.X

/- Arguments that are slices of bools, opened. No condition. -/
set_option linter.unusedVariables false
namespace Go.X
open Go.ChangeShapes Go.WideShapes Go.Deep
end Go.X

/- append of a make onto nothing; an owned slice cut at its end; capacity. No condition. -/
set_option linter.unusedVariables false
namespace Go.X
section
variable {P : Program} {ops : Array Oper} {e : Env} {o r : List PHeap} {d : Option Tmp} {ty : TypeId} {pos : String} {aft : Array Edge}
variable {α : Type} {enc : α → List Value} {sz : Nat} {h : PHeap} {xs : List α} {v : Value}
theorem zero_list {zs : List Value} {n : Nat} (h : 0 < zs.length) : (Builtin.zeroCells zs.toArray n).toList = (List.replicate n zs).flatten := by
  have hr := range_map_const (n := n) (zs := zs) (by omega)
  unfold Builtin.zeroCells
  rw [show zs.toArray.size = zs.length from List.size_toArray ..] at hr ⊢
  rw [hr]
theorem Stp.appendN {t tn el : TypeId} {ti : TypeInfo} {z : Value} {zs : List Value} {kn k : IntKind} {x y : Operand} {n : Nat} {m : Int} (enc : α → List Value) (x0 : α) (ht : P.underlying t = some (.slice el)) (htn : P.underlying tn = some (.int kn)) (hi : P.info? el = some ti) (hz : ti.zero = some z) (hzs : z.cells = zs.toArray)
    (hx : ev e x = some (.slice none 0 0)) (hy : ev e y = some (.int k m)) (hm : m = (n : Int)) (h0 : 0 < n) (hn : n ≤ 68719476736) (hsz : ti.size = sz) (hs0 : Nat.blt 0 sz = true) (hby : Nat.ble ti.bytes 128 = true) (henc : ∀ x, (enc x).length = sz) (hx0 : enc x0 = zs) (ho : Ones (enc x0)) :
    Stp P ops ⟨d, .call ⟨.builtin .append, #[x, y], #[t, tn]⟩, ty, pos, aft, none⟩ e o r (fun v' o2 => ∃ h', OArr v' enc sz el h' (List.replicate n x0) ∧ o2 = h' :: o) := fun D a w he hs => by
  subst hm
  have hb := Nat.le_of_ble_eq_true hby
  have hs1 : 0 < sz := by rw [Nat.blt_eq] at hs0; exact hs0
  have hzl : zs.length = sz := by rw [← hx0, henc]
  have hrun := Go.Lib.run_append_nil_zeros (P := P) w t tn ty el ti z k kn ht htn hi hz n h0 (by omega) (by omega) (by
    calc n * ti.bytes ≤ n * 128 := Nat.mul_le_mul_left _ hb
      _ ≤ 281474976710656 := by omega)
  obtain ⟨cap, hc⟩ : ∃ cap, cap = grownCap w n 0 el := ⟨_, rfl⟩
  have hcn : n ≤ cap := by rw [hc]; exact Nat.le_add_right _ _
  rw [← hc, hzs] at hrun
  unfold Does
  simp only [Region.wanted, if_true, execOp, resolve, List.map_toArray, List.map_cons, List.map_nil, ev_rel he hx, ev_rel he hy]
  rw [bind_ok (a := _) (w1 := w) rfl]
  simp only [invoke, builtin]
  rw [run_val hrun]
  refine ⟨_, ⟨_, ⟨sing w.heap.size (.cells (Builtin.zeroCells zs.toArray n ++ Builtin.zeroCells zs.toArray (cap - n)) el (0, 0)), ?_, rfl⟩, List.Perm.swap _ _ _⟩, ?_⟩
  · have e0 : Builtin.zeroCells zs.toArray n ++ Builtin.zeroCells zs.toArray (cap - n) = ((List.replicate n zs).flatten ++ (List.replicate (cap - n) zs).flatten).toArray := by
      apply Array.ext'
      rw [Array.toList_append, zero_list (by omega), zero_list (by omega)]
    refine ⟨henc, ⟨by simp; omega, fun y hy c hc => ?_⟩, .inr ⟨w.heap.size, cap, (List.replicate n zs).flatten ++ (List.replicate (cap - n) zs).flatten, by simp, by rw [e0]; rfl, by simp; exact hcn, ?_, ?_⟩⟩
    · rw [List.eq_of_mem_replicate hy] at hc
      exact ho.pf c hc
    · rw [List.length_append, rep_len, rep_len, hzl, ← Nat.add_mul]
      congr 1
      omega
    · rw [flat_rep, hx0, List.length_replicate]
      have : n * sz = ((List.replicate n zs).flatten).length := by rw [rep_len, hzl]
      rw [this, List.take_left]
  · exact Sep.push (w := { w with drawn := w.drawn + 1 }) (⟨hs.pw, hs.dr, hs.so, hs.sr, hs.no, hs.sm⟩) _
theorem Q.capN {t el : TypeId} [u : Und P t (.slice el)] {x : Operand} {ad : Option Addr} {n c : Nat} (hx : ev e x = some (.slice ad n c)) :
    Quiet P ops ⟨d, .call ⟨.builtin .cap, #[x], #[t]⟩, ty, pos, aft, none⟩ e o r (.int .i64 c) := .mk fun a w he _ => by
  have hx' := ev_rel he hx
  simp only [execOp, resolve, List.map_toArray, List.map_cons, List.map_nil, hx']
  rw [bind_ok (a := _) (w1 := w) rfl]
  simp only [invoke, builtin]
  refine run_val ?_
  unfold Builtin.cap_
  simp only [List.getElem?_toArray, List.getElem?_cons_zero]
  rw [bind_ok (u.pf w)]
  rfl
/-- An owned slice, shorter. -/
theorem OArr.short {T : TypeId} (s : OArr v enc sz T h xs) {j : Nat} (hj : j ≤ xs.length) : OArr (cutv v sz 0 j) enc sz T h (xs.take j) := by
  obtain ⟨henc, ⟨hl, ho⟩, hv⟩ := s.pf
  have hlt : (xs.take j).length = j := by rw [List.length_take]; omega
  refine ⟨henc, ⟨by rw [hlt]; omega, fun x hx => ho x (List.mem_of_mem_take hx)⟩, ?_⟩
  rcases hv with ⟨rfl, rfl, rfl⟩ | ⟨b, c, cs, rfl, rfl, hle, hcl, htk⟩
  · refine .inl ⟨?_, by simp, rfl⟩
    have : j = 0 := by simpa using hj
    subst this; rfl
  · have hv2 : cutv (.slice (some ⟨b, 0, none⟩) xs.length c) sz 0 j = .slice (some ⟨b, 0, none⟩) j c := by
      unfold cutv
      simp [Addr.add]
    refine .inr ⟨b, c, cs, by rw [hv2, hlt], rfl, by rw [hlt]; omega, hcl, ?_⟩
    have e1 : xs.flatMap enc = (xs.take j).flatMap enc ++ (xs.drop j).flatMap enc := by rw [← List.flatMap_append, List.take_append_drop]
    have e2 : ((xs.take j).flatMap enc).length = j * sz := by rw [flat_len henc, hlt]
    rw [hlt, show cs.take (j * sz) = (cs.take (xs.length * sz)).take (j * sz) by rw [List.take_take, Nat.min_eq_left (Nat.mul_le_mul_right _ hj)], htk, e1, ← e2, List.take_left]
end
section
variable {c : Cx} {ops : Array Oper} {rest : List Oper} {k : List Item} {e : Env} {o r : List PHeap} {d : Nat} {ty : TypeId} {pos : String} {aft : Array Edge} {α : Type} {sz : Nat}
theorem XO.appendN {t tn el : TypeId} {ti : TypeInfo} {z : Value} {zs : List Value} {kn kk : IntKind} {x y : Operand} {n : Nat} {m : Int} (enc : α → List Value) (x0 : α) (ht : c.P.underlying t = some (.slice el)) (htn : c.P.underlying tn = some (.int kn)) (hi : c.P.info? el = some ti) (hz : ti.zero = some z) (hzs : z.cells = zs.toArray)
    (hx : ev e x = some (.slice none 0 0)) (hy : ev e y = some (.int kk m)) (hm : m = (n : Int)) (h0 : 0 < n) (hn : n ≤ 68719476736) (hsz : ti.size = sz) (hs0 : Nat.blt 0 sz = true) (hby : Nat.ble ti.bytes 128 = true) (henc : ∀ x, (enc x).length = sz) (hx0 : enc x0 = zs) (ho : Ones (enc x0))
    (hnx : ∀ v' h', OArr v' enc sz el h' (List.replicate n x0) → XO c ops rest k ((d, some v') :: e) (h' :: o) r) :
    XO c ops (⟨some d, .call ⟨.builtin .append, #[x, y], #[t, tn]⟩, ty, pos, aft, none⟩ :: rest) k e o r :=
  XO.s (Stp.appendN enc x0 ht htn hi hz hzs hx hy hm h0 hn hsz hs0 hby henc hx0 ho) fun v' _ ⟨h', hO, h2⟩ => by subst h2; exact hnx v' h' hO
end
end Go.X

/- The place of an entry of an array that is an element. No condition. -/
set_option linter.unusedVariables false
namespace Go.X
variable {P : Program} {ops : Array Oper} {e : Env} {o r : List PHeap} {d : Option Tmp} {ty : TypeId} {pos : String} {aft : Array Edge}
variable {α : Type} {enc : α → List Value} {sz : Nat} {h : PHeap} {xs : List α} {v : Value}
theorem Q.ixE {t el len s2 : TypeId} [u : Und P t (.array len el)] [z : TySize P el s2] {x y : Operand} {k : IntKind} {n : Int} {i j kk : Nat} (hx : ev e x = some (pat v sz i kk)) [s : Arr v enc sz h xs] (hi : i < xs.length) (hy : ev e y = some (.int k n))
    [ix : Idx n j] (h0 : 0 ≤ n) (h1 : n < len) : Quiet P ops ⟨d, .indexAddr t x y, ty, pos, aft, none⟩ e o r (pat v sz i (kk + j * s2)) := .mk fun a w he _ => by
  have hn := ix.pf h0
  subst hn
  obtain ⟨b, k0, cs, T, fr, c, hv, _, hp, _⟩ := s.at' hi
  have hx' := ev_rel he hx
  rw [hp] at hx'
  rw [hp]
  simp only [execOp, hx', ev_rel he hy]
  refine run_val ?_
  unfold Instr.indexAt
  rw [bind_ok (a := (k, (j : Int))) (w1 := w) rfl]
  simp only
  rw [bind_ok (u.pf w)]
  simp only
  rw [bind_ok (a := (⟨b, k0 + (i * sz + kk), none⟩ : Addr)) (w1 := w) rfl]
  rw [bind_ok (a := (some (⟨b, k0 + (i * sz + kk), none⟩ : Addr), len, el)) (w1 := w) rfl]
  rw [bind_ok (u.pf w)]
  simp only
  rw [if_pos ⟨h0, h1⟩]
  rw [bind_ok (z.pf w)]
  simp [add_none, pure, Sem.run, Nat.add_assoc]
theorem for4 {f : Nat → Option Bool × PUnit → Sem (ForInStep (Option Bool × PUnit))} {b0 b1 b2 b3 b4 : Option Bool × PUnit} {w : World} (h0 : (f 0 b0).run P w = .ok (.yield b1) w) (h1 : (f 1 b1).run P w = .ok (.yield b2) w) (h2 : (f 2 b2).run P w = .ok (.yield b3) w) (h3 : (f 3 b3).run P w = .ok (.yield b4) w) :
    (forIn (m := Sem) [0, 1, 2, 3] b0 f).run P w = .ok b4 w := by
  rw [List.forIn_cons, bind_ok h0]
  show (forIn (m := Sem) [1, 2, 3] b1 f).run P w = _
  rw [List.forIn_cons, bind_ok h1]
  show (forIn (m := Sem) [2, 3] b2 f).run P w = _
  rw [List.forIn_cons, bind_ok h2]
  show (forIn (m := Sem) [3] b3 f).run P w = _
  rw [List.forIn_cons, bind_ok h3]
  rfl
theorem run_eqQuad {t el : TypeId} {ki : IntKind} (u : Und P t (.array 4 el)) (ht : IsAgg P el false) (s : TySize P el 1) (ui : Und P el (.int ki)) (a b c f : Int) (d : Nat) (w : World) :
    (Op.equalIn (d + 2) t (.agg #[.int .i64 a, .int .i64 b, .int .i64 c, .int .i64 f]) (.agg #[.int .i64 a, .int .i64 b, .int .i64 c, .int .i64 f])).run P w = .ok true w := by
  unfold Op.equalIn
  rw [bind_ok (u.pf w)]
  simp only
  rw [bind_ok (s.pf w)]
  simp only [Std.Legacy.Range.forIn_eq_forIn_range', Std.Legacy.Range.size, Nat.sub_zero, Nat.add_one_sub_one, Nat.div_one]
  show ((forIn (m := Sem) [0, 1, 2, 3] _ _) >>= _).run P w = _
  have p0 : (part el #[Value.int .i64 a, .int .i64 b, .int .i64 c, .int .i64 f] (0 * 1)).run P w = .ok (.int .i64 a) w := run_part (ht := ht) rfl w
  have p1 : (part el #[Value.int .i64 a, .int .i64 b, .int .i64 c, .int .i64 f] (1 * 1)).run P w = .ok (.int .i64 b) w := run_part (ht := ht) rfl w
  have p2 : (part el #[Value.int .i64 a, .int .i64 b, .int .i64 c, .int .i64 f] (2 * 1)).run P w = .ok (.int .i64 c) w := run_part (ht := ht) rfl w
  have p3 : (part el #[Value.int .i64 a, .int .i64 b, .int .i64 c, .int .i64 f] (3 * 1)).run P w = .ok (.int .i64 f) w := run_part (ht := ht) rfl w
  rw [bind_ok (a := (none, ())) (w1 := w) (for4 (b1 := (none, ())) (b2 := (none, ())) (b3 := (none, ())) ?_ ?_ ?_ ?_)]
  · rfl
  · rw [bind_ok p0, bind_ok p0, bind_ok (run_eqInt (u := ui) w)]
    simp only [beq_self_eq_true, Bool.not_true, Bool.false_eq_true, if_false]; rfl
  · rw [bind_ok p1, bind_ok p1, bind_ok (run_eqInt (u := ui) w)]
    simp only [beq_self_eq_true, Bool.not_true, Bool.false_eq_true, if_false]; rfl
  · rw [bind_ok p2, bind_ok p2, bind_ok (run_eqInt (u := ui) w)]
    simp only [beq_self_eq_true, Bool.not_true, Bool.false_eq_true, if_false]; rfl
  · rw [bind_ok p3, bind_ok p3, bind_ok (run_eqInt (u := ui) w)]
    simp only [beq_self_eq_true, Bool.not_true, Bool.false_eq_true, if_false]; rfl
/-- Four numbers compared with themselves. -/
theorem Q.neqQ {t t2 el : TypeId} {ki : IntKind} {x y : Operand} {a b c f a' b' c' f' : Int} (hx : ev e x = some (.agg #[.int .i64 a, .int .i64 b, .int .i64 c, .int .i64 f])) (hy : ev e y = some (.agg #[.int .i64 a', .int .i64 b', .int .i64 c', .int .i64 f'])) (ha : a' = a) (hb : b' = b) (hc : c' = c) (hf : f' = f) (u : Und P t (.array 4 el)) (ht : IsAgg P el false) (s : TySize P el 1) (ui : Und P el (.int ki)) (hg : P.eqGuardType P.depth t = false) :
    Quiet P ops ⟨d, .binOp .neq t x y t2, ty, pos, aft, none⟩ e o r (.bool false) := .mk fun s' w he _ => by
  subst ha hb hc hf
  simp only [execOp, ev_rel he hx, ev_rel he hy]
  refine run_val ?_
  rw [bind_ok (run_guardAgg hg (.inr rfl) w)]
  unfold binOp
  simp only
  have h1 : (Op.equal t (.agg #[.int .i64 a', .int .i64 b', .int .i64 c', .int .i64 f']) (.agg #[.int .i64 a', .int .i64 b', .int .i64 c', .int .i64 f'])).run P w = .ok true w := run_eqQuad (d := 9998) u ht s ui a' b' c' f' w
  rw [bind_ok h1]
  rfl
end Go.X

/- Iterators that give what they yield, with a state that is shared with the rounds; loops over them. No condition. -/
set_option linter.unusedSimpArgs false
set_option linter.unusedVariables false
namespace Go.X
theorem VSpec.joinG {P : Program} {y : Value} {vs : List Value} {Hm Ht Hr : List PHeap} {R : Value → List PHeap → Prop} (h : VSpec P y vs (Hm ++ Ht) Hr R) (hp : PD Hm) {R' : Value → List PHeap → PHeap → Prop} (hR : ∀ v hs, R v hs → ∃ a s, hs = a ++ [s] ∧ R' v a s) :
    VSpec P y vs (join Hm :: Ht) Hr (fun v hs => ∃ a s, PD a ∧ hs = [join a, s] ∧ R' v a s) := fun o r w hs hr =>
  (h o r w (by have := Sep.split hp (o := Ht ++ o) hs; rwa [← List.append_assoc] at this) hr).mono fun v _ ⟨hs', hR0, hS⟩ => by
    obtain ⟨a, s, rfl, h2⟩ := hR v hs' hR0
    rw [List.append_assoc] at hS
    exact ⟨[join a, s], ⟨a, s, ⟨hS.left.pw, hS.left.no⟩, rfl, h2⟩, hS.join⟩
/-- It yields n times; each value is given away with its heap; St: what is shared with the rounds. -/
def ItG (P : Program) (y : Value) (n : Nat) (Y : Nat → PHeap → List Value → Prop) (St : PHeap → Prop) (Hg : List PHeap) : Prop :=
  ∀ (f : Value) (Hr : List PHeap) (Q : Nat → PHeap → Prop) (X : PHeap → Prop),
    (∀ i, i < n → ∀ g vs q s, Y i g vs → Q i q → St s → VSpec P f vs [q, s, g] Hr (fun v hs => ∃ b q' s', v = .bool b ∧ hs = [q', s'] ∧ St s' ∧ (b = true → Q (i + 1) q') ∧ (b = false → X q'))) →
    ∀ q s, Q 0 q → St s → VSpec P y [f] [q, s] (Hg ++ Hr) (fun _ hs => ∃ q' s', hs = [q', s'] ∧ St s' ∧ (Q n q' ∨ X q'))
def RoundG {X : Type} (oc : X → List PHeap) (St : PHeap → Prop) (I : X → Prop) (J : Code → X → Prop) : Option Code → List PHeap → Prop
  | none, hs => ∃ x s, I x ∧ St s ∧ hs = oc x ++ [s]
  | some j, hs => ∃ x s, J j x ∧ St s ∧ hs = oc x ++ [s]
theorem XK.rangeG {P : Program} {f : FuncId} {N : Nat} {B : PHeap} {E : Frame → World → Prop} {X : Type} {k : List Item} {e : Env} {o o1 ok r : List PHeap} {x : Operand} {y : Value} {ps : List Tmp} {asn bd : Code} {Hg : List PHeap} {n : Nat} {Y : Nat → PHeap → List Value → Prop} {St : PHeap → Prop}
    (oc : X → List PHeap) (I : Nat → X → Prop) (J : Code → X → Prop) (x0 : X) (o0 : List PHeap) (s0 : PHeap) (hx : ev e x = some y) (hit : ItG P y n Y St Hg)
    [rst : Rest o0 o o1] [tk : Take s0 o1 ok] (ho0 : oc x0 = o0) (h0 : I 0 x0) (hs0 : St s0)
    [al : AllIn Hg ok (B :: r)] (hps : ps.all (fun p => Nat.blt p N) = true) (hlen : ∀ i g vs, Y i g vs → vs.length = ps.length)
    (round : ∀ l rec B' i x s g vs, i < n → Y i g vs → I i x → St s → XK (rcx P f N l rec B' (RoundG oc St (I (i + 1)) J)) [.code asn, .beginRound, .code bd] (pars ps vs e) (rdy l rec :: (oc x ++ [s, g])) (ok ++ r))
    (cont : ∀ x s, I n x → St s → XK ⟨P, f, none, N, B, E⟩ k e (oc x ++ s :: ok) r)
    (jump : ∀ j x s, J j x → St s → XK ⟨P, f, none, N, B, E⟩ (.code j :: k) e (oc x ++ s :: ok) r) :
    XK ⟨P, f, none, N, B, E⟩ (.code (.rangeFunc x ps.toArray asn bd) :: k) e o r := fun D ds a w cs ha he hD hm => by
  have hm0 : Sep (D :: (o0 ++ o1)) (B :: r) w := rst.wk.sepD hm
  have hm1 : Sep (D :: (o0 ++ ([s0] ++ ok))) (B :: r) w := hm0.perm ((tk.pf.append_left o0).cons D)
  let rec' : Loop := { state := .ready, pending := none, fn := f, tmps := a, params := ps.toArray, assign := asn, body := bd, defers := w.heap.size }
  let l := w.heap.size + 1
  let w1 := (w.alloc (.deferred (some []))).alloc (.loop rec')
  have henter : (Instr.enterLoop f a ps.toArray asn bd none).run P w = .ok (l, [{ target := .collected w.heap.size, args := #[] }]) w1 := run_enterLoop_outer f a ps.toArray asn bd
  have hs1 : Sep (rdy l rec' :: sing w.heap.size (.deferred (some [])) :: D :: (o0 ++ ([s0] ++ ok))) (B :: r) w1 := by
    have := (hm1.push (.deferred (some []))).push (.loop rec')
    simp only [Array.size_push] at this
    exact this
  let D' := Go.X.join [sing w.heap.size (.deferred (some [])), D]
  have hs2 : Sep (D' :: rdy l rec' :: (o0 ++ ([s0] ++ ok))) (B :: r) w1 := by
    refine Sep.join (hs := [sing w.heap.size (.deferred (some [])), D]) (hs1.perm ?_)
    exact (List.Perm.swap _ _ _).trans ((List.Perm.swap _ _ _).cons _)
  have hD' : Marked D' (w.heap.size :: ds) := by
    refine ⟨List.nodup_cons.2 ⟨fun hmem => ?_, hD.1⟩, fun b => ?_⟩
    · have := sub_lt (hm.so D List.mem_cons_self) (b := w.heap.size) (o := .deferred (some [])) (by rw [hD.2, if_pos hmem])
      omega
    · simp only [D', Go.X.join, sing, emp, Option.or_none, hD.2 b, List.mem_cons]
      by_cases hb : b = w.heap.size
      · simp [hb]
      · simp [hb]
  have hs3 : Sep ((Go.X.join (rdy l rec' :: o0) :: [s0]) ++ (D' :: ok)) (B :: r) w1 := by
    refine (Sep.join (hs := rdy l rec' :: o0) (o := D' :: ([s0] ++ ok)) (hs2.perm ?_)).perm ?_
    · show (D' :: ((rdy l rec' :: o0) ++ ([s0] ++ ok))).Perm ((rdy l rec' :: o0) ++ D' :: ([s0] ++ ok))
      exact List.perm_middle.symm
    · show (_ :: D' :: ([s0] ++ ok)).Perm (_ :: ([s0] ++ D' :: ok))
      exact List.perm_middle.symm.cons _
  have hp0 : PD (rdy l rec' :: oc x0) := by
    rw [ho0]
    have hsub : (rdy l rec' :: o0).Sublist (rdy l rec' :: (o0 ++ ([s0] ++ ok))) := List.Sublist.cons_cons _ (List.sublist_append_left _ _)
    exact ⟨hs2.tail.pw.sublist hsub, fun h hh => hs2.tail.no h (hsub.mem hh)⟩
  have hpsN : ∀ p ∈ ps, p < N := fun p hp => by
    have := List.all_eq_true.1 hps p hp
    rwa [Nat.blt_eq] at this
  have hyield : ∀ i, i < n → ∀ g vs q s, Y i g vs → (∃ x, I i x ∧ PD (rdy l rec' :: oc x) ∧ q = Go.X.join (rdy l rec' :: oc x)) → St s →
      VSpec P (.func (.yield l) #[] #[]) vs [q, s, g] (ok ++ r) (fun v hs => ∃ b q' s', v = .bool b ∧ hs = [q', s'] ∧ St s' ∧
        (b = true → ∃ x, I (i + 1) x ∧ PD (rdy l rec' :: oc x) ∧ q' = Go.X.join (rdy l rec' :: oc x)) ∧
        (b = false → ∃ j x, J j x ∧ PD (ovr l rec' (some j) :: oc x) ∧ q' = Go.X.join (ovr l rec' (some j) :: oc x))) := by
    rintro i hi g vs q s hY ⟨x, hI, hp, rfl⟩ hSt
    refine (VSpec.joinG (Hm := rdy l rec' :: oc x) (Ht := [s, g]) (VSpec.round (rec := rec') (N := N) (e := e) rfl ha he hpsN (hlen i g vs hY) (fun B' => round l rec' B' i x s g vs hi hY hI hSt)) hp
      (R' := fun v a s => ∃ j x, v = .bool (Option.isNone j) ∧ a = ovr l rec' j :: oc x ∧ St s ∧ (match j with | none => I (i + 1) x | some j => J j x)) ?_).mono ?_
    · rintro v hs ⟨j, hs', rfl, rfl, hR⟩
      cases j with
      | none =>
        obtain ⟨x', s', h1, h2, rfl⟩ := hR
        exact ⟨_, s', rfl, none, x', rfl, rfl, h2, h1⟩
      | some j =>
        obtain ⟨x', s', h1, h2, rfl⟩ := hR
        exact ⟨_, s', rfl, some j, x', rfl, rfl, h2, h1⟩
    · rintro v hs ⟨a, s', hpd, rfl, j, x', rfl, rfl, h2, h1⟩
      refine ⟨_, _, s', rfl, rfl, h2, ?_, ?_⟩
      · intro hj
        cases j with
        | some j => cases hj
        | none => exact ⟨x', h1, hpd, rfl⟩
      · intro hj
        cases j with
        | none => cases hj
        | some j => exact ⟨j, x', h1, hpd, rfl⟩
  have hN := hit _ (ok ++ r) (fun i q => ∃ x, I i x ∧ PD (rdy l rec' :: oc x) ∧ q = Go.X.join (rdy l rec' :: oc x)) _ hyield (Go.X.join (rdy l rec' :: o0)) s0 ⟨x0, h0, hp0, by rw [ho0]⟩ hs0 (D' :: ok) (B :: r) w1 hs3 (fun h hh => by
    rcases List.mem_append.1 hh with hh | hh
    · exact orMap (al.pf h hh) (List.mem_cons_of_mem _) id
    · rcases List.mem_append.1 hh with hh | hh
      · exact .inl (List.mem_cons_of_mem _ hh)
      · exact .inr (List.mem_cons_of_mem _ hh))
  obtain ⟨v, w', ⟨hs', ⟨q', s', rfl, hSt', hq⟩, hS⟩, st⟩ := step_range (ds := marks ds) (k := k) (cs := cs) henter (ev_rel he hx) hN
  have hperm : ∀ g : List PHeap, (g ++ ([s'] ++ (D' :: ok))).Perm (D' :: (g ++ s' :: ok)) := fun g => by
    refine ((List.Perm.swap D' s' ok).append_left g).trans ?_
    exact List.perm_middle
  rcases hq with ⟨x', hI, hpw, rfl⟩ | ⟨j, x', hJ, hpw, rfl⟩
  · obtain ⟨hS2, hb⟩ := Sep.turn (y := .loop { rec' with state := .exhausted, pending := none }) (Sep.split hpw hS)
    obtain ⟨fr, w2, hE, st2⟩ := cont x' s' hI hSt' D' (w.heap.size :: ds) a _ cs ha he hD' (hS2.tail.perm (hperm _))
    exact ⟨fr, w2, hE, Steps.trans st (.head (step_endRange (run_endLoop hb (by simp))) st2)⟩
  · obtain ⟨hS2, hb⟩ := Sep.turn (y := .loop { rec' with state := .exhausted, pending := some j }) (Sep.split hpw hS)
    obtain ⟨fr, w2, hE, st2⟩ := jump j x' s' hJ hSt' D' (w.heap.size :: ds) a _ cs ha he hD' (hS2.tail.perm (hperm _))
    exact ⟨fr, w2, hE, Steps.trans st (.head (step_endRange (run_endLoop hb (by simp))) st2)⟩
end Go.X

/- Three numbers compared with themselves. No condition. -/
set_option linter.unusedVariables false
namespace Go.X
variable {P : Program} {ops : Array Oper} {e : Env} {o r : List PHeap} {d : Option Tmp} {ty : TypeId} {pos : String} {aft : Array Edge}
theorem for3 {f : Nat → Option Bool × PUnit → Sem (ForInStep (Option Bool × PUnit))} {b0 b1 b2 b3 : Option Bool × PUnit} {w : World} (h0 : (f 0 b0).run P w = .ok (.yield b1) w) (h1 : (f 1 b1).run P w = .ok (.yield b2) w) (h2 : (f 2 b2).run P w = .ok (.yield b3) w) :
    (forIn (m := Sem) [0, 1, 2] b0 f).run P w = .ok b3 w := by
  rw [List.forIn_cons, bind_ok h0]
  show (forIn (m := Sem) [1, 2] b1 f).run P w = _
  rw [List.forIn_cons, bind_ok h1]
  show (forIn (m := Sem) [2] b2 f).run P w = _
  rw [List.forIn_cons, bind_ok h2]
  rfl
theorem run_eqTri {t el : TypeId} {ki : IntKind} (u : Und P t (.array 3 el)) (ht : IsAgg P el false) (s : TySize P el 1) (ui : Und P el (.int ki)) (a b c : Int) (d : Nat) (w : World) :
    (Op.equalIn (d + 2) t (.agg #[.int .i64 a, .int .i64 b, .int .i64 c]) (.agg #[.int .i64 a, .int .i64 b, .int .i64 c])).run P w = .ok true w := by
  unfold Op.equalIn
  rw [bind_ok (u.pf w)]
  simp only
  rw [bind_ok (s.pf w)]
  simp only [Std.Legacy.Range.forIn_eq_forIn_range', Std.Legacy.Range.size, Nat.sub_zero, Nat.add_one_sub_one, Nat.div_one]
  show ((forIn (m := Sem) [0, 1, 2] _ _) >>= _).run P w = _
  have p0 : (part el #[Value.int .i64 a, .int .i64 b, .int .i64 c] (0 * 1)).run P w = .ok (.int .i64 a) w := run_part (ht := ht) rfl w
  have p1 : (part el #[Value.int .i64 a, .int .i64 b, .int .i64 c] (1 * 1)).run P w = .ok (.int .i64 b) w := run_part (ht := ht) rfl w
  have p2 : (part el #[Value.int .i64 a, .int .i64 b, .int .i64 c] (2 * 1)).run P w = .ok (.int .i64 c) w := run_part (ht := ht) rfl w
  rw [bind_ok (a := (none, ())) (w1 := w) (for3 (b1 := (none, ())) (b2 := (none, ())) ?_ ?_ ?_)]
  · rfl
  · rw [bind_ok p0, bind_ok p0, bind_ok (run_eqInt (u := ui) w)]
    simp only [beq_self_eq_true, Bool.not_true, Bool.false_eq_true, if_false]; rfl
  · rw [bind_ok p1, bind_ok p1, bind_ok (run_eqInt (u := ui) w)]
    simp only [beq_self_eq_true, Bool.not_true, Bool.false_eq_true, if_false]; rfl
  · rw [bind_ok p2, bind_ok p2, bind_ok (run_eqInt (u := ui) w)]
    simp only [beq_self_eq_true, Bool.not_true, Bool.false_eq_true, if_false]; rfl
theorem Q.eqlT {t t2 el : TypeId} {ki : IntKind} {x y : Operand} {a b c : Int} (hx : ev e x = some (.agg #[.int .i64 a, .int .i64 b, .int .i64 c])) (hy : ev e y = some (.agg #[.int .i64 a, .int .i64 b, .int .i64 c])) (u : Und P t (.array 3 el)) (ht : IsAgg P el false) (s : TySize P el 1) (ui : Und P el (.int ki)) (hg : P.eqGuardType P.depth t = false) :
    Quiet P ops ⟨d, .binOp .eql t x y t2, ty, pos, aft, none⟩ e o r (.bool true) := .mk fun s' w he _ => by
  simp only [execOp, ev_rel he hx, ev_rel he hy]
  refine run_val ?_
  rw [bind_ok (run_guardAgg hg (.inl rfl) w)]
  unfold binOp
  simp only
  have h1 : (Op.equal t (.agg #[.int .i64 a, .int .i64 b, .int .i64 c]) (.agg #[.int .i64 a, .int .i64 b, .int .i64 c])).run P w = .ok true w := run_eqTri (d := 9998) u ht s ui a b c w
  rw [bind_ok h1]
  rfl
end Go.X

/- Groups apart, pair by pair. No condition. -/
set_option linter.unusedVariables false
namespace Go.X
def badP (t : PTask) (w : List Int) (i j : Nat) : Prop := ((((t.jobs.getD i default).group = (t.jobs.getD j default).group ∧ 0 < (t.jobs.getD i default).group) ∧ 0 ≤ w.getD i default) ∧ 0 ≤ w.getD j default) ∧ (t.racks.getD (w.getD i default).toNat default).domain = (t.racks.getD (w.getD j default).toNat default).domain
theorem keys_has {t : PTask} {w : List Int} {k : Int × Int} : ∀ {n}, k ∈ keysTo t w n ↔ ∃ j, j < n ∧ skipK t w j = false ∧ keyOf t w j = k
  | 0 => ⟨fun h => (by cases h), fun ⟨j, h, _⟩ => absurd h (Nat.not_lt_zero j)⟩
  | n + 1 => by
    rw [keysTo, List.mem_append, keys_has]
    constructor
    · rintro (⟨j, a, b, c⟩ | h)
      · exact ⟨j, by omega, b, c⟩
      · cases hs : skipK t w n with
        | true => rw [hs, if_pos rfl] at h; cases h
        | false =>
          rw [hs, if_neg (by decide), List.mem_singleton] at h
          exact ⟨n, by omega, hs, h.symm⟩
    · rintro ⟨j, a, b, c⟩
      by_cases he : j = n
      · subst he; right; rw [b, if_neg (by decide), c]; exact List.mem_cons_self
      · left; exact ⟨j, by omega, b, c⟩
theorem bad_iff {t : PTask} (ok : TaskOk t) {w : List Int} {i j : Nat} (hi : i < t.jobs.length) (hj : j < t.jobs.length) : badP t w i j ↔ (skipK t w i = false ∧ skipK t w j = false ∧ keyOf t w j = keyOf t w i) := by
  have gi := (ok.job i hi).grp
  have gj := (ok.job j hj).grp
  unfold badP skipK keyOf
  rw [Bool.or_eq_false_iff, Bool.or_eq_false_iff, decide_eq_false_iff_not, decide_eq_false_iff_not, decide_eq_false_iff_not, decide_eq_false_iff_not, Prod.mk.injEq]
  constructor
  · rintro ⟨⟨⟨⟨a, b⟩, c⟩, d⟩, e⟩
    exact ⟨⟨by omega, by omega⟩, ⟨by omega, by omega⟩, a.symm, e.symm⟩
  · rintro ⟨⟨a, b⟩, ⟨c, d⟩, e, f⟩
    exact ⟨⟨⟨⟨e.symm, by omega⟩, by omega⟩, by omega⟩, f.symm⟩
theorem apart_pairs {t : PTask} (ok : TaskOk t) {w : List Int} : ∀ n, n ≤ t.jobs.length → (apartTo t w n = true ↔ ∀ i, i < n → ∀ j, j < i → ¬ badP t w i j)
  | 0, _ => ⟨fun _ i hi => absurd hi (Nat.not_lt_zero i), fun _ => rfl⟩
  | n + 1, h => by
    rw [apartTo, Bool.and_eq_true, apart_pairs ok n (by omega)]
    constructor
    · rintro ⟨a, b⟩ i hi j hj hb
      by_cases he : i = n
      · subst he
        obtain ⟨s1, s2, s3⟩ := (bad_iff ok (by omega) (by omega)).1 hb
        rw [s1, Bool.false_or, Bool.not_eq_true'] at b
        have : (keysTo t w i).contains (keyOf t w i) = true := List.contains_iff_mem.2 (keys_has.2 ⟨j, hj, s2, s3⟩)
        rw [this] at b; cases b
      · exact a i (by omega) j hj hb
    · intro k
      refine ⟨fun i hi => k i (by omega), ?_⟩
      cases hs : skipK t w n with
      | true => rfl
      | false =>
        rw [Bool.false_or, Bool.not_eq_true', Bool.eq_false_iff]
        intro hc
        obtain ⟨j, h1, h2, h3⟩ := keys_has.1 (List.contains_iff_mem.1 hc)
        exact k n (by omega) j h1 ((bad_iff ok (by omega) (by omega)).2 ⟨hs, h2, h3⟩)
end Go.X

/- What a placement leaves free. No condition. -/
set_option linter.unusedVariables false
namespace Go.X
structure PRow where
  a : Int
  b : Int
  c : Int
  d : Int
deriving DecidableEq, Inhabited
/-- The greatest draw of a job. -/
def topJ (j : PJob) : Int := (j.draws.getD (j.draws.length - 1) default).power
def topK (l : List PJob) : Nat → Int
  | 0 => 0
  | i + 1 => topK l i + topJ (l.getD i default)
theorem topJ_rng {j : PJob} (ok : PJobOk j) : 0 ≤ topJ j ∧ topJ j ≤ 1000 := by
  have f := ok.few
  exact (mem_draws ok (getD_mem (show j.draws.length - 1 < j.draws.length by omega))).1
theorem topK_rng {l : List PJob} (h : ∀ i, i < l.length → PJobOk (l.getD i default)) : ∀ i, i ≤ l.length → 0 ≤ topK l i ∧ topK l i ≤ 1000 * i
  | 0, _ => by simp only [topK]; omega
  | i + 1, hi => by
    have ih := topK_rng h i (by omega)
    have t := topJ_rng (h i (by omega))
    rw [topK]; omega
/-- What is left of a rack when the first n of its jobs are in it. -/
def leftR (r : PRack) (l : List PJob) (n : Nat) : PRow := ⟨r.r0 - needK l 0 n, r.r1 - needK l 1 n, r.r2 - needK l 2 n, r.cap - topK l n⟩
def rowG (t : PTask) (w : List Int) (r : Nat) : PRow := leftR (t.racks.getD r default) (inL t w r) (inL t w r).length
def rowsTo (t : PTask) (w : List Int) : Nat → List PRow
  | 0 => []
  | r + 1 => rowsTo t w r ++ [rowG t w r]
theorem rowsTo_len (t : PTask) (w : List Int) : ∀ n, (rowsTo t w n).length = n
  | 0 => rfl
  | n + 1 => by rw [rowsTo, List.length_append, rowsTo_len t w n]; rfl
def spareG (t : PTask) (w : List Int) : List PRow × Int := if formedG t w ≠ 0 then ([], formedG t w) else if ¬ allowedB t w = true then ([], 90) else (rowsTo t w t.racks.length, 0)
end Go.X

/- Sons by asking for leave. No condition. -/
set_option linter.unusedVariables false
namespace Go.X
theorem allowed_son {t : PTask} {w : List Int} (h : allowedB t w = true) {r : Nat} (hr : r < t.racks.length) : allowedB t (w ++ [(r : Int)]) = sonOk t w r := by
  rw [Bool.eq_iff_iff, sonOk, Bool.and_eq_true, allowed_iff]
  rw [allowed_iff] at h
  constructor
  · rintro ⟨a, b⟩; exact ⟨a r hr, b⟩
  · rintro ⟨a, b⟩
    refine ⟨fun q hq => ?_, b⟩
    by_cases he : (r : Int) = q
    · have : r = q := by omega
      subst this; exact a
    · rw [fit_same he]; exact h.1 q hq
theorem allowed_outw {t : PTask} {w : List Int} (h : allowedB t w = true) : allowedB t (w ++ [-1]) = true := by
  rw [allowed_iff] at h ⊢
  refine ⟨fun q hq => ?_, apart_out h.2⟩
  rw [fit_same (by omega)]; exact h.1 q hq
def sonsTo (t : PTask) (w : List Int) (i : Nat) : List (List Int) := if i ≤ t.racks.length then psonsTo t w i else psons t w
theorem sonsTo_in {t : PTask} {w : List Int} {i : Nat} (hi : i < t.racks.length) : sonsTo t w (i + 1) = sonsTo t w i ++ (if sonOk t w i = true then [w ++ [(i : Int)]] else []) := by
  unfold sonsTo
  rw [if_pos (by omega), if_pos (by omega), psonsTo]
theorem sonsTo_out (t : PTask) (w : List Int) : sonsTo t w (t.racks.length + 1) = sonsTo t w t.racks.length ++ [w ++ [-1]] := by
  unfold sonsTo
  rw [if_neg (by omega), if_pos (Nat.le_refl _), psons]
theorem sonsTo_len (t : PTask) (w : List Int) (i : Nat) : (sonsTo t w i).length ≤ t.racks.length + 1 := by
  unfold sonsTo
  split
  · have := psonsTo_len t w i; omega
  · rw [psons_len]; have := psonsTo_len t w t.racks.length; omega
end Go.X

/- A proof is written from anywhere. No condition. -/
set_option linter.unusedVariables false
namespace Go.X
theorem proveF_app {t : PTask} {b : Int} : ∀ f w p, proveF t b f w p = p ++ proveF t b f w []
  | 0, w, p => by rw [proveF, proveF, List.append_nil]
  | f + 1, w, p => by
    rw [proveF, proveF]
    split
    · rfl
    · have go : ∀ n q r, foldTo (fun p son => proveF t b f son p) (psons t w) (q ++ r) n = q ++ foldTo (fun p son => proveF t b f son p) (psons t w) r n := by
        intro n
        induction n with
        | zero => intro q r; rfl
        | succ n ih => intro q r; rw [foldTo, foldTo, ih, proveF_app f _ (q ++ _), proveF_app f _ (foldTo _ _ r n), List.append_assoc]
      rw [go, List.nil_append]
theorem prove_app {t : PTask} {b : Int} (w : List Int) (p : List Bool) : proveG t b w p = p ++ proveG t b w [] := proveF_app _ w p
end Go.X

/- All whole placements below a node, in order; the best of them is what the search finds. No condition. -/
set_option linter.unusedVariables false
namespace Go.X
def leavesF (t : PTask) : Nat → List Int → List (List Int)
  | 0, _ => []
  | f + 1, w => if w.length = t.jobs.length then [w] else foldTo (fun (a : List (List Int)) son => a ++ leavesF t f son) (psons t w) [] (psons t w).length
def leavesG (t : PTask) (w : List Int) : List (List Int) := leavesF t (t.jobs.length - w.length + 1) w
theorem leaves_eq {t : PTask} {w : List Int} (h : w.length ≤ t.jobs.length) : leavesG t w = if w.length = t.jobs.length then [w] else foldTo (fun (a : List (List Int)) son => a ++ leavesG t son) (psons t w) [] (psons t w).length := by
  rw [leavesG, leavesF]
  split
  · rfl
  · refine foldTo_congr fun i hi s => ?_
    obtain ⟨y, e, _⟩ := psons_get hi
    rw [leavesG, e, List.length_append, show ([y] : List Int).length = 1 from rfl, show t.jobs.length - (w.length + 1) + 1 = t.jobs.length - w.length by omega]
/-- The better of what is there and a whole placement. -/
def better (t : PTask) (s : List Int × Int) (w : List Int) : List Int × Int := if s.2 < worthG t w then (w, worthG t w) else s
theorem better_stay {t : PTask} {s : List Int × Int} : ∀ {L : List (List Int)}, (∀ x ∈ L, worthG t x ≤ s.2) → L.foldl (better t) s = s
  | [], _ => rfl
  | a :: L, h => by
    rw [List.foldl_cons, show better t s a = s by unfold better; rw [if_neg (by have := h a List.mem_cons_self; omega)]]
    exact better_stay fun x hx => h x (List.mem_cons_of_mem _ hx)
theorem leaves_hope {t : PTask} (ok : TaskOk t) : ∀ m w, w.length ≤ t.jobs.length → t.jobs.length - w.length ≤ m → ∀ x ∈ leavesG t w, worthG t x ≤ hopeG t w
  | m, w, hw, hm, x, hx => by
    rw [leaves_eq hw] at hx
    split at hx
    · rename_i hl
      rw [List.mem_singleton] at hx
      rw [hx, hope_leaf hl]; exact Int.le_refl _
    · rename_i hl
      cases m with
      | zero => omega
      | succ m =>
        have go : ∀ n, n ≤ (psons t w).length → ∀ x ∈ foldTo (fun (a : List (List Int)) son => a ++ leavesG t son) (psons t w) [] n, worthG t x ≤ hopeG t w := by
          intro n
          induction n with
          | zero => intro _ x hx; cases hx
          | succ n ih =>
            intro hn x hx
            rw [foldTo] at hx
            rcases List.mem_append.1 hx with hx | hx
            · exact ih (by omega) x hx
            · obtain ⟨y, e, _⟩ := psons_get (t := t) (w := w) (i := n) (by omega)
              have := leaves_hope ok m _ (by rw [e, List.length_append]; simp; omega) (by rw [e, List.length_append]; simp; omega) x hx
              have h2 := hope_son ok (show w.length < t.jobs.length by omega) y
              rw [e] at this
              exact Int.le_trans this h2
        exact go _ (Nat.le_refl _) x hx
theorem look_leaves {t : PTask} (ok : TaskOk t) : ∀ m w s, w.length ≤ t.jobs.length → t.jobs.length - w.length ≤ m → lookG t w s = (leavesG t w).foldl (better t) s
  | m, w, s, hw, hm => by
    rw [lookF_eq hw]
    by_cases h1 : hopeG t w ≤ s.2
    · rw [if_pos h1, better_stay fun x hx => Int.le_trans (leaves_hope ok _ w hw (Nat.le_refl _) x hx) h1]
    · rw [if_neg h1, leaves_eq hw]
      by_cases h2 : w.length = t.jobs.length
      · rw [if_pos h2, if_pos h2, List.foldl_cons, List.foldl_nil]
        unfold better
        rw [hope_leaf h2] at h1
        rw [if_pos (by omega)]
      · rw [if_neg h2, if_neg h2]
        cases m with
        | zero => omega
        | succ m =>
          have go : ∀ n, n ≤ (psons t w).length → foldTo (fun s son => lookG t son s) (psons t w) s n = (foldTo (fun (a : List (List Int)) son => a ++ leavesG t son) (psons t w) [] n).foldl (better t) s := by
            intro n
            induction n with
            | zero => intro _; rfl
            | succ n ih =>
              intro hn
              obtain ⟨y, e, _⟩ := psons_get (t := t) (w := w) (i := n) (by omega)
              rw [foldTo, foldTo, List.foldl_append, ← ih (by omega)]
              exact look_leaves ok m _ _ (by rw [e, List.length_append]; simp; omega) (by rw [e, List.length_append]; simp; omega)
          exact go _ (Nat.le_refl _)
end Go.X

/- How many whole placements there are. No condition. -/
set_option linter.unusedVariables false
namespace Go.X
theorem leavesTo_len {t : PTask} {w : List Int} {c : Nat} (h : ∀ i, i < (psons t w).length → (leavesG t ((psons t w).getD i default)).length ≤ c) : ∀ n, n ≤ (psons t w).length → (foldTo (fun (a : List (List Int)) son => a ++ leavesG t son) (psons t w) [] n).length ≤ n * c
  | 0, _ => by rw [foldTo]; simp
  | n + 1, hn => by
    have ih := leavesTo_len h n (by omega)
    have := h n (by omega)
    rw [foldTo, List.length_append, Nat.succ_mul]; omega
theorem leaves_len {t : PTask} (ok : TaskOk t) : ∀ m w, w.length ≤ t.jobs.length → t.jobs.length - w.length ≤ m → (leavesG t w).length ≤ 6 ^ m
  | m, w, hw, hm => by
    rw [leaves_eq hw]
    split
    · exact Nat.one_le_pow _ _ (by decide)
    · cases m with
      | zero => omega
      | succ m =>
        have q := leavesTo_len (t := t) (w := w) (c := 6 ^ m) (fun i hi => by
          obtain ⟨y, e, _⟩ := psons_get hi
          exact leaves_len ok m _ (by rw [e, List.length_append]; simp; omega) (by rw [e, List.length_append]; simp; omega)) _ (Nat.le_refl _)
        have s6 := psons_few ok w
        have := Nat.mul_le_mul_right (6 ^ m) s6
        rw [Nat.pow_succ]; omega
end Go.X

/- Structs with arrays of three, compared with themselves. No condition. -/
set_option linter.unusedVariables false
namespace Go.X
/-- Every field is the same as itself. -/
inductive SameF (P : Program) (d : Nat) (xs : Array Value) : List Field → Prop
  | n : SameF P d xs []
  | c {f : Field} {fs : List Field} {k k' : IntKind} {m : Int} (hn : (f.name == "_") = false) (ht : IsAgg P f.type false) (u : Und P f.type (.int k')) (hx : xs[f.offset]? = some (.int k m)) (hr : SameF P d xs fs) : SameF P d xs (f :: fs)
  | a {f : Field} {fs : List Field} {el : TypeId} {ki : IntKind} {a b c : Int} (hn : (f.name == "_") = false) (ht : IsAgg P f.type true) (z : TySize P f.type 3) (u : Und P f.type (.array 3 el)) (te : IsAgg P el false) (se : TySize P el 1) (ui : Und P el (.int ki))
      (hx : xs.extract f.offset (f.offset + 3) = #[.int .i64 a, .int .i64 b, .int .i64 c]) (hr : SameF P d xs fs) : SameF P d xs (f :: fs)
theorem same_loop {P : Program} {d : Nat} {xs : Array Value} {fs : List Field} (h : SameF P d xs fs) (w : World) :
    (forIn (m := Sem) fs ((none, ()) : Option Bool × Unit) fun f __s =>
                  if f.name ≠ "_" then do
                    let __do_lift ← part f.type xs f.offset
                    let __do_lift_1 ← part f.type xs f.offset
                    let __do_lift ← Op.equalIn (d + 2) f.type __do_lift __do_lift_1
                    if (!__do_lift) = true then pure (ForInStep.done (some false, ()))
                      else pure (ForInStep.yield (none, ()))
                  else pure (ForInStep.yield (none, ()))).run P w = .ok (none, ()) w := by
  induction h with
  | n => rfl
  | @c f fs k k' m hn ht u hx hr ih =>
    rw [List.forIn_cons, if_pos (by intro h; rw [h] at hn; simp at hn)]
    rw [bind_ok (a := ForInStep.yield (none, ())) (w1 := w)]
    · simp only
      rw [ih]
    · rw [bind_ok (run_part (ht := ht) hx w), bind_ok (run_part (ht := ht) hx w), bind_ok (run_eqInt (u := u) w)]
      simp only [beq_self_eq_true, Bool.not_true, Bool.false_eq_true, if_false]
      rfl
  | @a f fs el ki a b c hn ht z u te se ui hx hr ih =>
    rw [List.forIn_cons, if_pos (by intro h; rw [h] at hn; simp at hn)]
    rw [bind_ok (a := ForInStep.yield (none, ())) (w1 := w)]
    · simp only
      rw [ih]
    · rw [bind_ok (run_partA (ht := ht) (z := z) hx w), bind_ok (run_partA (ht := ht) (z := z) hx w), bind_ok (run_eqTri (d := d) u te se ui a b c w)]
      simp only [Bool.not_true, Bool.false_eq_true, if_false]
      rfl
theorem run_sameStruct {P : Program} {t : TypeId} {fs : List Field} (u : Und P t (.struct fs.toArray)) (hs : P.stoodInHeld t = false) {xs : Array Value} {d : Nat} (h : SameF P d xs fs) (w : World) :
    (Op.equalIn (d + 3) t (.agg xs) (.agg xs)).run P w = .ok true w := by
  unfold Op.equalIn
  rw [bind_ok (u.pf w)]
  simp only
  have hp : (program).run P w = .ok P w := rfl
  rw [bind_ok hp, if_neg (by rw [hs]; decide)]
  have hl := same_loop h w
  rw [bind_ok (a := ((none, ()) : Option Bool × Unit)) (w1 := w)]
  · rfl
  · simp only [List.forIn_toArray]
    exact hl
theorem Q.neqSame {P : Program} {ops : Array Oper} {e : Env} {o r : List PHeap} {d : Option Tmp} {ty : TypeId} {pos : String} {aft : Array Edge} {t t2 : TypeId} {x y : Operand} {fs : List Field} {us : List Value} (hx : ev e x = some (.agg us.toArray)) (hy : ev e y = some (.agg us.toArray)) (u : Und P t (.struct fs.toArray)) (hs : P.stoodInHeld t = false) (hg : P.eqGuardType P.depth t = false)
    (h : SameF P 9997 us.toArray fs) : Quiet P ops ⟨d, .binOp .neq t x y t2, ty, pos, aft, none⟩ e o r (.bool false) := .mk fun a w he _ => by
  simp only [execOp, ev_rel he hx, ev_rel he hy]
  refine run_val ?_
  rw [bind_ok (run_guardAgg hg (.inr rfl) w)]
  unfold binOp
  simp only
  have h1 : (Op.equal t (.agg us.toArray) (.agg us.toArray)).run P w = .ok true w := run_sameStruct (d := 9997) u hs h w
  rw [bind_ok h1]
  rfl
end Go.X

/- The best placement's sizes. No condition. -/
set_option linter.unusedVariables false
namespace Go.X
theorem best_bnd {t : PTask} {x : List Int × Int × List Bool} (h0 : readyG t = 0 → x = bestP t) (h1 : readyG t ≠ 0 → x = ([], 0, [])) : x.1.length ≤ 8 ∧ (-1 ≤ x.2.1 ∧ x.2.1 ≤ 8000000) ∧ x.2.2.length ≤ 4000000 := by
  by_cases rd : readyG t = 0
  · rw [h0 rd]
    obtain ⟨ok, lok⟩ := ready_ok rd
    obtain ⟨⟨f, a, e⟩, _⟩ := best_law rd
    obtain ⟨_, _, wl, _⟩ := formed_iff f
    have j8 := ok.few
    have wr := worth_rng ok (w := (bestP t).1) (bestP t).1.length (by omega)
    have e' : worthTo t (bestP t).1 (bestP t).1.length = (bestP t).2.1 := e
    rw [e', wl] at wr
    refine ⟨by omega, by omega, ?_⟩
    have k := (best_whole ok lok).2
    have pl := prove_len ok t.jobs.length [] [] (Nat.zero_le _) (Nat.sub_le _ _) k
    have h6 : 6 ^ t.jobs.length ≤ 6 ^ 8 := Nat.pow_le_pow_right (by decide) j8
    have h8 : (6 : Nat) ^ 8 = 1679616 := rfl
    have e2 : (bestP t).2.2 = proveG t (lookG t [] ([], -1)).2 [] [] := rfl
    rw [e2]
    simp only [List.length_nil] at pl
    omega
  · rw [h1 rd]; exact ⟨by decide, by decide, by decide⟩
end Go.X

/- A make under a guard that is known to hold, in a sequential region. No condition. -/
set_option linter.unusedVariables false
namespace Go.X
section
variable {c : Cx} {ops : Array Oper} {rest : List Oper} {k : List Item} {e : Env} {o r : List PHeap} {d : Nat} {ty : TypeId} {pos : String} {aft : Array Edge} {α : Type} {sz : Nat}
theorem XO.makeS {t el : TypeId} [u : Und c.P t (.slice el)] [z : TySize c.P el sz] {zs : List Value} [zz : Zero c.P el zs] {by' : Nat} [tb : TyBytes c.P el by'] {x y : Operand} {kk k' : IntKind} {n n' : Int} {i : Nat} {j gt : Nat} {want b : Bool}
    (enc : α → List Value) (x0 : α) (hj : (ops[j]?).bind (·.dst) = some gt) (hg : find e gt = some (.bool b)) (hb : b = want)
    (hx : ev e x = some (.int kk n)) (hy : ev e y = some (.int k' n')) (hnn : n = n') [ix : Idx n i] (h0 : 0 ≤ n) (h1 : n ≤ 68719476736)
    (henc : ∀ x, (enc x).length = sz) (hz : enc x0 = zs) (hsz : Nat.blt 0 sz = true) (hby : Nat.ble by' 128 = true) (ho : Ones (enc x0))
    (hnx : ∀ v' h', OArr v' enc sz el h' (List.replicate i x0) → XO c ops rest k ((d, some v') :: e) (h' :: o) r) : XO c ops (⟨some d, .makeSlice t x y, ty, pos, aft, some (j, want)⟩ :: rest) k e o r :=
  XO.s (Stp.want hj hg hb (Stp.make enc x0 hx hy hnn h0 h1 henc hz hsz hby ho)) fun v' _ ⟨h', hO, h2⟩ => by subst h2; exact hnx v' h' hO
end
end Go.X

/- The type table of this seat as instances; written by program. No condition. -/
namespace Go.X
open Go.Proofs
set_option maxRecDepth 10000
instance : Und Tryz.prog 0 (Go.TypeDesc.tuple #[]) := ⟨Tryz.runUnderlying0⟩
instance : IsAgg Tryz.prog 0 false := ⟨Tryz.isAgg0⟩
instance : TySize Tryz.prog 0 1 := ⟨Tryz.sizeOf0⟩
instance : TyBytes Tryz.prog 0 0 := ⟨_, Tryz.typeInfo0, rfl⟩
instance : Zero Tryz.prog 0 [(Go.Value.tuple #[])] := ⟨_, Tryz.zeroValue0, rfl⟩
instance : Und Tryz.prog 1 (Go.TypeDesc.func #[] #[] Bool.false) := ⟨Tryz.runUnderlying1⟩
instance : IsAgg Tryz.prog 1 false := ⟨Tryz.isAgg1⟩
instance : TySize Tryz.prog 1 1 := ⟨Tryz.sizeOf1⟩
instance : TyBytes Tryz.prog 1 8 := ⟨_, Tryz.typeInfo1, rfl⟩
instance : Zero Tryz.prog 1 [Go.Value.nilFunc] := ⟨_, Tryz.zeroValue1, rfl⟩
instance : Und Tryz.prog 2 (Go.TypeDesc.int Go.IntKind.i64) := ⟨Tryz.runUnderlying2⟩
instance : IsAgg Tryz.prog 2 false := ⟨Tryz.isAgg2⟩
instance : TySize Tryz.prog 2 1 := ⟨Tryz.sizeOf2⟩
instance : TyBytes Tryz.prog 2 8 := ⟨_, Tryz.typeInfo2, rfl⟩
instance : Zero Tryz.prog 2 [(Go.Value.int Go.IntKind.i64 0)] := ⟨_, Tryz.zeroValue2, rfl⟩
instance : Und Tryz.prog 3 (Go.TypeDesc.int Go.IntKind.i64) := ⟨Tryz.runUnderlying3⟩
instance : IsAgg Tryz.prog 3 false := ⟨Tryz.isAgg3⟩
instance : TySize Tryz.prog 3 1 := ⟨Tryz.sizeOf3⟩
instance : TyBytes Tryz.prog 3 8 := ⟨_, Tryz.typeInfo3, rfl⟩
instance : Zero Tryz.prog 3 [(Go.Value.int Go.IntKind.i64 0)] := ⟨_, Tryz.zeroValue3, rfl⟩
instance : Und Tryz.prog 4 Go.TypeDesc.bool := ⟨Tryz.runUnderlying4⟩
instance : IsAgg Tryz.prog 4 false := ⟨Tryz.isAgg4⟩
instance : TySize Tryz.prog 4 1 := ⟨Tryz.sizeOf4⟩
instance : TyBytes Tryz.prog 4 1 := ⟨_, Tryz.typeInfo4, rfl⟩
instance : Zero Tryz.prog 4 [(Go.Value.bool Bool.false)] := ⟨_, Tryz.zeroValue4, rfl⟩
instance : Und Tryz.prog 5 (Go.TypeDesc.int Go.IntKind.u8) := ⟨Tryz.runUnderlying5⟩
instance : IsAgg Tryz.prog 5 false := ⟨Tryz.isAgg5⟩
instance : TySize Tryz.prog 5 1 := ⟨Tryz.sizeOf5⟩
instance : TyBytes Tryz.prog 5 1 := ⟨_, Tryz.typeInfo5, rfl⟩
instance : Zero Tryz.prog 5 [(Go.Value.int Go.IntKind.u8 0)] := ⟨_, Tryz.zeroValue5, rfl⟩
instance : Und Tryz.prog 6 (Go.TypeDesc.int Go.IntKind.u8) := ⟨Tryz.runUnderlying6⟩
instance : IsAgg Tryz.prog 6 false := ⟨Tryz.isAgg6⟩
instance : TySize Tryz.prog 6 1 := ⟨Tryz.sizeOf6⟩
instance : TyBytes Tryz.prog 6 1 := ⟨_, Tryz.typeInfo6, rfl⟩
instance : Zero Tryz.prog 6 [(Go.Value.int Go.IntKind.u8 0)] := ⟨_, Tryz.zeroValue6, rfl⟩
instance : Und Tryz.prog 7 (Go.TypeDesc.struct #[(Go.Field.mk "x" 2 0 Bool.false "" "runtime" 0), (Go.Field.mk "y" 3 1 Bool.false "" "runtime" 8), (Go.Field.mk "signed" 4 2 Bool.false "" "runtime" 16), (Go.Field.mk "code" 6 3 Bool.false "" "runtime" 17)]) := ⟨Tryz.runUnderlying7⟩
instance : IsAgg Tryz.prog 7 true := ⟨Tryz.isAgg7⟩
instance : TySize Tryz.prog 7 4 := ⟨Tryz.sizeOf7⟩
instance : TyBytes Tryz.prog 7 24 := ⟨_, Tryz.typeInfo7, rfl⟩
instance : Zero Tryz.prog 7 [(Go.Value.int Go.IntKind.i64 0), (Go.Value.int Go.IntKind.i64 0), (Go.Value.bool Bool.false), (Go.Value.int Go.IntKind.u8 0)] := ⟨_, Tryz.zeroValue7, rfl⟩
instance : Fld Tryz.prog 7 0 0 := Fld.of (n := 1) ⟨Tryz.runUnderlying7⟩ rfl ⟨Tryz.sizeOf2⟩ (by decide) rfl
instance : Fld Tryz.prog 7 1 1 := Fld.of (n := 1) ⟨Tryz.runUnderlying7⟩ rfl ⟨Tryz.sizeOf3⟩ (by decide) rfl
instance : Fld Tryz.prog 7 2 2 := Fld.of (n := 1) ⟨Tryz.runUnderlying7⟩ rfl ⟨Tryz.sizeOf4⟩ (by decide) rfl
instance : Fld Tryz.prog 7 3 3 := Fld.of (n := 1) ⟨Tryz.runUnderlying7⟩ rfl ⟨Tryz.sizeOf6⟩ (by decide) rfl
instance : Places Tryz.prog 7 (fun i => ([(0, 1), (1, 1), (2, 1), (3, 1)] : List (Nat × Nat))[i]?) := Places.struct ⟨Tryz.runUnderlying7⟩ (.c Tryz.sizeOf2 (.c Tryz.sizeOf3 (.c Tryz.sizeOf4 (.c Tryz.sizeOf6 .n))))
instance : Und Tryz.prog 8 (Go.TypeDesc.struct #[(Go.Field.mk "x" 2 0 Bool.false "" "runtime" 0), (Go.Field.mk "y" 3 1 Bool.false "" "runtime" 8), (Go.Field.mk "signed" 4 2 Bool.false "" "runtime" 16), (Go.Field.mk "code" 6 3 Bool.false "" "runtime" 17)]) := ⟨Tryz.runUnderlying8⟩
instance : IsAgg Tryz.prog 8 true := ⟨Tryz.isAgg8⟩
instance : TySize Tryz.prog 8 4 := ⟨Tryz.sizeOf8⟩
instance : TyBytes Tryz.prog 8 24 := ⟨_, Tryz.typeInfo8, rfl⟩
instance : Zero Tryz.prog 8 [(Go.Value.int Go.IntKind.i64 0), (Go.Value.int Go.IntKind.i64 0), (Go.Value.bool Bool.false), (Go.Value.int Go.IntKind.u8 0)] := ⟨_, Tryz.zeroValue8, rfl⟩
instance : Fld Tryz.prog 8 0 0 := Fld.of (n := 1) ⟨Tryz.runUnderlying8⟩ rfl ⟨Tryz.sizeOf2⟩ (by decide) rfl
instance : Fld Tryz.prog 8 1 1 := Fld.of (n := 1) ⟨Tryz.runUnderlying8⟩ rfl ⟨Tryz.sizeOf3⟩ (by decide) rfl
instance : Fld Tryz.prog 8 2 2 := Fld.of (n := 1) ⟨Tryz.runUnderlying8⟩ rfl ⟨Tryz.sizeOf4⟩ (by decide) rfl
instance : Fld Tryz.prog 8 3 3 := Fld.of (n := 1) ⟨Tryz.runUnderlying8⟩ rfl ⟨Tryz.sizeOf6⟩ (by decide) rfl
instance : Places Tryz.prog 8 (fun i => ([(0, 1), (1, 1), (2, 1), (3, 1)] : List (Nat × Nat))[i]?) := Places.struct ⟨Tryz.runUnderlying8⟩ (.c Tryz.sizeOf2 (.c Tryz.sizeOf3 (.c Tryz.sizeOf4 (.c Tryz.sizeOf6 .n))))
instance : Und Tryz.prog 9 Go.TypeDesc.string := ⟨Tryz.runUnderlying9⟩
instance : IsAgg Tryz.prog 9 false := ⟨Tryz.isAgg9⟩
instance : TySize Tryz.prog 9 1 := ⟨Tryz.sizeOf9⟩
instance : TyBytes Tryz.prog 9 16 := ⟨_, Tryz.typeInfo9, rfl⟩
instance : Zero Tryz.prog 9 [(Go.Value.string (ByteArray.mk #[]))] := ⟨_, Tryz.zeroValue9, rfl⟩
instance : Und Tryz.prog 10 Go.TypeDesc.string := ⟨Tryz.runUnderlying10⟩
instance : IsAgg Tryz.prog 10 false := ⟨Tryz.isAgg10⟩
instance : TySize Tryz.prog 10 1 := ⟨Tryz.sizeOf10⟩
instance : TyBytes Tryz.prog 10 16 := ⟨_, Tryz.typeInfo10, rfl⟩
instance : Zero Tryz.prog 10 [(Go.Value.string (ByteArray.mk #[]))] := ⟨_, Tryz.zeroValue10, rfl⟩
instance : Und Tryz.prog 11 Go.TypeDesc.string := ⟨Tryz.runUnderlying11⟩
instance : IsAgg Tryz.prog 11 false := ⟨Tryz.isAgg11⟩
instance : TySize Tryz.prog 11 1 := ⟨Tryz.sizeOf11⟩
instance : TyBytes Tryz.prog 11 16 := ⟨_, Tryz.typeInfo11, rfl⟩
instance : Zero Tryz.prog 11 [(Go.Value.string (ByteArray.mk #[]))] := ⟨_, Tryz.zeroValue11, rfl⟩
instance : Und Tryz.prog 12 (Go.TypeDesc.int Go.IntKind.u64) := ⟨Tryz.runUnderlying12⟩
instance : IsAgg Tryz.prog 12 false := ⟨Tryz.isAgg12⟩
instance : TySize Tryz.prog 12 1 := ⟨Tryz.sizeOf12⟩
instance : TyBytes Tryz.prog 12 8 := ⟨_, Tryz.typeInfo12, rfl⟩
instance : Zero Tryz.prog 12 [(Go.Value.int Go.IntKind.u64 0)] := ⟨_, Tryz.zeroValue12, rfl⟩
instance : Und Tryz.prog 14 (Go.TypeDesc.struct #[(Go.Field.mk "msg" 9 0 Bool.false "" "runtime" 0), (Go.Field.mk "addr" 12 1 Bool.false "" "runtime" 16)]) := ⟨Tryz.runUnderlying14⟩
instance : IsAgg Tryz.prog 14 true := ⟨Tryz.isAgg14⟩
instance : TySize Tryz.prog 14 2 := ⟨Tryz.sizeOf14⟩
instance : TyBytes Tryz.prog 14 24 := ⟨_, Tryz.typeInfo14, rfl⟩
instance : Zero Tryz.prog 14 [(Go.Value.string (ByteArray.mk #[])), (Go.Value.int Go.IntKind.u64 0)] := ⟨_, Tryz.zeroValue14, rfl⟩
instance : Fld Tryz.prog 14 0 0 := Fld.of (n := 1) ⟨Tryz.runUnderlying14⟩ rfl ⟨Tryz.sizeOf9⟩ (by decide) rfl
instance : Fld Tryz.prog 14 1 1 := Fld.of (n := 1) ⟨Tryz.runUnderlying14⟩ rfl ⟨Tryz.sizeOf12⟩ (by decide) rfl
instance : Places Tryz.prog 14 (fun i => ([(0, 1), (1, 1)] : List (Nat × Nat))[i]?) := Places.struct ⟨Tryz.runUnderlying14⟩ (.c Tryz.sizeOf9 (.c Tryz.sizeOf12 .n))
instance : Und Tryz.prog 22 (Go.TypeDesc.slice 41) := ⟨Tryz.runUnderlying22⟩
instance : IsAgg Tryz.prog 22 false := ⟨Tryz.isAgg22⟩
instance : TySize Tryz.prog 22 1 := ⟨Tryz.sizeOf22⟩
instance : TyBytes Tryz.prog 22 24 := ⟨_, Tryz.typeInfo22, rfl⟩
instance : Zero Tryz.prog 22 [(Go.Value.slice none 0 0)] := ⟨_, Tryz.zeroValue22, rfl⟩
instance : Und Tryz.prog 23 (Go.TypeDesc.slice 43) := ⟨Tryz.runUnderlying23⟩
instance : IsAgg Tryz.prog 23 false := ⟨Tryz.isAgg23⟩
instance : TySize Tryz.prog 23 1 := ⟨Tryz.sizeOf23⟩
instance : TyBytes Tryz.prog 23 24 := ⟨_, Tryz.typeInfo23, rfl⟩
instance : Zero Tryz.prog 23 [(Go.Value.slice none 0 0)] := ⟨_, Tryz.zeroValue23, rfl⟩
instance : Und Tryz.prog 25 (Go.TypeDesc.struct #[(Go.Field.mk "N" 3 0 Bool.false "" "" 0), (Go.Field.mk "D" 3 1 Bool.false "" "" 8)]) := ⟨Tryz.runUnderlying25⟩
instance : IsAgg Tryz.prog 25 true := ⟨Tryz.isAgg25⟩
instance : TySize Tryz.prog 25 2 := ⟨Tryz.sizeOf25⟩
instance : TyBytes Tryz.prog 25 16 := ⟨_, Tryz.typeInfo25, rfl⟩
instance : Zero Tryz.prog 25 [(Go.Value.int Go.IntKind.i64 0), (Go.Value.int Go.IntKind.i64 0)] := ⟨_, Tryz.zeroValue25, rfl⟩
instance : Fld Tryz.prog 25 0 0 := Fld.of (n := 1) ⟨Tryz.runUnderlying25⟩ rfl ⟨Tryz.sizeOf3⟩ (by decide) rfl
instance : Fld Tryz.prog 25 1 1 := Fld.of (n := 1) ⟨Tryz.runUnderlying25⟩ rfl ⟨Tryz.sizeOf3⟩ (by decide) rfl
instance : Places Tryz.prog 25 (fun i => ([(0, 1), (1, 1)] : List (Nat × Nat))[i]?) := Places.struct ⟨Tryz.runUnderlying25⟩ (.c Tryz.sizeOf3 (.c Tryz.sizeOf3 .n))
instance : Und Tryz.prog 27 (Go.TypeDesc.struct #[(Go.Field.mk "Jobs" 22 0 Bool.false "" "" 0), (Go.Field.mk "Racks" 23 1 Bool.false "" "" 24), (Go.Field.mk "Most" 25 2 Bool.false "" "" 48)]) := ⟨Tryz.runUnderlying27⟩
instance : IsAgg Tryz.prog 27 true := ⟨Tryz.isAgg27⟩
instance : TySize Tryz.prog 27 4 := ⟨Tryz.sizeOf27⟩
instance : TyBytes Tryz.prog 27 64 := ⟨_, Tryz.typeInfo27, rfl⟩
instance : Zero Tryz.prog 27 [(Go.Value.slice none 0 0), (Go.Value.slice none 0 0), (Go.Value.int Go.IntKind.i64 0), (Go.Value.int Go.IntKind.i64 0)] := ⟨_, Tryz.zeroValue27, rfl⟩
instance : Fld Tryz.prog 27 0 0 := Fld.of (n := 1) ⟨Tryz.runUnderlying27⟩ rfl ⟨Tryz.sizeOf22⟩ (by decide) rfl
instance : Fld Tryz.prog 27 1 1 := Fld.of (n := 1) ⟨Tryz.runUnderlying27⟩ rfl ⟨Tryz.sizeOf23⟩ (by decide) rfl
instance : Fld Tryz.prog 27 2 2 := Fld.of (n := 2) ⟨Tryz.runUnderlying27⟩ rfl ⟨Tryz.sizeOf25⟩ (by decide) rfl
instance : Places Tryz.prog 27 (fun i => ([(0, 1), (1, 1), (2, 2)] : List (Nat × Nat))[i]?) := Places.struct ⟨Tryz.runUnderlying27⟩ (.c Tryz.sizeOf22 (.c Tryz.sizeOf23 (.c Tryz.sizeOf25 .n)))
instance : Und Tryz.prog 28 (Go.TypeDesc.slice 3) := ⟨Tryz.runUnderlying28⟩
instance : IsAgg Tryz.prog 28 false := ⟨Tryz.isAgg28⟩
instance : TySize Tryz.prog 28 1 := ⟨Tryz.sizeOf28⟩
instance : TyBytes Tryz.prog 28 24 := ⟨_, Tryz.typeInfo28, rfl⟩
instance : Zero Tryz.prog 28 [(Go.Value.slice none 0 0)] := ⟨_, Tryz.zeroValue28, rfl⟩
instance : Und Tryz.prog 29 (Go.TypeDesc.slice 4) := ⟨Tryz.runUnderlying29⟩
instance : IsAgg Tryz.prog 29 false := ⟨Tryz.isAgg29⟩
instance : TySize Tryz.prog 29 1 := ⟨Tryz.sizeOf29⟩
instance : TyBytes Tryz.prog 29 24 := ⟨_, Tryz.typeInfo29, rfl⟩
instance : Zero Tryz.prog 29 [(Go.Value.slice none 0 0)] := ⟨_, Tryz.zeroValue29, rfl⟩
instance : Und Tryz.prog 31 (Go.TypeDesc.struct #[(Go.Field.mk "Where" 28 0 Bool.false "" "" 0), (Go.Field.mk "Worth" 3 1 Bool.false "" "" 24), (Go.Field.mk "Proof" 29 2 Bool.false "" "" 32)]) := ⟨Tryz.runUnderlying31⟩
instance : IsAgg Tryz.prog 31 true := ⟨Tryz.isAgg31⟩
instance : TySize Tryz.prog 31 3 := ⟨Tryz.sizeOf31⟩
instance : TyBytes Tryz.prog 31 56 := ⟨_, Tryz.typeInfo31, rfl⟩
instance : Zero Tryz.prog 31 [(Go.Value.slice none 0 0), (Go.Value.int Go.IntKind.i64 0), (Go.Value.slice none 0 0)] := ⟨_, Tryz.zeroValue31, rfl⟩
instance : Fld Tryz.prog 31 0 0 := Fld.of (n := 1) ⟨Tryz.runUnderlying31⟩ rfl ⟨Tryz.sizeOf28⟩ (by decide) rfl
instance : Fld Tryz.prog 31 1 1 := Fld.of (n := 1) ⟨Tryz.runUnderlying31⟩ rfl ⟨Tryz.sizeOf3⟩ (by decide) rfl
instance : Fld Tryz.prog 31 2 2 := Fld.of (n := 1) ⟨Tryz.runUnderlying31⟩ rfl ⟨Tryz.sizeOf29⟩ (by decide) rfl
instance : Places Tryz.prog 31 (fun i => ([(0, 1), (1, 1), (2, 1)] : List (Nat × Nat))[i]?) := Places.struct ⟨Tryz.runUnderlying31⟩ (.c Tryz.sizeOf28 (.c Tryz.sizeOf3 (.c Tryz.sizeOf29 .n)))
instance : Und Tryz.prog 35 (Go.TypeDesc.slice 25) := ⟨Tryz.runUnderlying35⟩
instance : IsAgg Tryz.prog 35 false := ⟨Tryz.isAgg35⟩
instance : TySize Tryz.prog 35 1 := ⟨Tryz.sizeOf35⟩
instance : TyBytes Tryz.prog 35 24 := ⟨_, Tryz.typeInfo35, rfl⟩
instance : Zero Tryz.prog 35 [(Go.Value.slice none 0 0)] := ⟨_, Tryz.zeroValue35, rfl⟩
instance : Und Tryz.prog 36 (Go.TypeDesc.array 3 3) := ⟨Tryz.runUnderlying36⟩
instance : IsAgg Tryz.prog 36 true := ⟨Tryz.isAgg36⟩
instance : TySize Tryz.prog 36 3 := ⟨Tryz.sizeOf36⟩
instance : TyBytes Tryz.prog 36 24 := ⟨_, Tryz.typeInfo36, rfl⟩
instance : Zero Tryz.prog 36 [(Go.Value.int Go.IntKind.i64 0), (Go.Value.int Go.IntKind.i64 0), (Go.Value.int Go.IntKind.i64 0)] := ⟨_, Tryz.zeroValue36, rfl⟩
instance : Places Tryz.prog 36 (fun i => some (i * 1, 1)) := Places.array ⟨Tryz.runUnderlying36⟩ ⟨Tryz.sizeOf3⟩
instance : Und Tryz.prog 38 (Go.TypeDesc.struct #[(Go.Field.mk "Power" 3 0 Bool.false "" "" 0), (Go.Field.mk "Count" 3 1 Bool.false "" "" 8)]) := ⟨Tryz.runUnderlying38⟩
instance : IsAgg Tryz.prog 38 true := ⟨Tryz.isAgg38⟩
instance : TySize Tryz.prog 38 2 := ⟨Tryz.sizeOf38⟩
instance : TyBytes Tryz.prog 38 16 := ⟨_, Tryz.typeInfo38, rfl⟩
instance : Zero Tryz.prog 38 [(Go.Value.int Go.IntKind.i64 0), (Go.Value.int Go.IntKind.i64 0)] := ⟨_, Tryz.zeroValue38, rfl⟩
instance : Fld Tryz.prog 38 0 0 := Fld.of (n := 1) ⟨Tryz.runUnderlying38⟩ rfl ⟨Tryz.sizeOf3⟩ (by decide) rfl
instance : Fld Tryz.prog 38 1 1 := Fld.of (n := 1) ⟨Tryz.runUnderlying38⟩ rfl ⟨Tryz.sizeOf3⟩ (by decide) rfl
instance : Places Tryz.prog 38 (fun i => ([(0, 1), (1, 1)] : List (Nat × Nat))[i]?) := Places.struct ⟨Tryz.runUnderlying38⟩ (.c Tryz.sizeOf3 (.c Tryz.sizeOf3 .n))
instance : Und Tryz.prog 39 (Go.TypeDesc.slice 38) := ⟨Tryz.runUnderlying39⟩
instance : IsAgg Tryz.prog 39 false := ⟨Tryz.isAgg39⟩
instance : TySize Tryz.prog 39 1 := ⟨Tryz.sizeOf39⟩
instance : TyBytes Tryz.prog 39 24 := ⟨_, Tryz.typeInfo39, rfl⟩
instance : Zero Tryz.prog 39 [(Go.Value.slice none 0 0)] := ⟨_, Tryz.zeroValue39, rfl⟩
instance : Und Tryz.prog 41 (Go.TypeDesc.struct #[(Go.Field.mk "Need" 36 0 Bool.false "" "" 0), (Go.Field.mk "Draws" 39 3 Bool.false "" "" 24), (Go.Field.mk "Group" 3 4 Bool.false "" "" 48), (Go.Field.mk "Worth" 3 5 Bool.false "" "" 56)]) := ⟨Tryz.runUnderlying41⟩
instance : IsAgg Tryz.prog 41 true := ⟨Tryz.isAgg41⟩
instance : TySize Tryz.prog 41 6 := ⟨Tryz.sizeOf41⟩
instance : TyBytes Tryz.prog 41 64 := ⟨_, Tryz.typeInfo41, rfl⟩
instance : Zero Tryz.prog 41 [(Go.Value.int Go.IntKind.i64 0), (Go.Value.int Go.IntKind.i64 0), (Go.Value.int Go.IntKind.i64 0), (Go.Value.slice none 0 0), (Go.Value.int Go.IntKind.i64 0), (Go.Value.int Go.IntKind.i64 0)] := ⟨_, Tryz.zeroValue41, rfl⟩
instance : Fld Tryz.prog 41 0 0 := Fld.of (n := 3) ⟨Tryz.runUnderlying41⟩ rfl ⟨Tryz.sizeOf36⟩ (by decide) rfl
instance : Fld Tryz.prog 41 1 3 := Fld.of (n := 1) ⟨Tryz.runUnderlying41⟩ rfl ⟨Tryz.sizeOf39⟩ (by decide) rfl
instance : Fld Tryz.prog 41 2 4 := Fld.of (n := 1) ⟨Tryz.runUnderlying41⟩ rfl ⟨Tryz.sizeOf3⟩ (by decide) rfl
instance : Fld Tryz.prog 41 3 5 := Fld.of (n := 1) ⟨Tryz.runUnderlying41⟩ rfl ⟨Tryz.sizeOf3⟩ (by decide) rfl
instance : Places Tryz.prog 41 (fun i => ([(0, 3), (3, 1), (4, 1), (5, 1)] : List (Nat × Nat))[i]?) := Places.struct ⟨Tryz.runUnderlying41⟩ (.c Tryz.sizeOf36 (.c Tryz.sizeOf39 (.c Tryz.sizeOf3 (.c Tryz.sizeOf3 .n))))
instance : Und Tryz.prog 43 (Go.TypeDesc.struct #[(Go.Field.mk "Room" 36 0 Bool.false "" "" 0), (Go.Field.mk "Cap" 3 3 Bool.false "" "" 24), (Go.Field.mk "Domain" 3 4 Bool.false "" "" 32)]) := ⟨Tryz.runUnderlying43⟩
instance : IsAgg Tryz.prog 43 true := ⟨Tryz.isAgg43⟩
instance : TySize Tryz.prog 43 5 := ⟨Tryz.sizeOf43⟩
instance : TyBytes Tryz.prog 43 40 := ⟨_, Tryz.typeInfo43, rfl⟩
instance : Zero Tryz.prog 43 [(Go.Value.int Go.IntKind.i64 0), (Go.Value.int Go.IntKind.i64 0), (Go.Value.int Go.IntKind.i64 0), (Go.Value.int Go.IntKind.i64 0), (Go.Value.int Go.IntKind.i64 0)] := ⟨_, Tryz.zeroValue43, rfl⟩
instance : Fld Tryz.prog 43 0 0 := Fld.of (n := 3) ⟨Tryz.runUnderlying43⟩ rfl ⟨Tryz.sizeOf36⟩ (by decide) rfl
instance : Fld Tryz.prog 43 1 3 := Fld.of (n := 1) ⟨Tryz.runUnderlying43⟩ rfl ⟨Tryz.sizeOf3⟩ (by decide) rfl
instance : Fld Tryz.prog 43 2 4 := Fld.of (n := 1) ⟨Tryz.runUnderlying43⟩ rfl ⟨Tryz.sizeOf3⟩ (by decide) rfl
instance : Places Tryz.prog 43 (fun i => ([(0, 3), (3, 1), (4, 1)] : List (Nat × Nat))[i]?) := Places.struct ⟨Tryz.runUnderlying43⟩ (.c Tryz.sizeOf36 (.c Tryz.sizeOf3 (.c Tryz.sizeOf3 .n)))
instance : Und Tryz.prog 44 (Go.TypeDesc.slice 124) := ⟨Tryz.runUnderlying44⟩
instance : IsAgg Tryz.prog 44 false := ⟨Tryz.isAgg44⟩
instance : TySize Tryz.prog 44 1 := ⟨Tryz.sizeOf44⟩
instance : TyBytes Tryz.prog 44 24 := ⟨_, Tryz.typeInfo44, rfl⟩
instance : Zero Tryz.prog 44 [(Go.Value.slice none 0 0)] := ⟨_, Tryz.zeroValue44, rfl⟩
instance : Und Tryz.prog 45 (Go.TypeDesc.slice 98) := ⟨Tryz.runUnderlying45⟩
instance : IsAgg Tryz.prog 45 false := ⟨Tryz.isAgg45⟩
instance : TySize Tryz.prog 45 1 := ⟨Tryz.sizeOf45⟩
instance : TyBytes Tryz.prog 45 24 := ⟨_, Tryz.typeInfo45, rfl⟩
instance : Zero Tryz.prog 45 [(Go.Value.slice none 0 0)] := ⟨_, Tryz.zeroValue45, rfl⟩
instance : Und Tryz.prog 47 (Go.TypeDesc.struct #[(Go.Field.mk "Jobs" 44 0 Bool.false "" "" 0), (Go.Field.mk "Racks" 45 1 Bool.false "" "" 24), (Go.Field.mk "Most" 25 2 Bool.false "" "" 48)]) := ⟨Tryz.runUnderlying47⟩
instance : IsAgg Tryz.prog 47 true := ⟨Tryz.isAgg47⟩
instance : TySize Tryz.prog 47 4 := ⟨Tryz.sizeOf47⟩
instance : TyBytes Tryz.prog 47 64 := ⟨_, Tryz.typeInfo47, rfl⟩
instance : Zero Tryz.prog 47 [(Go.Value.slice none 0 0), (Go.Value.slice none 0 0), (Go.Value.int Go.IntKind.i64 0), (Go.Value.int Go.IntKind.i64 0)] := ⟨_, Tryz.zeroValue47, rfl⟩
instance : Fld Tryz.prog 47 0 0 := Fld.of (n := 1) ⟨Tryz.runUnderlying47⟩ rfl ⟨Tryz.sizeOf44⟩ (by decide) rfl
instance : Fld Tryz.prog 47 1 1 := Fld.of (n := 1) ⟨Tryz.runUnderlying47⟩ rfl ⟨Tryz.sizeOf45⟩ (by decide) rfl
instance : Fld Tryz.prog 47 2 2 := Fld.of (n := 2) ⟨Tryz.runUnderlying47⟩ rfl ⟨Tryz.sizeOf25⟩ (by decide) rfl
instance : Places Tryz.prog 47 (fun i => ([(0, 1), (1, 1), (2, 2)] : List (Nat × Nat))[i]?) := Places.struct ⟨Tryz.runUnderlying47⟩ (.c Tryz.sizeOf44 (.c Tryz.sizeOf45 (.c Tryz.sizeOf25 .n)))
instance : Und Tryz.prog 51 (Go.TypeDesc.pointer 3) := ⟨Tryz.runUnderlying51⟩
instance : IsAgg Tryz.prog 51 false := ⟨Tryz.isAgg51⟩
instance : TySize Tryz.prog 51 1 := ⟨Tryz.sizeOf51⟩
instance : TyBytes Tryz.prog 51 8 := ⟨_, Tryz.typeInfo51, rfl⟩
instance : Zero Tryz.prog 51 [(Go.Value.pointer none)] := ⟨_, Tryz.zeroValue51, rfl⟩
instance : Und Tryz.prog 52 (Go.TypeDesc.slice 51) := ⟨Tryz.runUnderlying52⟩
instance : IsAgg Tryz.prog 52 false := ⟨Tryz.isAgg52⟩
instance : TySize Tryz.prog 52 1 := ⟨Tryz.sizeOf52⟩
instance : TyBytes Tryz.prog 52 24 := ⟨_, Tryz.typeInfo52, rfl⟩
instance : Zero Tryz.prog 52 [(Go.Value.slice none 0 0)] := ⟨_, Tryz.zeroValue52, rfl⟩
instance : Und Tryz.prog 56 (Go.TypeDesc.slice 22) := ⟨Tryz.runUnderlying56⟩
instance : IsAgg Tryz.prog 56 false := ⟨Tryz.isAgg56⟩
instance : TySize Tryz.prog 56 1 := ⟨Tryz.sizeOf56⟩
instance : TyBytes Tryz.prog 56 24 := ⟨_, Tryz.typeInfo56, rfl⟩
instance : Zero Tryz.prog 56 [(Go.Value.slice none 0 0)] := ⟨_, Tryz.zeroValue56, rfl⟩
instance : Und Tryz.prog 63 (Go.TypeDesc.int Go.IntKind.i64) := ⟨Tryz.runUnderlying63⟩
instance : IsAgg Tryz.prog 63 false := ⟨Tryz.isAgg63⟩
instance : TySize Tryz.prog 63 1 := ⟨Tryz.sizeOf63⟩
instance : TyBytes Tryz.prog 63 8 := ⟨_, Tryz.typeInfo63, rfl⟩
instance : Zero Tryz.prog 63 [(Go.Value.int Go.IntKind.i64 0)] := ⟨_, Tryz.zeroValue63, rfl⟩
instance : Und Tryz.prog 69 (Go.TypeDesc.slice 74) := ⟨Tryz.runUnderlying69⟩
instance : IsAgg Tryz.prog 69 false := ⟨Tryz.isAgg69⟩
instance : TySize Tryz.prog 69 1 := ⟨Tryz.sizeOf69⟩
instance : TyBytes Tryz.prog 69 24 := ⟨_, Tryz.typeInfo69, rfl⟩
instance : Zero Tryz.prog 69 [(Go.Value.slice none 0 0)] := ⟨_, Tryz.zeroValue69, rfl⟩
instance : Und Tryz.prog 74 (Go.TypeDesc.array 4 3) := ⟨Tryz.runUnderlying74⟩
instance : IsAgg Tryz.prog 74 true := ⟨Tryz.isAgg74⟩
instance : TySize Tryz.prog 74 4 := ⟨Tryz.sizeOf74⟩
instance : TyBytes Tryz.prog 74 32 := ⟨_, Tryz.typeInfo74, rfl⟩
instance : Zero Tryz.prog 74 [(Go.Value.int Go.IntKind.i64 0), (Go.Value.int Go.IntKind.i64 0), (Go.Value.int Go.IntKind.i64 0), (Go.Value.int Go.IntKind.i64 0)] := ⟨_, Tryz.zeroValue74, rfl⟩
instance : Places Tryz.prog 74 (fun i => some (i * 1, 1)) := Places.array ⟨Tryz.runUnderlying74⟩ ⟨Tryz.sizeOf3⟩
instance : Und Tryz.prog 77 (Go.TypeDesc.struct #[(Go.Field.mk "Where" 28 0 Bool.false "" "" 0), (Go.Field.mk "Worth" 3 1 Bool.false "" "" 24), (Go.Field.mk "Proof" 29 2 Bool.false "" "" 32)]) := ⟨Tryz.runUnderlying77⟩
instance : IsAgg Tryz.prog 77 true := ⟨Tryz.isAgg77⟩
instance : TySize Tryz.prog 77 3 := ⟨Tryz.sizeOf77⟩
instance : TyBytes Tryz.prog 77 56 := ⟨_, Tryz.typeInfo77, rfl⟩
instance : Zero Tryz.prog 77 [(Go.Value.slice none 0 0), (Go.Value.int Go.IntKind.i64 0), (Go.Value.slice none 0 0)] := ⟨_, Tryz.zeroValue77, rfl⟩
instance : Fld Tryz.prog 77 0 0 := Fld.of (n := 1) ⟨Tryz.runUnderlying77⟩ rfl ⟨Tryz.sizeOf28⟩ (by decide) rfl
instance : Fld Tryz.prog 77 1 1 := Fld.of (n := 1) ⟨Tryz.runUnderlying77⟩ rfl ⟨Tryz.sizeOf3⟩ (by decide) rfl
instance : Fld Tryz.prog 77 2 2 := Fld.of (n := 1) ⟨Tryz.runUnderlying77⟩ rfl ⟨Tryz.sizeOf29⟩ (by decide) rfl
instance : Places Tryz.prog 77 (fun i => ([(0, 1), (1, 1), (2, 1)] : List (Nat × Nat))[i]?) := Places.struct ⟨Tryz.runUnderlying77⟩ (.c Tryz.sizeOf28 (.c Tryz.sizeOf3 (.c Tryz.sizeOf29 .n)))
instance : Und Tryz.prog 83 (Go.TypeDesc.slice 31) := ⟨Tryz.runUnderlying83⟩
instance : IsAgg Tryz.prog 83 false := ⟨Tryz.isAgg83⟩
instance : TySize Tryz.prog 83 1 := ⟨Tryz.sizeOf83⟩
instance : TyBytes Tryz.prog 83 24 := ⟨_, Tryz.typeInfo83, rfl⟩
instance : Zero Tryz.prog 83 [(Go.Value.slice none 0 0)] := ⟨_, Tryz.zeroValue83, rfl⟩
instance : Und Tryz.prog 98 (Go.TypeDesc.struct #[(Go.Field.mk "Room" 36 0 Bool.false "" "" 0), (Go.Field.mk "Cap" 3 3 Bool.false "" "" 24), (Go.Field.mk "Domain" 3 4 Bool.false "" "" 32)]) := ⟨Tryz.runUnderlying98⟩
instance : IsAgg Tryz.prog 98 true := ⟨Tryz.isAgg98⟩
instance : TySize Tryz.prog 98 5 := ⟨Tryz.sizeOf98⟩
instance : TyBytes Tryz.prog 98 40 := ⟨_, Tryz.typeInfo98, rfl⟩
instance : Zero Tryz.prog 98 [(Go.Value.int Go.IntKind.i64 0), (Go.Value.int Go.IntKind.i64 0), (Go.Value.int Go.IntKind.i64 0), (Go.Value.int Go.IntKind.i64 0), (Go.Value.int Go.IntKind.i64 0)] := ⟨_, Tryz.zeroValue98, rfl⟩
instance : Fld Tryz.prog 98 0 0 := Fld.of (n := 3) ⟨Tryz.runUnderlying98⟩ rfl ⟨Tryz.sizeOf36⟩ (by decide) rfl
instance : Fld Tryz.prog 98 1 3 := Fld.of (n := 1) ⟨Tryz.runUnderlying98⟩ rfl ⟨Tryz.sizeOf3⟩ (by decide) rfl
instance : Fld Tryz.prog 98 2 4 := Fld.of (n := 1) ⟨Tryz.runUnderlying98⟩ rfl ⟨Tryz.sizeOf3⟩ (by decide) rfl
instance : Places Tryz.prog 98 (fun i => ([(0, 3), (3, 1), (4, 1)] : List (Nat × Nat))[i]?) := Places.struct ⟨Tryz.runUnderlying98⟩ (.c Tryz.sizeOf36 (.c Tryz.sizeOf3 (.c Tryz.sizeOf3 .n)))
instance : Und Tryz.prog 99 (Go.TypeDesc.slice 103) := ⟨Tryz.runUnderlying99⟩
instance : IsAgg Tryz.prog 99 false := ⟨Tryz.isAgg99⟩
instance : TySize Tryz.prog 99 1 := ⟨Tryz.sizeOf99⟩
instance : TyBytes Tryz.prog 99 24 := ⟨_, Tryz.typeInfo99, rfl⟩
instance : Zero Tryz.prog 99 [(Go.Value.slice none 0 0)] := ⟨_, Tryz.zeroValue99, rfl⟩
instance : Und Tryz.prog 103 (Go.TypeDesc.struct #[(Go.Field.mk "Power" 3 0 Bool.false "" "" 0), (Go.Field.mk "Count" 3 1 Bool.false "" "" 8)]) := ⟨Tryz.runUnderlying103⟩
instance : IsAgg Tryz.prog 103 true := ⟨Tryz.isAgg103⟩
instance : TySize Tryz.prog 103 2 := ⟨Tryz.sizeOf103⟩
instance : TyBytes Tryz.prog 103 16 := ⟨_, Tryz.typeInfo103, rfl⟩
instance : Zero Tryz.prog 103 [(Go.Value.int Go.IntKind.i64 0), (Go.Value.int Go.IntKind.i64 0)] := ⟨_, Tryz.zeroValue103, rfl⟩
instance : Fld Tryz.prog 103 0 0 := Fld.of (n := 1) ⟨Tryz.runUnderlying103⟩ rfl ⟨Tryz.sizeOf3⟩ (by decide) rfl
instance : Fld Tryz.prog 103 1 1 := Fld.of (n := 1) ⟨Tryz.runUnderlying103⟩ rfl ⟨Tryz.sizeOf3⟩ (by decide) rfl
instance : Places Tryz.prog 103 (fun i => ([(0, 1), (1, 1)] : List (Nat × Nat))[i]?) := Places.struct ⟨Tryz.runUnderlying103⟩ (.c Tryz.sizeOf3 (.c Tryz.sizeOf3 .n))
instance : Und Tryz.prog 111 (Go.TypeDesc.slice 39) := ⟨Tryz.runUnderlying111⟩
instance : IsAgg Tryz.prog 111 false := ⟨Tryz.isAgg111⟩
instance : TySize Tryz.prog 111 1 := ⟨Tryz.sizeOf111⟩
instance : TyBytes Tryz.prog 111 24 := ⟨_, Tryz.typeInfo111, rfl⟩
instance : Zero Tryz.prog 111 [(Go.Value.slice none 0 0)] := ⟨_, Tryz.zeroValue111, rfl⟩
instance : Und Tryz.prog 113 (Go.TypeDesc.int Go.IntKind.u64) := ⟨Tryz.runUnderlying113⟩
instance : IsAgg Tryz.prog 113 false := ⟨Tryz.isAgg113⟩
instance : TySize Tryz.prog 113 1 := ⟨Tryz.sizeOf113⟩
instance : TyBytes Tryz.prog 113 8 := ⟨_, Tryz.typeInfo113, rfl⟩
instance : Zero Tryz.prog 113 [(Go.Value.int Go.IntKind.u64 0)] := ⟨_, Tryz.zeroValue113, rfl⟩
instance : Und Tryz.prog 124 (Go.TypeDesc.struct #[(Go.Field.mk "Need" 36 0 Bool.false "" "" 0), (Go.Field.mk "Draws" 99 3 Bool.false "" "" 24), (Go.Field.mk "Group" 3 4 Bool.false "" "" 48), (Go.Field.mk "Worth" 3 5 Bool.false "" "" 56)]) := ⟨Tryz.runUnderlying124⟩
instance : IsAgg Tryz.prog 124 true := ⟨Tryz.isAgg124⟩
instance : TySize Tryz.prog 124 6 := ⟨Tryz.sizeOf124⟩
instance : TyBytes Tryz.prog 124 64 := ⟨_, Tryz.typeInfo124, rfl⟩
instance : Zero Tryz.prog 124 [(Go.Value.int Go.IntKind.i64 0), (Go.Value.int Go.IntKind.i64 0), (Go.Value.int Go.IntKind.i64 0), (Go.Value.slice none 0 0), (Go.Value.int Go.IntKind.i64 0), (Go.Value.int Go.IntKind.i64 0)] := ⟨_, Tryz.zeroValue124, rfl⟩
instance : Fld Tryz.prog 124 0 0 := Fld.of (n := 3) ⟨Tryz.runUnderlying124⟩ rfl ⟨Tryz.sizeOf36⟩ (by decide) rfl
instance : Fld Tryz.prog 124 1 3 := Fld.of (n := 1) ⟨Tryz.runUnderlying124⟩ rfl ⟨Tryz.sizeOf99⟩ (by decide) rfl
instance : Fld Tryz.prog 124 2 4 := Fld.of (n := 1) ⟨Tryz.runUnderlying124⟩ rfl ⟨Tryz.sizeOf3⟩ (by decide) rfl
instance : Fld Tryz.prog 124 3 5 := Fld.of (n := 1) ⟨Tryz.runUnderlying124⟩ rfl ⟨Tryz.sizeOf3⟩ (by decide) rfl
instance : Places Tryz.prog 124 (fun i => ([(0, 3), (3, 1), (4, 1), (5, 1)] : List (Nat × Nat))[i]?) := Places.struct ⟨Tryz.runUnderlying124⟩ (.c Tryz.sizeOf36 (.c Tryz.sizeOf99 (.c Tryz.sizeOf3 (.c Tryz.sizeOf3 .n))))
instance : Und Tryz.prog 127 (Go.TypeDesc.func #[28] #[4] Bool.false) := ⟨Tryz.runUnderlying127⟩
instance : IsAgg Tryz.prog 127 false := ⟨Tryz.isAgg127⟩
instance : TySize Tryz.prog 127 1 := ⟨Tryz.sizeOf127⟩
instance : TyBytes Tryz.prog 127 8 := ⟨_, Tryz.typeInfo127, rfl⟩
instance : Zero Tryz.prog 127 [Go.Value.nilFunc] := ⟨_, Tryz.zeroValue127, rfl⟩
instance : Und Tryz.prog 132 (Go.TypeDesc.pointer 135) := ⟨Tryz.runUnderlying132⟩
instance : IsAgg Tryz.prog 132 false := ⟨Tryz.isAgg132⟩
instance : TySize Tryz.prog 132 1 := ⟨Tryz.sizeOf132⟩
instance : TyBytes Tryz.prog 132 8 := ⟨_, Tryz.typeInfo132, rfl⟩
instance : Zero Tryz.prog 132 [(Go.Value.pointer none)] := ⟨_, Tryz.zeroValue132, rfl⟩
instance : Und Tryz.prog 133 (Go.TypeDesc.map 176 4) := ⟨Tryz.runUnderlying133⟩
instance : IsAgg Tryz.prog 133 false := ⟨Tryz.isAgg133⟩
instance : TySize Tryz.prog 133 1 := ⟨Tryz.sizeOf133⟩
instance : TyBytes Tryz.prog 133 8 := ⟨_, Tryz.typeInfo133, rfl⟩
instance : Zero Tryz.prog 133 [(Go.Value.map none)] := ⟨_, Tryz.zeroValue133, rfl⟩
instance : Und Tryz.prog 135 (Go.TypeDesc.struct #[(Go.Field.mk "Task" 27 0 Bool.true "" "" 0), (Go.Field.mk "known" 133 4 Bool.false "" "switchgear/place" 64)]) := ⟨Tryz.runUnderlying135⟩
instance : IsAgg Tryz.prog 135 true := ⟨Tryz.isAgg135⟩
instance : TySize Tryz.prog 135 5 := ⟨Tryz.sizeOf135⟩
instance : TyBytes Tryz.prog 135 72 := ⟨_, Tryz.typeInfo135, rfl⟩
instance : Zero Tryz.prog 135 [(Go.Value.slice none 0 0), (Go.Value.slice none 0 0), (Go.Value.int Go.IntKind.i64 0), (Go.Value.int Go.IntKind.i64 0), (Go.Value.map none)] := ⟨_, Tryz.zeroValue135, rfl⟩
instance : Fld Tryz.prog 135 0 0 := Fld.of (n := 4) ⟨Tryz.runUnderlying135⟩ rfl ⟨Tryz.sizeOf27⟩ (by decide) rfl
instance : Fld Tryz.prog 135 1 4 := Fld.of (n := 1) ⟨Tryz.runUnderlying135⟩ rfl ⟨Tryz.sizeOf133⟩ (by decide) rfl
instance : Places Tryz.prog 135 (fun i => ([(0, 4), (4, 1)] : List (Nat × Nat))[i]?) := Places.struct ⟨Tryz.runUnderlying135⟩ (.c Tryz.sizeOf27 (.c Tryz.sizeOf133 .n))
instance : Und Tryz.prog 136 (Go.TypeDesc.func #[28] #[] Bool.false) := ⟨Tryz.runUnderlying136⟩
instance : IsAgg Tryz.prog 136 false := ⟨Tryz.isAgg136⟩
instance : TySize Tryz.prog 136 1 := ⟨Tryz.sizeOf136⟩
instance : TyBytes Tryz.prog 136 8 := ⟨_, Tryz.typeInfo136, rfl⟩
instance : Zero Tryz.prog 136 [Go.Value.nilFunc] := ⟨_, Tryz.zeroValue136, rfl⟩
instance : Und Tryz.prog 141 (Go.TypeDesc.slice 28) := ⟨Tryz.runUnderlying141⟩
instance : IsAgg Tryz.prog 141 false := ⟨Tryz.isAgg141⟩
instance : TySize Tryz.prog 141 1 := ⟨Tryz.sizeOf141⟩
instance : TyBytes Tryz.prog 141 24 := ⟨_, Tryz.typeInfo141, rfl⟩
instance : Zero Tryz.prog 141 [(Go.Value.slice none 0 0)] := ⟨_, Tryz.zeroValue141, rfl⟩
instance : Und Tryz.prog 150 (Go.TypeDesc.map 3 3) := ⟨Tryz.runUnderlying150⟩
instance : IsAgg Tryz.prog 150 false := ⟨Tryz.isAgg150⟩
instance : TySize Tryz.prog 150 1 := ⟨Tryz.sizeOf150⟩
instance : TyBytes Tryz.prog 150 8 := ⟨_, Tryz.typeInfo150, rfl⟩
instance : Zero Tryz.prog 150 [(Go.Value.map none)] := ⟨_, Tryz.zeroValue150, rfl⟩
instance : Und Tryz.prog 165 (Go.TypeDesc.int Go.IntKind.u32) := ⟨Tryz.runUnderlying165⟩
instance : IsAgg Tryz.prog 165 false := ⟨Tryz.isAgg165⟩
instance : TySize Tryz.prog 165 1 := ⟨Tryz.sizeOf165⟩
instance : TyBytes Tryz.prog 165 4 := ⟨_, Tryz.typeInfo165, rfl⟩
instance : Zero Tryz.prog 165 [(Go.Value.int Go.IntKind.u32 0)] := ⟨_, Tryz.zeroValue165, rfl⟩
instance : Und Tryz.prog 168 (Go.TypeDesc.int Go.IntKind.u64) := ⟨Tryz.runUnderlying168⟩
instance : IsAgg Tryz.prog 168 false := ⟨Tryz.isAgg168⟩
instance : TySize Tryz.prog 168 1 := ⟨Tryz.sizeOf168⟩
instance : TyBytes Tryz.prog 168 8 := ⟨_, Tryz.typeInfo168, rfl⟩
instance : Zero Tryz.prog 168 [(Go.Value.int Go.IntKind.u64 0)] := ⟨_, Tryz.zeroValue168, rfl⟩
instance : Und Tryz.prog 176 (Go.TypeDesc.array 2 3) := ⟨Tryz.runUnderlying176⟩
instance : IsAgg Tryz.prog 176 true := ⟨Tryz.isAgg176⟩
instance : TySize Tryz.prog 176 2 := ⟨Tryz.sizeOf176⟩
instance : TyBytes Tryz.prog 176 16 := ⟨_, Tryz.typeInfo176, rfl⟩
instance : Zero Tryz.prog 176 [(Go.Value.int Go.IntKind.i64 0), (Go.Value.int Go.IntKind.i64 0)] := ⟨_, Tryz.zeroValue176, rfl⟩
instance : Places Tryz.prog 176 (fun i => some (i * 1, 1)) := Places.array ⟨Tryz.runUnderlying176⟩ ⟨Tryz.sizeOf3⟩
instance : Und Tryz.prog 183 (Go.TypeDesc.int Go.IntKind.i64) := ⟨Tryz.runUnderlying183⟩
instance : IsAgg Tryz.prog 183 false := ⟨Tryz.isAgg183⟩
instance : TySize Tryz.prog 183 1 := ⟨Tryz.sizeOf183⟩
instance : TyBytes Tryz.prog 183 8 := ⟨_, Tryz.typeInfo183, rfl⟩
instance : Zero Tryz.prog 183 [(Go.Value.int Go.IntKind.i64 0)] := ⟨_, Tryz.zeroValue183, rfl⟩
instance : Und Tryz.prog 193 (Go.TypeDesc.int Go.IntKind.u64) := ⟨Tryz.runUnderlying193⟩
instance : IsAgg Tryz.prog 193 false := ⟨Tryz.isAgg193⟩
instance : TySize Tryz.prog 193 1 := ⟨Tryz.sizeOf193⟩
instance : TyBytes Tryz.prog 193 8 := ⟨_, Tryz.typeInfo193, rfl⟩
instance : Zero Tryz.prog 193 [(Go.Value.int Go.IntKind.u64 0)] := ⟨_, Tryz.zeroValue193, rfl⟩
theorem _root_.Go.Proofs.Tryz.mixed : Tryz.prog.follows .mixedOrders = true := by kernel_rfl
end Go.X

set_option linter.unusedSimpArgs false
set_option linter.unusedVariables false
set_option maxRecDepth 20000
namespace Go.X
open Go.Proofs
def encDraw (x : PDraw) : List Value := [.int .i64 x.power, .int .i64 x.count]
def encPJ (x : Value × PJob) : List Value := [.int .i64 x.2.n0, .int .i64 x.2.n1, .int .i64 x.2.n2, x.1, .int .i64 x.2.group, .int .i64 x.2.worth]
def encRack (x : PRack) : List Value := [.int .i64 x.r0, .int .i64 x.r1, .int .i64 x.r2, .int .i64 x.cap, .int .i64 x.domain]
/-- The draws of jobs lie in one heap. -/
def JobsK (ms : List (Value × PJob)) (K : PHeap) : Prop := ∀ i, i < ms.length → Arr (ms.getD i default).1 encDraw 2 K (ms.getD i default).2.draws
theorem map_snd_atP (l : List (Value × PJob)) (i : Nat) : (l.map Prod.snd).getD i default = (l.getD i default).2 := by
 rw [List.getD_eq_getElem?_getD, List.getD_eq_getElem?_getD, List.getElem?_map]
 cases l[i]? <;> rfl
theorem indexFuncI (v : Value) (h : PHeap) (xs : List Int) [s : Arr v encI 1 h xs] (gid : FuncId) (cap : List Value) (Hr : List PHeap) (p : Int → Bool)
  (hc : ∀ args w, (callFunc gid args).run Tryz.prog w = .ok (.enter gid args) w) (hS : ∀ x ∈ xs, Spec Tryz.prog gid (.int .i64 x :: cap).toArray [] Hr (fun v hs => v = .bool (p x) ∧ hs = [])) :
  Spec Tryz.prog 114 #[v, .func (.func gid) #[] cap.toArray] [] (h :: Hr) (fun v hs => v = .int .i64 (findFirst p xs) ∧ hs = []) := by
 refine Spec.intro (fn := Tryz.f114) (N := 19) Tryz.func114 rfl Tryz.ntmps114 rfl fun B => ?_
 refine XK.seq (XK.region rfl (XO.q (Q.assign rfl) (XO.done (XK.seq (XK.seq ?_)))))
 refine XK.region rfl (XO.q (Q.move rfl) ?_)
 refine XO.len rfl fun l7 => ?_
 refine XO.q (Q.move rfl) (XO.done (XK.block ?_))
 refine XK.while (X := Nat) [4, 5, 8, 9, 10, 11, 12, 13, 14, 15, 16, 17, 18] (fun i => [(8, some (.int .i64 (i : Nat)))]) (fun i => []) (fun i => i ≤ xs.length ∧ (xs.take i).any p = false) (fun i => xs.length - i) (0) [] rfl ⟨by omega, rfl⟩ (.c rfl (.base 0 rfl rfl)) ?_
 rintro i ⟨hi, ht⟩ ih0
 dsimp only [lcA, lnA] at ih0 ⊢
 refine XK.seq (XK.region rfl ?_)
 refine XO.q (Q.lss rfl rfl) ?_
 refine XO.done (XK.seq ?_)
 refine XK.if rfl (fun c0 => ?_) (fun c0 => ?_)
 ·skip
  refine XK.skip (XK.seq (XK.block (XK.seq (XK.region rfl (XO.q (Q.move rfl) ?_)))))
  refine XO.q (Q.assign rfl) (XO.done (XK.seq (XK.region rfl (XO.q (Q.move rfl) (XO.q (Q.move rfl) ?_)))))
  refine XO.q (Q.move rfl) ?_
  refine XO.ix rfl rfl (by omega) (by omega) fun i14 => ?_
  refine XO.q (Q.ldE rfl (by first | assumption | omega) rfl) ?_
  refine XO.call hc rfl rfl rfl (hS _ (getD_mem (by omega))) fun v16 s16 R16 => ?_
  obtain ⟨rfl, rfl⟩ := R16
  dsimp only [lcA, lnA]
  refine XO.done ?_
  refine XK.if rfl (fun c1 => ?_) (fun c1 => ?_)
  ·skip
   refine XK.seq (XK.region rfl (XO.q (Q.move rfl) (XO.q (Q.assign rfl) (XO.done ?_))))
   refine XK.rt [] Tryz.func114 Tryz.results114 (.t rfl .n) ?_
   exact ⟨by rw [findFirst_here ht (by omega) c1], rfl⟩
  ·skip
   refine XK.skip ?_
   refine XK.inBlock ?_
   refine XK.region rfl ?_
   refine XO.q (Q.add rfl rfl ⟨by omega, by omega⟩) ?_
   refine XO.q (Q.move rfl) (XO.done ?_)
   exact ih0 (i + 1) _ _ ⟨by omega, any_step ht (by omega) (Bool.eq_false_iff.2 c1)⟩ (by first | omega | (dsimp only; omega)) (.c rfl (.base 25 rfl rfl)) inferInstance
 ·skip
  refine XK.exit rfl ?_
  refine XK.seq (XK.region rfl (XO.q (Q.assign rfl) (XO.done ?_)))
  refine XK.rt [] Tryz.func114 Tryz.results114 (.t rfl .n) ?_
  exact ⟨by rw [findFirst_none ht c0], rfl⟩
theorem containsFuncI (v : Value) (h : PHeap) (xs : List Int) [s : Arr v encI 1 h xs] (gid : FuncId) (cap : List Value) (Hr : List PHeap) (p : Int → Bool)
  (hc : ∀ args w, (callFunc gid args).run Tryz.prog w = .ok (.enter gid args) w) (hS : ∀ x ∈ xs, Spec Tryz.prog gid (.int .i64 x :: cap).toArray [] Hr (fun v hs => v = .bool (p x) ∧ hs = [])) :
  Spec Tryz.prog 103 #[v, .func (.func gid) #[] cap.toArray] [] (h :: Hr) (fun v hs => v = .bool (xs.any p) ∧ hs = []) := by
 refine Spec.intro (fn := Tryz.f103) (N := 9) Tryz.func103 rfl Tryz.ntmps103 rfl fun B => ?_
 refine XK.seq (XK.region rfl (XO.q (Q.assign rfl) (XO.done (XK.seq (XK.region rfl ?_)))))
 refine XO.q (Q.move rfl) (XO.q (Q.move rfl) ?_)
 refine XO.call Tryz.call114 rfl rfl rfl (indexFuncI v h xs gid cap Hr p hc hS) fun v7 s7 R7 => ?_
 obtain ⟨rfl, rfl⟩ := R7
 dsimp only [lcA, lnA]
 refine XO.q (Q.geq rfl rfl) ?_
 refine XO.q (Q.assign rfl) (XO.done ?_)
 refine XK.rt [] Tryz.func103 Tryz.results103 (.t rfl .n) ?_
 exact ⟨by rw [← findFirst_any], rfl⟩
theorem indexFuncPJ (v : Value) (h : PHeap) (xs : List (Value × PJob)) [s : Arr v encPJ 6 h xs] (gid : FuncId) (cap : List Value) (Hr : List PHeap) (p : (Value × PJob) → Bool)
  (hc : ∀ args w, (callFunc gid args).run Tryz.prog w = .ok (.enter gid args) w) (hS : ∀ x ∈ xs, Spec Tryz.prog gid (.agg #[.int .i64 x.2.n0, .int .i64 x.2.n1, .int .i64 x.2.n2, x.1, .int .i64 x.2.group, .int .i64 x.2.worth] :: cap).toArray [] Hr (fun v hs => v = .bool (p x) ∧ hs = [])) :
  Spec Tryz.prog 53 #[v, .func (.func gid) #[] cap.toArray] [] (h :: Hr) (fun v hs => v = .int .i64 (findFirst p xs) ∧ hs = []) := by
 refine Spec.intro (fn := Tryz.f53) (N := 19) Tryz.func53 rfl Tryz.ntmps53 rfl fun B => ?_
 refine XK.seq (XK.region rfl (XO.q (Q.assign rfl) (XO.done (XK.seq (XK.seq ?_)))))
 refine XK.region rfl (XO.q (Q.move rfl) ?_)
 refine XO.len rfl fun l7 => ?_
 refine XO.q (Q.move rfl) (XO.done (XK.block ?_))
 refine XK.while (X := Nat) [4, 5, 8, 9, 10, 11, 12, 13, 14, 15, 16, 17, 18] (fun i => [(8, some (.int .i64 (i : Nat)))]) (fun i => []) (fun i => i ≤ xs.length ∧ (xs.take i).any p = false) (fun i => xs.length - i) (0) [] rfl ⟨by omega, rfl⟩ (.c rfl (.base 0 rfl rfl)) ?_
 rintro i ⟨hi, ht⟩ ih0
 dsimp only [lcA, lnA] at ih0 ⊢
 refine XK.seq (XK.region rfl ?_)
 refine XO.q (Q.lss rfl rfl) ?_
 refine XO.done (XK.seq ?_)
 refine XK.if rfl (fun c0 => ?_) (fun c0 => ?_)
 ·skip
  refine XK.skip (XK.seq (XK.block (XK.seq (XK.region rfl (XO.q (Q.move rfl) ?_)))))
  refine XO.q (Q.assign rfl) (XO.done (XK.seq (XK.region rfl (XO.q (Q.move rfl) (XO.q (Q.move rfl) ?_)))))
  refine XO.q (Q.move rfl) ?_
  refine XO.ix rfl rfl (by omega) (by omega) fun i14 => ?_
  refine XO.q (Q.ldEA [_, _, _, _, _, _] rfl (by first | assumption | omega) rfl rfl) ?_
  refine XO.call hc rfl rfl rfl (hS _ (getD_mem (by omega))) fun v16 s16 R16 => ?_
  obtain ⟨rfl, rfl⟩ := R16
  dsimp only [lcA, lnA]
  refine XO.done ?_
  refine XK.if rfl (fun c1 => ?_) (fun c1 => ?_)
  ·skip
   refine XK.seq (XK.region rfl (XO.q (Q.move rfl) (XO.q (Q.assign rfl) (XO.done ?_))))
   refine XK.rt [] Tryz.func53 Tryz.results53 (.t rfl .n) ?_
   exact ⟨by rw [findFirst_here ht (by omega) c1], rfl⟩
  ·skip
   refine XK.skip ?_
   refine XK.inBlock ?_
   refine XK.region rfl ?_
   refine XO.q (Q.add rfl rfl ⟨by omega, by omega⟩) ?_
   refine XO.q (Q.move rfl) (XO.done ?_)
   exact ih0 (i + 1) _ _ ⟨by omega, any_step ht (by omega) (Bool.eq_false_iff.2 c1)⟩ (by first | omega | (dsimp only; omega)) (.c rfl (.base 25 rfl rfl)) inferInstance
 ·skip
  refine XK.exit rfl ?_
  refine XK.seq (XK.region rfl (XO.q (Q.assign rfl) (XO.done ?_)))
  refine XK.rt [] Tryz.func53 Tryz.results53 (.t rfl .n) ?_
  exact ⟨by rw [findFirst_none ht c0], rfl⟩
theorem containsFuncPJ (v : Value) (h : PHeap) (xs : List (Value × PJob)) [s : Arr v encPJ 6 h xs] (gid : FuncId) (cap : List Value) (Hr : List PHeap) (p : (Value × PJob) → Bool)
  (hc : ∀ args w, (callFunc gid args).run Tryz.prog w = .ok (.enter gid args) w) (hS : ∀ x ∈ xs, Spec Tryz.prog gid (.agg #[.int .i64 x.2.n0, .int .i64 x.2.n1, .int .i64 x.2.n2, x.1, .int .i64 x.2.group, .int .i64 x.2.worth] :: cap).toArray [] Hr (fun v hs => v = .bool (p x) ∧ hs = [])) :
  Spec Tryz.prog 15 #[v, .func (.func gid) #[] cap.toArray] [] (h :: Hr) (fun v hs => v = .bool (xs.any p) ∧ hs = []) := by
 refine Spec.intro (fn := Tryz.f15) (N := 9) Tryz.func15 rfl Tryz.ntmps15 rfl fun B => ?_
 refine XK.seq (XK.region rfl (XO.q (Q.assign rfl) (XO.done (XK.seq (XK.region rfl ?_)))))
 refine XO.q (Q.move rfl) (XO.q (Q.move rfl) ?_)
 refine XO.call Tryz.call53 rfl rfl rfl (indexFuncPJ v h xs gid cap Hr p hc hS) fun v7 s7 R7 => ?_
 obtain ⟨rfl, rfl⟩ := R7
 dsimp only [lcA, lnA]
 refine XO.q (Q.geq rfl rfl) ?_
 refine XO.q (Q.assign rfl) (XO.done ?_)
 refine XK.rt [] Tryz.func15 Tryz.results15 (.t rfl .n) ?_
 exact ⟨by rw [← findFirst_any], rfl⟩
theorem indexFuncPR (v : Value) (h : PHeap) (xs : List PRack) [s : Arr v encRack 5 h xs] (gid : FuncId) (cap : List Value) (Hr : List PHeap) (p : PRack → Bool)
  (hc : ∀ args w, (callFunc gid args).run Tryz.prog w = .ok (.enter gid args) w) (hS : ∀ x ∈ xs, Spec Tryz.prog gid (.agg #[.int .i64 x.r0, .int .i64 x.r1, .int .i64 x.r2, .int .i64 x.cap, .int .i64 x.domain] :: cap).toArray [] Hr (fun v hs => v = .bool (p x) ∧ hs = [])) :
  Spec Tryz.prog 101 #[v, .func (.func gid) #[] cap.toArray] [] (h :: Hr) (fun v hs => v = .int .i64 (findFirst p xs) ∧ hs = []) := by
 refine Spec.intro (fn := Tryz.f101) (N := 19) Tryz.func101 rfl Tryz.ntmps101 rfl fun B => ?_
 refine XK.seq (XK.region rfl (XO.q (Q.assign rfl) (XO.done (XK.seq (XK.seq ?_)))))
 refine XK.region rfl (XO.q (Q.move rfl) ?_)
 refine XO.len rfl fun l7 => ?_
 refine XO.q (Q.move rfl) (XO.done (XK.block ?_))
 refine XK.while (X := Nat) [4, 5, 8, 9, 10, 11, 12, 13, 14, 15, 16, 17, 18] (fun i => [(8, some (.int .i64 (i : Nat)))]) (fun i => []) (fun i => i ≤ xs.length ∧ (xs.take i).any p = false) (fun i => xs.length - i) (0) [] rfl ⟨by omega, rfl⟩ (.c rfl (.base 0 rfl rfl)) ?_
 rintro i ⟨hi, ht⟩ ih0
 dsimp only [lcA, lnA] at ih0 ⊢
 refine XK.seq (XK.region rfl ?_)
 refine XO.q (Q.lss rfl rfl) ?_
 refine XO.done (XK.seq ?_)
 refine XK.if rfl (fun c0 => ?_) (fun c0 => ?_)
 ·skip
  refine XK.skip (XK.seq (XK.block (XK.seq (XK.region rfl (XO.q (Q.move rfl) ?_)))))
  refine XO.q (Q.assign rfl) (XO.done (XK.seq (XK.region rfl (XO.q (Q.move rfl) (XO.q (Q.move rfl) ?_)))))
  refine XO.q (Q.move rfl) ?_
  refine XO.ix rfl rfl (by omega) (by omega) fun i14 => ?_
  refine XO.q (Q.ldEA [_, _, _, _, _] rfl (by first | assumption | omega) rfl rfl) ?_
  refine XO.call hc rfl rfl rfl (hS _ (getD_mem (by omega))) fun v16 s16 R16 => ?_
  obtain ⟨rfl, rfl⟩ := R16
  dsimp only [lcA, lnA]
  refine XO.done ?_
  refine XK.if rfl (fun c1 => ?_) (fun c1 => ?_)
  ·skip
   refine XK.seq (XK.region rfl (XO.q (Q.move rfl) (XO.q (Q.assign rfl) (XO.done ?_))))
   refine XK.rt [] Tryz.func101 Tryz.results101 (.t rfl .n) ?_
   exact ⟨by rw [findFirst_here ht (by omega) c1], rfl⟩
  ·skip
   refine XK.skip ?_
   refine XK.inBlock ?_
   refine XK.region rfl ?_
   refine XO.q (Q.add rfl rfl ⟨by omega, by omega⟩) ?_
   refine XO.q (Q.move rfl) (XO.done ?_)
   exact ih0 (i + 1) _ _ ⟨by omega, any_step ht (by omega) (Bool.eq_false_iff.2 c1)⟩ (by first | omega | (dsimp only; omega)) (.c rfl (.base 25 rfl rfl)) inferInstance
 ·skip
  refine XK.exit rfl ?_
  refine XK.seq (XK.region rfl (XO.q (Q.assign rfl) (XO.done ?_)))
  refine XK.rt [] Tryz.func101 Tryz.results101 (.t rfl .n) ?_
  exact ⟨by rw [findFirst_none ht c0], rfl⟩
theorem containsFuncPR (v : Value) (h : PHeap) (xs : List PRack) [s : Arr v encRack 5 h xs] (gid : FuncId) (cap : List Value) (Hr : List PHeap) (p : PRack → Bool)
  (hc : ∀ args w, (callFunc gid args).run Tryz.prog w = .ok (.enter gid args) w) (hS : ∀ x ∈ xs, Spec Tryz.prog gid (.agg #[.int .i64 x.r0, .int .i64 x.r1, .int .i64 x.r2, .int .i64 x.cap, .int .i64 x.domain] :: cap).toArray [] Hr (fun v hs => v = .bool (p x) ∧ hs = [])) :
  Spec Tryz.prog 57 #[v, .func (.func gid) #[] cap.toArray] [] (h :: Hr) (fun v hs => v = .bool (xs.any p) ∧ hs = []) := by
 refine Spec.intro (fn := Tryz.f57) (N := 9) Tryz.func57 rfl Tryz.ntmps57 rfl fun B => ?_
 refine XK.seq (XK.region rfl (XO.q (Q.assign rfl) (XO.done (XK.seq (XK.region rfl ?_)))))
 refine XO.q (Q.move rfl) (XO.q (Q.move rfl) ?_)
 refine XO.call Tryz.call101 rfl rfl rfl (indexFuncPR v h xs gid cap Hr p hc hS) fun v7 s7 R7 => ?_
 obtain ⟨rfl, rfl⟩ := R7
 dsimp only [lcA, lnA]
 refine XO.q (Q.geq rfl rfl) ?_
 refine XO.q (Q.assign rfl) (XO.done ?_)
 refine XK.rt [] Tryz.func57 Tryz.results57 (.t rfl .n) ?_
 exact ⟨by rw [← findFirst_any], rfl⟩
theorem pin1 (b : Nat) (m x : Int) : Spec Tryz.prog 113 #[.int .i64 x, ptr b 0] [] [blk b [.int .i64 m] 3] (fun v hs => v = .bool (pout m x) ∧ hs = []) := by
 refine Spec.intro (fn := Tryz.f113) (N := 11) Tryz.func113 rfl Tryz.ntmps113 rfl fun B => ?_
 refine XK.seq (XK.region rfl (XO.q (Q.assign rfl) (XO.done (XK.seq (XK.region rfl ?_)))))
 refine XO.q (Q.move rfl) ?_
 refine XO.q (Q.lss rfl rfl) ?_
 refine XO.q (Q.move rfl) ?_
 refine XO.q (Quiet.guardF rfl rfl fun g7 p7 => Q.move rfl) ?_
 refine XO.q (Quiet.guardF rfl rfl fun g8 p8 => Q.ld rfl rfl) ?_
 refine XO.q (Quiet.guardF rfl rfl fun g9 p9 => Q.gtr (lzv g9 rfl) (lzv g9 rfl)) ?_
 refine XO.q (Q.or rfl (fun hp => lzv hp rfl)) ?_
 refine XO.q (Q.assign rfl) (XO.done ?_)
 refine XK.rt [] Tryz.func113 Tryz.results113 (.t rfl .n) ?_
 exact ⟨rfl, rfl⟩
theorem pin_spec (m : Int) (v : Value) (h : PHeap) (xs : List Int) [s : Arr v encI 1 h xs] : Spec Tryz.prog 100 #[.int .i64 m, v] [] [h] (fun v hs => v = .bool (pin m xs) ∧ hs = []) := by
 refine Spec.intro (fn := Tryz.f100) (N := 9) Tryz.func100 rfl Tryz.ntmps100 rfl fun B => ?_
 refine XK.seq (XK.region rfl ?_)
 refine XO.box rfl fun b2 => ?_
 refine XO.q (Q.assign rfl) (XO.done (XK.seq (XK.region rfl (XO.q (Q.move rfl) ?_))))
 refine XO.q (Q.func (fun _ he => rfl) (fun _ he => evs_rel he rfl)) ?_
 refine XO.call Tryz.call103 rfl rfl rfl (containsFuncI v h xs 113 [ptr b2 0] [blk b2 [.int .i64 m] 3] (pout m) Tryz.call113 (fun x hx => pin1 b2 m x)) fun v7 s7 R7 => ?_
 obtain ⟨rfl, rfl⟩ := R7
 dsimp only [lcA, lnA]
 refine XO.q (Q.not rfl) ?_
 refine XO.q (Q.assign rfl) (XO.done ?_)
 refine XK.rt [] Tryz.func100 Tryz.results100 (.t rfl .n) ?_
 exact ⟨rfl, rfl⟩
theorem divisor_spec (a b : Nat) (ha : (a : Int) ≤ 9223372036854775807) (hb : (b : Int) ≤ 9223372036854775807) : Spec Tryz.prog 102 #[.int .i64 (a : Nat), .int .i64 (b : Nat)] [] [] (fun v hs => v = .int .i64 (Nat.gcd a b : Nat) ∧ hs = []) := by
 refine Spec.intro (fn := Tryz.f102) (N := 12) Tryz.func102 rfl Tryz.ntmps102 rfl fun B => ?_
 refine XK.seq (XK.region rfl (XO.q (Q.assign rfl) (XO.done (XK.seq (XK.block ?_)))))
 refine XK.while (X := Nat × Nat) [0, 1, 5, 6, 7, 8, 9, 10] (fun ⟨x, y⟩ => [(0, some (.int .i64 (x : Nat))), (1, some (.int .i64 (y : Nat)))]) (fun ⟨x, y⟩ => []) (fun ⟨x, y⟩ => ((x : Int) ≤ 9223372036854775807 ∧ (y : Int) ≤ 9223372036854775807) ∧ Nat.gcd x y = Nat.gcd a b) (fun ⟨x, y⟩ => y) (a, b) [] rfl ⟨⟨ha, hb⟩, rfl⟩ (.c rfl (.c rfl (.base 0 rfl rfl))) ?_
 rintro ⟨x, y⟩ ⟨⟨hx, hyb⟩, hg⟩ ih0
 dsimp only [lcA, lnA] at ih0 ⊢
 refine XK.seq (XK.seq (XK.region rfl (XO.q (Q.move rfl) ?_)))
 refine XO.q (Q.neq rfl rfl) ?_
 refine XO.done ?_
 refine XK.if rfl (fun c0 => ?_) (fun c0 => ?_)
 ·skip
  have hy : 0 < y := by omega
  have hm := Nat.mod_lt x hy
  refine XK.skip (XK.block ?_)
  refine XK.drawn [0, 1, 2, 3, 4, 5] [] [] (.q 0 (.q 1 (.q 2 (.q 3 (.q 4 (.q 5 .done)))))) Tryz.mixed rfl (by kernel_rfl) ?_
  refine XT.q rfl rfl (Q.move rfl) ?_
  refine XT.q rfl rfl (Q.move rfl) ?_
  refine XT.q rfl rfl (Q.move rfl) ?_
  refine XT.q rfl rfl (Q.rem rfl rfl (by omega) (by omega)) ?_
  rw [show (x : Int) % (y : Int) = ((x % y : Nat) : Int) from rfl]
  refine XT.q rfl rfl (Q.assign rfl) ?_
  refine XT.q rfl rfl (Q.assign rfl) ?_
  refine XT.done ?_
  refine XK.inBlock ?_
  exact ih0 (y, x % y) _ _ ⟨⟨by dsimp only; omega, by dsimp only; omega⟩, by dsimp only; rw [← hg, Nat.gcd_comm y, ← Nat.gcd_rec, Nat.gcd_comm]⟩ (by first | omega | (dsimp only; omega)) (.c rfl (.c rfl (.base 18 rfl rfl))) inferInstance
 ·skip
  have hy : y = 0 := by omega
  subst hy
  refine XK.exit rfl ?_
  refine XK.seq (XK.region rfl (XO.q (Q.move rfl) (XO.q (Q.assign rfl) (XO.done ?_))))
  refine XK.rt [] Tryz.func102 Tryz.results102 (.t rfl .n) ?_
  exact ⟨by rw [← hg, Nat.gcd_zero_right], rfl⟩
theorem chance_spec (r : PRat) : Spec Tryz.prog 60 #[.agg #[.int .i64 r.n, .int .i64 r.d]] [] [] (fun v hs => v = .bool (chanceR r) ∧ hs = []) := by
 refine Spec.intro (fn := Tryz.f60) (N := 27) Tryz.func60 rfl Tryz.ntmps60 rfl fun B => ?_
 refine XK.seq (XK.region rfl ?_)
 refine XO.box rfl fun b1 => ?_
 refine XO.q (Q.assign rfl) (XO.done (XK.seq (XK.region rfl ?_)))
 refine XO.q (Q.fieldAddr rfl) ?_
 refine XO.q (Q.ld rfl rfl) ?_
 refine XO.q (Q.geq rfl rfl) ?_
 refine XO.q (Q.move rfl) ?_
 refine XO.q (Quiet.guardT rfl rfl fun g7 p7 => Q.fieldAddr rfl) ?_
 refine XO.q (Quiet.guardT rfl rfl fun g8 p8 => Q.ld (lzv g8 rfl) rfl) ?_
 refine XO.q (Quiet.guardT rfl rfl fun g9 p9 => Q.leq (lzv g9 rfl) rfl) ?_
 refine XO.q (Q.and rfl (fun hp => lzv hp rfl)) ?_
 refine XO.q (Q.move rfl) ?_
 refine XO.q (Quiet.guardT rfl rfl fun g12 p12 => Q.fieldAddr rfl) ?_
 refine XO.q (Quiet.guardT rfl rfl fun g13 p13 => Q.ld (lzv g13 rfl) rfl) ?_
 refine XO.q (Quiet.guardT rfl rfl fun g14 p14 => Q.fieldAddr rfl) ?_
 refine XO.q (Quiet.guardT rfl rfl fun g15 p15 => Q.ld (lzv g15 rfl) rfl) ?_
 refine XO.lit1 [_] [_] [r.n] encI rfl rfl (by rfl) (by rfl) rfl (by rfl) (fun g16 => by exact .c 0 1 (lzv g16 rfl) rfl rfl (.n _)) (fun _ => rfl) (by rfl) rfl (fun _ => by infer_instance) rfl (fun v16 h16 O16 => ?_)
 refine XO.gcallT rfl rfl Tryz.call100 rfl (fun g17 => .c (lzv g17 rfl) (.c (lzv g17 rfl) .n)) rfl (fun g17 p17 => by haveI := O16 g17; exact pin_spec r.d v16 h16 [r.n]) ?_
 refine XO.q (Q.and rfl (fun hp => lzv hp rfl)) ?_
 refine XO.q (Q.move rfl) ?_
 refine XO.q (Quiet.guardT rfl rfl fun g20 p20 => Q.fieldAddr rfl) ?_
 refine XO.q (Quiet.guardT rfl rfl fun g21 p21 => Q.ld (lzv g21 rfl) rfl) ?_
 refine XO.q (Quiet.guardT rfl rfl fun g22 p22 => Q.fieldAddr rfl) ?_
 refine XO.q (Quiet.guardT rfl rfl fun g23 p23 => Q.ld (lzv g23 rfl) rfl) ?_
 refine XO.gcallT rfl rfl Tryz.call102 rfl (fun g24 => .c (lzv g24 rfl) (.c (lzv g24 rfl) .n)) rfl (fun g24 p24 => (by
  have q := pin_one.1 p24.2
  have e1 : r.n = (r.n.toNat : Int) := by omega
  have e2 : r.d = (r.d.toNat : Int) := by omega
  have s := divisor_spec r.n.toNat r.d.toNat (by omega) (by omega)
  rw [← e1, ← e2] at s
  exact s)) ?_
 refine XO.q (Quiet.guardT rfl rfl fun g25 p25 => Q.eql (lzv g25 rfl) rfl) ?_
 refine XO.q (Q.and rfl (fun hp => lzv hp rfl)) ?_
 refine XO.q (Q.assign rfl) (XO.done ?_)
 refine XK.rt [] Tryz.func60 Tryz.results60 (.t rfl .n) ?_
 refine ⟨?_, rfl⟩
 unfold chanceR
 by_cases h : pin r.d [r.n] = true
 ·have q := pin_one.1 h
  have e : Int.gcd r.n r.d = r.n.toNat.gcd r.d.toNat := by
   unfold Int.gcd
   rw [show r.n.natAbs = r.n.toNat by omega, show r.d.natAbs = r.d.toNat by omega]
  have e3 : (((r.n.toNat.gcd r.d.toNat : Nat) : Int) = 1) ↔ (r.n.toNat.gcd r.d.toNat = 1) := by omega
  rw [e]
  simp only [e3]
 ·rw [Bool.eq_false_iff.2 h]; simp
end Go.X
