/- From the reading of arguments to slices that are read; what a call leaves as it was. No condition. -/
import Derived.Test.YtfenlpoaphbfgaaX17
import Derived.ProofKit
import Derived.SizedLaws
import Derived.Deep.Grids
import Derived.Carry
set_option linter.unusedSimpArgs false
set_option linter.unusedVariables false
namespace Go.X
open Go.ChangeShapes Go.WideShapes Go.Deep
def heapOf (w : World) : PHeap := ⟨fun b => w.heap[b]?, some (mt w)⟩
theorem heap_sep (w : World) : Sep [] [heapOf w] w where
  pw := List.Pairwise.nil
  dr := fun h hh => by cases hh
  so := fun h hh => by cases hh
  sr := fun g hg b ob hb => by
    simp only [List.mem_singleton] at hg; subst hg; exact hb
  no := fun h hh => by cases hh
  sm := fun g hg m hm => by
    simp only [List.mem_singleton] at hg; subst hg; exact Option.some.inj hm
structure Stays (W w' : World) : Prop where
  os : w'.os = W.os
  output : w'.output = W.output
  block : ∀ k, k < W.heap.size → w'.heap[k]? = W.heap[k]?
theorem stays_of {o : List PHeap} {W w' : World} (s : Sep o [heapOf W] w') : Stays W w' := by
  have h1 := s.sm _ List.mem_cons_self _ rfl
  simp only [mt, Prod.mk.injEq] at h1
  refine ⟨h1.1, h1.2, fun k hk => ?_⟩
  have h2 : W.heap[k]? = some (W.heap[k]'hk) := Array.getElem?_eq_getElem hk
  rw [h2]
  exact s.sr _ List.mem_cons_self k _ h2
theorem Stays.same {W w' : World} (h : Stays W w') {p : MemPlace} (hp : p.block < W.heap.size) : W.sameAt w' p := by
  cases p with
  | cell b o => exact World.cell?_of_block (w := W) (h.block b hp)
  | map b => exact h.block b hp
theorem Stays.frame {W w' : World} (h : Stays W w') (may : MemPlace → Prop) : W.keptBut w' may := by
  refine ⟨h.os, h.output, fun i hi => ?_⟩
  rw [h.block i hi]
  split <;> simp_all
theorem Stays.trod {H : Type} {enc : TypeId × Value → H} {P : Program} {t : TypeId} (hl : laidOutB P = true) (hr : P.readableRec t = true) (hrow : t < P.types.size) {W W' : World} {v : Value} {d : DataW H} {ps : List MemPlace}
    (h : DataW.Trod enc P W 0 (fun _ => true) true t v d ps) (hb : Stays W W') (hlt : ∀ x ∈ ps, x.block < W.heap.size) :
    DataW.Trod enc P W' 0 (fun b => decide (b < W.heap.size)) true t v d ps :=
  WideElems.Trod_stays hl hr hrow h (fun x hx => hb.same (hlt x hx)) (fun x hx => by simpa using hlt x hx)
theorem Stays.refl (W : World) : Stays W W := ⟨rfl, rfl, fun _ _ => rfl⟩
theorem calls_of_spec {P : Program} {f : FuncId} {args : Array Value} {hr : List PHeap} {W : World} {R : Value → List PHeap → Prop} (h : Spec P f args [] hr R) (hh : ∀ h ∈ hr, h = heapOf W) :
    Calls P f args W fun e w' => ∃ v hs, e = .returned v ∧ R v hs ∧ Stays W w' :=
  (h [] [heapOf W] W (heap_sep W) (fun x hx => .inr (by rw [hh x hx]; exact List.mem_cons_self))).mono fun e w' ⟨v, hs, he, hR, hS⟩ => ⟨v, hs, he, hR, stays_of (o := hs ++ []) hS⟩

theorem cell_heap {W : World} {a : Addr} {v : Value} (h : W.cell? a = some v) : ∃ cs T fr, a.spot = none ∧ W.heap[a.block]? = some (.cells cs T fr) ∧ cs[a.off]? = some v := by
  have hs := World.cell?_spot h
  unfold World.cell? at h
  split at h
  · rename_i c T fr hb
    rw [if_neg (by simp [hs])] at h
    exact ⟨c, T, fr, hs, hb, h⟩
  · cases h
theorem arr_one {α : Type} {W : World} {enc : α → List Value} (henc : ∀ x, ∃ u, enc x = [u] ∧ one u = true) {a : Addr} {len cap : Nat} {xs : List α} (hlen : xs.length = len) (hc : len ≤ cap) (h47 : len ≤ 140737488355328)
    (hcell : ∀ i (hi : i < xs.length), ∀ u, enc xs[i] = [u] → W.cell? (a.add i) = some u) : Arr (.slice (some a) len cap) enc 1 (heapOf W) xs := by
  subst hlen
  refine ⟨fun x => by obtain ⟨u, hu, _⟩ := henc x; rw [hu]; rfl, ⟨h47, fun x _ c hc => by obtain ⟨u, hu, ho⟩ := henc x; rw [hu] at hc; simp only [List.mem_singleton] at hc; subst hc; exact ho⟩, some a, cap, rfl, hc, (fun h => by cases h), fun hp => ?_⟩
  obtain ⟨u0, hu0, _⟩ := henc (xs[0]'hp)
  have h0 := hcell 0 hp u0 hu0
  obtain ⟨b, k, sp⟩ := a
  obtain ⟨cs, T, fr, hsp, hb, _⟩ := cell_heap h0
  have hsp' : sp = none := by simpa [Addr.add] using hsp
  subst hsp'
  have hb' : W.heap[b]? = some (.cells cs T fr) := by simpa [Addr.add] using hb
  refine ⟨b, k, cs, T, fr, rfl, hb', fun i j hi hj => ?_⟩
  obtain ⟨u, hu, _⟩ := henc (xs[i]'hi)
  have hi' := hcell i hi u hu
  rw [add_none] at hi'
  obtain ⟨cs2, T2, fr2, _, hb2, hc2⟩ := cell_heap hi'
  have hb2' : W.heap[b]? = some (.cells cs2 T2 fr2) := hb2
  rw [hb'] at hb2'
  simp only [Option.some.injEq, Obj.cells.injEq] at hb2'
  obtain ⟨rfl, rfl, rfl⟩ := hb2'
  have hj0 : j = 0 := by omega
  subst hj0
  rw [List.getElem?_eq_getElem hi, Option.bind_some, hu]
  simpa using hc2
section
variable {H : Type} {enc : TypeId × Value → H} {P : Program} {w : World} {held : Bool}
theorem arr_ints {t e : TypeId} {fuel : Nat} {cs : List Value} {x : DataW H × List MemPlace} (ht : P.underlying t = some (.slice e)) (he : P.underlying e = some (.int .i64)) (hc : P.cellsOf e = 1)
    (h : DataW.trod enc P w 0 (fun _ => true) held fuel t cs = some x) (hw : ∀ elems spare, x.1 = .slice elems spare → elems.length + spare.length ≤ 140737488355328) : ∃ v xs, cs = [v] ∧ Arr v encI 1 (heapOf w) xs := by
  rcases open_ints ht he hc h with ⟨rfl, _⟩ | ⟨a, len, cap, zs, rfl, _, hl, hm, hz, hx, hcell, hwz⟩
  · exact ⟨_, [], rfl, Arr.nil (fun _ => rfl)⟩
  · have hz' : zs.length = cap := by simpa using hz
    have hb : len ≤ 140737488355328 := by
      have := hw _ _ (by rw [hx])
      simp [lits] at this
      omega
    refine ⟨_, zs.take len, rfl, arr_one (fun x => ⟨_, rfl, rfl⟩) (by simp; omega) hl hb fun i hi u hu => ?_⟩
    have hi2 : i < zs.length := by simp at hi; omega
    rw [hcell i hi2]
    simp only [encI, List.cons.injEq, and_true] at hu
    rw [← hu]
    simp [List.getD_eq_getElem?_getD, hi2]
theorem arr_bools {t e : TypeId} {fuel : Nat} {cs : List Value} {x : DataW H × List MemPlace} (ht : P.underlying t = some (.slice e)) (he : P.underlying e = some .bool) (hc : P.cellsOf e = 1)
    (h : DataW.trod enc P w 0 (fun _ => true) held fuel t cs = some x) (hw : ∀ elems spare, x.1 = .slice elems spare → elems.length + spare.length ≤ 140737488355328) : ∃ v xs, cs = [v] ∧ Arr v encB 1 (heapOf w) xs := by
  rcases open_bools ht he hc h with ⟨rfl, _⟩ | ⟨a, len, cap, B, rfl, _, hl, hm, hx, hcell⟩
  · exact ⟨_, [], rfl, Arr.nil (fun _ => rfl)⟩
  · have hb : len ≤ 140737488355328 := by
      rcases open_slice ht h with ⟨h1, _⟩ | ⟨a', len', cap', m, n, D, Pl, h1, _, hl', _, hmm, hx', _⟩
      · cases h1
      · simp only [List.cons.injEq, Value.slice.injEq, Option.some.injEq, and_true] at h1
        obtain ⟨rfl, rfl, rfl⟩ := h1
        have := hw _ _ (by rw [hx'])
        simp at this
        omega
    refine ⟨_, (List.range len).map B, rfl, arr_one (fun x => ⟨_, rfl, rfl⟩) (by simp) hl hb fun i hi u hu => ?_⟩
    have hi2 : i < len := by simpa using hi
    rw [hcell i (by omega)]
    simp only [encB, List.cons.injEq, and_true] at hu
    rw [← hu]
    simp
end
end Go.X
