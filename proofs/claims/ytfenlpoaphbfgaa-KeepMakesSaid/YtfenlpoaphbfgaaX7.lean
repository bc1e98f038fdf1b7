/- Slices that are written, made, cut, appended to. No condition. -/
import Derived.Test.YtfenlpoaphbfgaaX6
set_option linter.unusedSimpArgs false
set_option linter.unusedVariables false
namespace Go.X

class TyBytes (P : Program) (t : TypeId) (n : outParam Nat) : Prop where
  pf : ∃ i, (∀ w, (typeInfo t).run P w = .ok i w) ∧ i.bytes = n
theorem growBy_le (need : Nat) : ∀ (n c : Nat), c ≤ need → Builtin.growBy need n c ≤ 2 ^ n * (need + 192)
  | 0, c, h => by simp [Builtin.growBy]; omega
  | n + 1, c, h => by
    unfold Builtin.growBy
    have h2 : (1 : Nat) ≤ 2 ^ n := Nat.one_le_two_pow
    have h3 : need + 192 ≤ 2 ^ n * (need + 192) := Nat.le_mul_of_pos_left _ (by omega)
    have h4 : 2 ^ (n + 1) * (need + 192) = 2 * (2 ^ n * (need + 192)) := by rw [Nat.pow_succ]; ac_rfl
    split
    · omega
    · by_cases hc : c + (c + 768) / 4 ≤ need
      · have := growBy_le need n _ hc; omega
      · have : ∀ m c', need < c' → Builtin.growBy need m c' = c' := by
          intro m c' hcc
          cases m with
          | zero => rfl
          | succ m => unfold Builtin.growBy; rw [if_pos (by omega)]
        rw [this n _ (by omega)]
        omega
theorem nextcap_le {need cap : Nat} (h : cap < need) : Builtin.nextslicecap need cap ≤ 16 * (need + 192) := by
  unfold Builtin.nextslicecap
  split
  · omega
  · split
    · omega
    · have := growBy_le need 4 cap (by omega)
      simpa using this
theorem run_loadCells {P : Program} {w : World} {b k n : Nat} {vs : List Value} (hl : vs.length = n) (h : ∀ j, j < n → w.cell? ⟨b, k + j, none⟩ = vs[j]?) :
    (loadCells ⟨b, k, none⟩ n).run P w = .ok vs.toArray w := by
  have := run_loadCellsFrom (P := P) (w := w) (b := b) (k := k) n 0 #[] vs hl (fun j hj => by rw [Nat.zero_add]; exact h j hj)
  unfold loadCells
  rw [this]
  simp
section
variable {P : Program} {ops : Array Oper} {e : Env} {o r : List PHeap} {d : Option Tmp} {ty : TypeId} {pos : String} {aft : Array Edge}
variable {α : Type} {enc : α → List Value} {sz : Nat} {h : PHeap} {xs : List α} {v : Value}
theorem mod_div {sz j : Nat} (hs : 0 < sz) : j / sz * sz + j % sz = j := by rw [Nat.mul_comm]; exact Nat.div_add_mod j sz
theorem Arr.cells {w : World} (s : Arr v enc sz h xs) (hw : sub h w) (n : Nat) (hn : n ≤ xs.length) :
    (Builtin.firstCells sz n v).run P w = .ok ((xs.take n).flatMap enc).toArray w := by
  obtain ⟨he, hm, a, c, rfl, hle, hnn, hc⟩ := s.pf
  by_cases hz : n = 0
  · subst hz
    simp only [List.take_zero, List.flatMap_nil]
    cases a with
    | none => rfl
    | some a => simp [Builtin.firstCells, loadCells, loadCellsFrom, pure, Sem.run]
  · obtain ⟨b, k, cs, T, fr, rfl, hb, hcs⟩ := hc (by omega)
    have hh := hw b _ hb
    simp only [Builtin.firstCells]
    refine run_loadCells (by rw [flat_len he, List.length_take, Nat.min_eq_left hn]) ?_
    intro j hj
    have hs : 0 < sz := by
      rcases Nat.eq_zero_or_pos sz with h0 | h0
      · subst h0; simp at hj
      · exact h0
    have h1 : j / sz < n := Nat.div_lt_of_lt_mul (by rw [Nat.mul_comm]; exact hj)
    have h2 : j % sz < sz := Nat.mod_lt _ hs
    have h3 := hcs (j / sz) (j % sz) (by omega) h2
    have h4 := flat_get he (xs.take n) (j / sz) (j % sz) h2
    rw [mod_div hs] at h4
    simp only [World.cell?, hh]
    rw [if_neg (by simp), h4, List.getElem?_take, if_pos h1, ← h3]
    congr 1
    have := mod_div (sz := sz) (j := j) hs
    omega
theorem flat_ones {xs : List α} (ho : ∀ x ∈ xs, ∀ c ∈ enc x, one c = true) : ∀ v ∈ xs.flatMap enc, one v = true := by
  intro v hv
  obtain ⟨x, hx, hv⟩ := List.mem_flatMap.1 hv
  exact ho x hx v hv
theorem run_append {t0 t1 el el1 : TypeId} [u : Und P t0 (.slice el)] [u1 : Und P t1 (.slice el1)] [z : TySize P el sz] {by' : Nat} [tb : TyBytes P el by'] {n m : Nat} {bs b2 : Option Addr} {cap c2 : Nat} {w : World}
    (hby : by' ≤ 128) (hn : n + m ≤ 68719476736) : (Builtin.append_ #[t0, t1] ty #[.slice bs n cap, .slice b2 m c2]).run P w =
      (if n + m ≤ cap then (do
          let new ← Builtin.firstCells sz m (.slice b2 m c2)
          if let some a := bs then storeCells (a.add (n * sz)) new.toList
          pure (.slice bs (n + m) cap) : Sem Value)
        else (do
          let newCap ← choose (.appendCap (n + m) cap el)
          askRoom (newCap * by')
          let old ← Builtin.firstCells sz n (.slice bs n cap)
          let new ← Builtin.firstCells sz m (.slice b2 m c2)
          let rest := Builtin.zeroCells (← zeroValue el).cells (newCap - (n + m))
          pure (.slice (some (← newRow el (old ++ new ++ rest))) (n + m) newCap) : Sem Value)).run P w := by
  obtain ⟨ti, ht1, ht2⟩ := tb.pf
  unfold Builtin.append_
  simp only [List.getElem?_toArray, List.getElem?_cons_zero, List.getElem?_cons_succ]
  rw [bind_ok (u.pf w)]
  simp only
  rw [bind_ok (z.pf w), bind_ok (u1.pf w)]
  simp only [pure_bind, Bool.false_eq_true, if_false, Bool.not_false, if_true]
  have hl : (Builtin.lenOf (.slice b2 m c2)).run P w = .ok m w := rfl
  rw [bind_ok hl]
  split
  · rfl
  · rename_i hgt
    rw [bind_ok (ht1 w)]
    rw [if_neg (by intro hc; have := hc.1; simp [IntKind.max, IntKind.signed, IntKind.bits] at this; omega)]
    rw [bind_ok (ht1 w)]
    have hcap : Builtin.nextslicecap (n + m) cap * ti.bytes ≤ 2 ^ 48 := by
      have := nextcap_le (need := n + m) (cap := cap) (by omega)
      rw [ht2]
      calc _ ≤ (16 * (n + m + 192)) * 128 := Nat.mul_le_mul this hby
        _ ≤ 2 ^ 48 := by omega
    rw [if_neg (by omega)]
    simp only [run_bind]
    cases hch : (choose (.appendCap (n + m) cap el)).run P w with
    | halt hh w1 => rfl
    | ok nc w1 =>
      simp only [ht1, ht2]
theorem run_room {n : Nat} {w : World} : (askRoom n).run P w = .ok () w := by
  unfold askRoom; split <;> rfl
theorem Stp0.append {t0 t1 el el1 : TypeId} [u : Und P t0 (.slice el)] [u1 : Und P t1 (.slice el1)] [z : TySize P el sz] {zs : List Value} [zz : Zero P el zs] {by' : Nat} [tb : TyBytes P el by']
    {x y : Operand} {v2 : Value} {h2 : PHeap} {ys : List α} {o1 : List PHeap} (hx : ev e x = some v) (hy : ev e y = some v2) [s : OArr v enc sz el h xs] [t : Take h o o1] [s2 : Arr v2 enc sz h2 ys] [m : InM h2 o1 r]
    (hzs : zs.length = sz) (hby : Nat.ble by' 128 = true) (hn : xs.length + ys.length ≤ 68719476736) :
    Stp0 P ops ⟨d, .call ⟨.builtin .append, #[x, y], #[t0, t1]⟩, ty, pos, aft, none⟩ e o r (fun v' o2 => ∃ h', OArr v' enc sz el h' (xs ++ ys) ∧ o2 = h' :: o1) := fun a w he hs => by
  have hs1 := hs.perm t.pf
  have hb := Nat.le_of_ble_eq_true hby
  have hx' := ev_rel he hx
  have hy' := ev_rel he hy
  obtain ⟨henc, hm1, hv⟩ := s.pf
  obtain ⟨_, hm2, b2, c2, hv2, hle2, _, _⟩ := s2.pf
  have hsub2 : sub h2 w := by
    rcases m.pf with h1 | h1
    · exact hs1.so h2 (List.mem_cons_of_mem _ h1)
    · exact hs1.sr h2 h1
  obtain ⟨zv, hz1, hz2⟩ := zz.pf
  have happ : ∀ w', sub h2 w' → (Builtin.firstCells sz ys.length v2).run P w' = .ok (ys.flatMap enc).toArray w' := fun w' hw' => by
    have := Arr.cells (P := P) s2 hw' ys.length (Nat.le_refl _)
    rwa [List.take_length] at this
  have hones : ∀ x ∈ xs ++ ys, ∀ c ∈ enc x, one c = true := fun x hx => by
    rcases List.mem_append.1 hx with h1 | h1
    · exact hm1.2 x h1
    · exact hm2.2 x h1
  have hlen : (xs ++ ys).length ≤ 140737488355328 := by rw [List.length_append]; omega
  -- what is left: a value, a world, the new heap
  suffices hmain : ∃ v' w' h', (Builtin.append_ #[t0, t1] ty #[v, v2]).run P w = .ok v' w' ∧ OArr v' enc sz el h' (xs ++ ys) ∧ Sep (h' :: o1) r w' by
    obtain ⟨v', w', h', hrun, hO, hS⟩ := hmain
    unfold Does
    simp only [Region.wanted, if_true, execOp, resolve, List.map_toArray, List.map_cons, List.map_nil, hx', hy']
    rw [bind_ok (a := _) (w1 := w) rfl]
    simp only [invoke, builtin]
    rw [run_val hrun]
    exact ⟨h' :: o1, ⟨h', hO, rfl⟩, hS⟩
  -- the new array
  have grow : ∀ (bs : Option Addr) (cap : Nat), v = .slice bs xs.length cap → ¬ xs.length + ys.length ≤ cap → (∀ w', sub h w' → (Builtin.firstCells sz xs.length v).run P w' = .ok (xs.flatMap enc).toArray w') →
      ∃ v' w' h', (Builtin.append_ #[t0, t1] ty #[v, v2]).run P w = .ok v' w' ∧ OArr v' enc sz el h' (xs ++ ys) ∧ Sep (h' :: o1) r w' := by
    intro bs cap hvv hgt hold
    rw [hvv, hv2, run_append (tb := tb) hb hn, if_neg hgt]
    let w1 : World := { w with drawn := w.drawn + 1 }
    obtain ⟨nc, hnc, hch⟩ : ∃ nc, xs.length + ys.length ≤ nc ∧ (choose (.appendCap (xs.length + ys.length) cap el)).run P w = .ok nc w1 :=
      ⟨_, Nat.le_add_right _ _, rfl⟩
    rw [bind_ok hch, bind_ok run_room]
    rw [← hvv, bind_ok (hold w1 (hs1.so h List.mem_cons_self)), ← hv2, bind_ok (happ w1 hsub2), bind_ok (hz1 w1)]
    simp only [hz2]
    refine ⟨_, _, sing w.heap.size (.cells ((xs.flatMap enc).toArray ++ (ys.flatMap enc).toArray ++ Builtin.zeroCells zs.toArray (nc - (xs.length + ys.length))) el (0, 0)), rfl, ?_, ?_⟩
    · refine ⟨henc, ⟨hlen, hones⟩, .inr ⟨w.heap.size, nc, xs.flatMap enc ++ ys.flatMap enc ++ (Builtin.zeroCells zs.toArray (nc - (xs.length + ys.length))).toList, ?_, ?_, ?_, ?_, ?_⟩⟩
      · rw [List.length_append]
      · unfold blk
        congr 2
        simp
      · rw [List.length_append]; exact hnc
      · simp only [List.length_append, flat_len henc]
        have : (Builtin.zeroCells zs.toArray (nc - (xs.length + ys.length))).toList.length = (nc - (xs.length + ys.length)) * sz := by
          simp [Builtin.zeroCells, hzs]
        rw [this, ← Nat.add_mul, ← Nat.add_mul]
        congr 1
        omega
      · rw [List.flatMap_append]
        have h3 : (xs ++ ys).length * sz = (xs.flatMap enc ++ ys.flatMap enc).length := by
          simp only [List.length_append, flat_len henc, Nat.add_mul]
        rw [h3, List.take_left]
    · have hS := Sep.push (w := w1) (⟨hs1.pw, hs1.dr, hs1.so, hs1.sr, hs1.no, hs1.sm⟩ : Sep (h :: o1) r w1) (.cells ((xs.flatMap enc).toArray ++ (ys.flatMap enc).toArray ++ Builtin.zeroCells zs.toArray (nc - (xs.length + ys.length))) el (0, 0))
      have hp : (sing w1.heap.size (.cells ((xs.flatMap enc).toArray ++ (ys.flatMap enc).toArray ++ Builtin.zeroCells zs.toArray (nc - (xs.length + ys.length))) el (0, 0)) :: h :: o1).Perm
          (h :: sing w1.heap.size (.cells ((xs.flatMap enc).toArray ++ (ys.flatMap enc).toArray ++ Builtin.zeroCells zs.toArray (nc - (xs.length + ys.length))) el (0, 0)) :: o1) := List.Perm.swap _ _ _
      exact (hS.perm hp).tail
  have hcells : ∀ w', sub h w' → (Builtin.firstCells sz xs.length v).run P w' = .ok (xs.flatMap enc).toArray w' := fun w' hw' => by
    have := Arr.cells (P := P) (OArr.arr (s := s)) hw' xs.length (Nat.le_refl _)
    rwa [List.take_length] at this
  rcases hv with ⟨hv, hxs, hh⟩ | ⟨b, c, cs, hv, hh, hle, hcl, htk⟩
  · by_cases hfit : xs.length + ys.length ≤ 0
    · have hy0 : ys = [] := List.length_eq_zero_iff.1 (by omega)
      refine ⟨v, w, h, ?_, ?_, hs1⟩
      · rw [hv, hv2]
        have := run_append (P := P) (ty := ty) (u := u) (u1 := u1) (z := z) (tb := tb) (n := 0) (m := ys.length) (bs := none) (b2 := b2) (cap := 0) (c2 := c2) (w := w) hb (by omega)
        rw [this, if_pos (by omega), ← hv2, bind_ok (happ w hsub2)]
        simp only [hy0, List.length_nil]
        rfl
      · subst hy0; rw [List.append_nil]; exact s
    · exact grow none 0 (by rw [hv, hxs]; rfl) hfit hcells
  · by_cases hfit : xs.length + ys.length ≤ c
    · -- there is room
      have hroom : xs.length * sz + (ys.flatMap enc).length ≤ cs.length := by
        rw [flat_len henc, hcl, ← Nat.add_mul]
        exact Nat.mul_le_mul_right _ hfit
      have hheap : w.heap[b]? = some (.cells cs.toArray el (0, 0)) := by
        refine hs1.so h List.mem_cons_self b _ ?_
        rw [hh]; exact sing_self _ _
      obtain ⟨w', h1, h2', h3, h4⟩ := run_storeCells (P := P) (b := b) (k := xs.length * sz) (T := el) (ys.flatMap enc) 0 w cs (flat_ones hm2.2) hheap (by simpa using hroom)
      simp only [Nat.add_zero] at h2'
      refine ⟨.slice (some ⟨b, 0, none⟩) (xs.length + ys.length) c, w', blk b (cs.take (xs.length * sz) ++ ys.flatMap enc ++ cs.drop (xs.length * sz + (ys.flatMap enc).length)) el, ?_, ?_, ?_⟩
      · rw [hv, hv2]
        rw [run_append (tb := tb) hb hn, if_pos hfit, ← hv2, bind_ok (happ w hsub2)]
        simp only [add_none, Nat.zero_add]
        rw [bind_ok h1]
        rfl
      · refine ⟨henc, ⟨hlen, hones⟩, .inr ⟨b, c, _, by rw [List.length_append], rfl, by rw [List.length_append]; exact hfit, ?_, ?_⟩⟩
        · simp only [List.length_append, List.length_take, List.length_drop]
          omega
        · rw [htk, List.flatMap_append]
          have h4 : (xs ++ ys).length * sz = (xs.flatMap enc ++ ys.flatMap enc).length := by
            simp only [List.length_append, flat_len henc, Nat.add_mul]
          rw [h4, List.take_left]
      · subst hh
        refine Sep.swap hs1 (fun x hx => none_blk (blk_none hx)) ?_ (fun x hx => h3 x (blk_none hx)) rfl h4
        intro x ob hb'
        obtain ⟨rfl, rfl⟩ := sing_some hb'
        exact h2'
    · exact grow (some ⟨b, 0, none⟩) c hv hfit hcells
theorem Take.more {h : PHeap} {o o1 : List PHeap} (t : Take h o o1) (D : PHeap) : Take h (D :: o) (D :: o1) := Take.tail h D o o1
theorem InM.more {h : PHeap} {o r : List PHeap} (t : InM h o r) (D : PHeap) : InM h (D :: o) r := ⟨orMap t.pf (List.mem_cons_of_mem _) (fun h => h)⟩
theorem Stp.append {t0 t1 el el1 : TypeId} [u : Und P t0 (.slice el)] [u1 : Und P t1 (.slice el1)] [z : TySize P el sz] {zs : List Value} [zz : Zero P el zs] {by' : Nat} [tb : TyBytes P el by']
    {x y : Operand} {v2 : Value} {h2 : PHeap} {ys : List α} {o1 : List PHeap} (hx : ev e x = some v) (hy : ev e y = some v2) [s : OArr v enc sz el h xs] [t : Take h o o1] [s2 : Arr v2 enc sz h2 ys] [m : InM h2 o1 r]
    (hzs : zs.length = sz) (hby : Nat.ble by' 128 = true) (hn : xs.length + ys.length ≤ 68719476736) :
    Stp P ops ⟨d, .call ⟨.builtin .append, #[x, y], #[t0, t1]⟩, ty, pos, aft, none⟩ e o r (fun v' o2 => ∃ h', OArr v' enc sz el h' (xs ++ ys) ∧ o2 = h' :: o1) := fun D a w he hs =>
  (Stp0.append (t := t.more D) (m := m.more D) hx hy hzs hby hn a w he hs).mono fun v w' ⟨o2, ⟨h', h1, h2⟩, hs'⟩ => ⟨o2, ⟨h' :: o1, ⟨h', h1, rfl⟩, by rw [h2]; exact List.Perm.swap _ _ _⟩, hs'⟩
end
end Go.X
