/- Slices: made, written as a literal, cut, stored into; the rules for a region's list. No condition. -/
import Derived.Test.YtfenlpoaphbfgaaX7
set_option linter.unusedSimpArgs false
set_option linter.unusedVariables false
namespace Go.X
section
variable {P : Program} {ops : Array Oper} {e : Env} {o r : List PHeap} {d : Option Tmp} {ty : TypeId} {pos : String} {aft : Array Edge}
variable {α : Type} {enc : α → List Value} {sz : Nat} {h : PHeap} {xs : List α} {v : Value}
theorem range_map_const {n : Nat} {zs : List Value} (hz : zs.length ≠ 0) : ((Array.range (n * zs.length)).map fun i => zs.toArray[i % zs.toArray.size]!) = ((List.replicate n zs).flatten).toArray := by
  apply Array.ext'
  simp only [Array.toList_map, Array.toList_range]
  apply List.ext_getElem?
  intro j
  simp only [List.getElem?_map, List.getElem?_range]
  have hfl : ((List.replicate n zs).flatten)[j]? = if j < n * zs.length then some zs[j % zs.length]! else none := by
    have he : ∀ x : Nat, ((fun (_ : Nat) => zs) x).length = zs.length := fun _ => rfl
    have hpos : 0 < zs.length := by omega
    have h1 : (List.replicate n zs).flatten = (List.range n).flatMap (fun _ => zs) := by
      rw [List.flatMap_def]
      congr 1
      apply List.ext_getElem?
      intro m
      by_cases hm : m < n <;> simp [hm]
    rw [h1]
    have h2 := flat_get (enc := fun (_ : Nat) => zs) (sz := zs.length) (fun _ => rfl) (List.range n) (j / zs.length) (j % zs.length) (Nat.mod_lt _ hpos)
    rw [mod_div hpos] at h2
    rw [h2]
    by_cases hj : j < n * zs.length
    · have h3 : j / zs.length < n := Nat.div_lt_of_lt_mul (by rw [Nat.mul_comm]; exact hj)
      have h4 : j % zs.length < zs.length := Nat.mod_lt _ hpos
      simp [h3, hj, h4]
    · have h3 : ¬ j / zs.length < n := by
        intro hc
        apply hj
        have := Nat.lt_mul_of_div_lt hc hpos
        first | exact this | (rw [Nat.mul_comm]; exact this)
      simp [h3, hj]
  rw [hfl]
  by_cases hj : j < n * zs.length
  · simp [hj]
  · simp [hj]
theorem run_makeSlice {t el : TypeId} [u : Und P t (.slice el)] [z : TySize P el sz] {zs : List Value} [zz : Zero P el zs] {by' : Nat} [tb : TyBytes P el by'] {n : Nat} (hzs : zs.length = sz) (hsz : sz ≠ 0)
    (hby : by' ≤ 128) (hn : n ≤ 68719476736) (w : World) {k k' : IntKind} :
    (Instr.makeSlice t (.int k n) (.int k' n)).run P w = .ok (.slice (some ⟨w.heap.size, 0, none⟩) n n) { w with heap := w.heap.push (.cells ((List.replicate n zs).flatten).toArray el (0, 0)) } := by
  obtain ⟨ti, ht1, ht2⟩ := tb.pf
  obtain ⟨zv, hz1, hz2⟩ := zz.pf
  unfold Instr.makeSlice
  rw [bind_ok (u.pf w)]
  simp only
  rw [bind_ok (a := (n : Int)) (w1 := w) rfl, bind_ok (a := (n : Int)) (w1 := w) rfl, bind_ok (ht1 w)]
  have hw : IntKind.i64.wrap (n : Int) = n := wrap64_of ⟨by omega, by omega⟩
  simp only [hw, ht2]
  have hle : (by' : Int) * n ≤ 2 ^ 48 := by
    have h1 : by' * n ≤ 128 * 68719476736 := Nat.mul_le_mul hby hn
    have h2 : ((by' * n : Nat) : Int) ≤ ((128 * 68719476736 : Nat) : Int) := Int.ofNat_le.2 h1
    rw [Int.natCast_mul] at h2
    omega
  have hc : ((decide ((n : Int) < 0) || decide ((by' : Int) * n > 2 ^ 48) || decide ((n : Int) < 0) || decide ((n : Int) > n)) = true) = False := by
    simp only [eq_iff_iff, iff_false, Bool.or_eq_true, decide_eq_true_eq, not_or]
    omega
  simp only [hc, if_false, Int.toNat_natCast]
  rw [bind_ok run_room, bind_ok (z.pf w)]
  by_cases h0 : n * sz = 0
  · have hn0 : n = 0 := by
      rcases Nat.mul_eq_zero.1 h0 with h | h
      · exact h
      · exact absurd h hsz
    subst hn0
    simp only [Nat.zero_mul, if_true, pure_bind]
    have hz0 : (Array.map (fun x => (#[] : Array Value)[x % (#[] : Array Value).size]!) (Array.range 0)) = #[] := by apply Array.ext'; simp
    rw [hz0]
    rfl
  · rw [if_neg h0]
    rw [bind_ok (hz1 w)]
    simp only [pure_bind, hz2]
    have hr := range_map_const (n := n) (zs := zs) (by omega)
    rw [hzs] at hr
    rw [hr]
    rfl
theorem flat_rep {x : α} {n : Nat} : (List.replicate n x).flatMap enc = (List.replicate n (enc x)).flatten := by
  induction n with
  | zero => rfl
  | succ n ih => simp [List.replicate_succ, ih]
theorem rep_len {zs : List Value} {n : Nat} : ((List.replicate n zs).flatten).length = n * zs.length := by
  induction n with
  | zero => simp
  | succ n ih => rw [List.replicate_succ, List.flatten_cons, List.length_append, ih, Nat.add_mul]; omega
/-- make([]T, n): 'x0' is the zero element. -/
theorem Stp.make {t el : TypeId} [u : Und P t (.slice el)] [z : TySize P el sz] {zs : List Value} [zz : Zero P el zs] {by' : Nat} [tb : TyBytes P el by'] {x y : Operand} {k k' : IntKind} {n n' : Int} {i : Nat}
    (enc : α → List Value) (x0 : α) (hx : ev e x = some (.int k n)) (hy : ev e y = some (.int k' n')) (hnn : n = n') [ix : Idx n i] (h0 : 0 ≤ n) (h1 : n ≤ 68719476736)
    (henc : ∀ x, (enc x).length = sz) (hz : enc x0 = zs) (hsz : Nat.blt 0 sz = true) (hby : Nat.ble by' 128 = true) (ho : Ones (enc x0)) :
    Stp P ops ⟨d, .makeSlice t x y, ty, pos, aft, none⟩ e o r (fun v' o2 => ∃ h', OArr v' enc sz el h' (List.replicate i x0) ∧ o2 = h' :: o) := fun D a w he hs => by
  subst hnn
  have hn := ix.pf h0
  subst hn
  have hsz' : sz ≠ 0 := by rw [Nat.blt_eq] at hsz; omega
  have hrun := run_makeSlice (P := P) (t := t) (el := el) (sz := sz) (zs := zs) (by' := by') (n := i) (by rw [← hz, henc]) hsz' (Nat.le_of_ble_eq_true hby) (by omega) w (k := k) (k' := k')
  unfold Does
  simp only [Region.wanted, if_true, execOp, ev_rel he hx, ev_rel he hy, run_val hrun]
  refine ⟨_, ⟨_, ⟨sing w.heap.size (.cells ((List.replicate i zs).flatten).toArray el (0, 0)), ?_, rfl⟩, List.Perm.swap _ _ _⟩, hs.push _⟩
  refine ⟨henc, ⟨by simp; omega, fun y hy c hc => ?_⟩, .inr ⟨w.heap.size, i, (List.replicate i zs).flatten, by simp, rfl, by simp, ?_, ?_⟩⟩
  · rw [List.eq_of_mem_replicate hy] at hc
    exact ho.pf c hc
  · rw [rep_len, ← hz, henc]
  · rw [flat_rep, hz, List.length_replicate]
    rw [List.take_of_length_le]
    rw [rep_len, ← hz, henc]
    exact Nat.le_refl _
/-- []T{..}: 'xs' are the elements. -/
theorem Makes.lit {t el : TypeId} [u : Und P t (.slice el)] [z : TySize P el sz] {zs : List Value} [zz : Zero P el zs] {n : Nat} {l : List (Nat × Operand)} (cs : List Value) (hzs : zs.length = sz) (hsz : Nat.blt 0 sz = true) (hn : Nat.ble (n * sz) 16777216 = true)
    (hf : Fill e (fun i => some (i * sz, sz)) l ((List.replicate n zs).flatten) cs) :
    Makes P ops ⟨d, .buildSlice t n l.toArray, ty, pos, aft, none⟩ e (.cells cs.toArray el (0, 0)) (fun b => .slice (some ⟨b, 0, none⟩) n n) := fun a w he => by
  obtain ⟨zv, hz1, hz2⟩ := zz.pf
  have hsz' : sz ≠ 0 := by rw [Nat.blt_eq] at hsz; omega
  refine ⟨rfl, ?_⟩
  simp only [execOp]
  refine run_val ?_
  unfold Instr.buildSlice
  rw [bind_ok (u.pf w)]
  simp only
  rw [bind_ok (z.pf w), if_neg (by have := Nat.le_of_ble_eq_true hn; omega)]
  have hfill := hf.run he
  by_cases h0 : n * sz = 0
  · have hn0 : n = 0 := by
      rcases Nat.mul_eq_zero.1 h0 with h | h
      · exact h
      · exact absurd h hsz'
    subst hn0
    simp only [Nat.zero_mul, if_true, pure_bind]
    simp only [List.replicate_zero, List.flatten_nil] at hfill
    have hz0 : (Array.map (fun x => (#[] : Array Value)[x % (#[] : Array Value).size]!) (Array.range 0)) = #[] := by apply Array.ext'; simp
    rw [hz0]
    simp only [List.map_toArray]
    rw [hfill]
    rfl
  · rw [if_neg h0]
    rw [bind_ok (hz1 w)]
    simp only [pure_bind, hz2]
    have hr := range_map_const (n := n) (zs := zs) (by omega)
    rw [hzs] at hr
    rw [hr]
    simp only [List.map_toArray]
    rw [hfill]
    rfl
theorem OArr.lit {T b n : Nat} {cs : List Value} (xs : List α) (enc : α → List Value) (henc : ∀ x, (enc x).length = sz) (hcs : xs.flatMap enc = cs) (hn : xs.length = n) (ho : Ones cs) (hle : Nat.ble n 16777216 = true) :
    OArr (.slice (some ⟨b, 0, none⟩) n n) enc sz T (blk b cs T) xs := by
  subst hn
  have := Nat.le_of_ble_eq_true hle
  refine ⟨henc, ⟨by omega, fun x hx c hc => ?_⟩, .inr ⟨b, xs.length, cs, rfl, rfl, Nat.le_refl _, by rw [← hcs, flat_len henc], ?_⟩⟩
  · exact ho.pf c (by rw [← hcs]; exact List.mem_flatMap.2 ⟨x, hx, hc⟩)
  · rw [← hcs, List.take_of_length_le]
    rw [flat_len henc]
    exact Nat.le_refl _
/-- The bounds of s[i:j]. -/
inductive Bd (e : Env) (dflt : Nat) : Option Operand → Nat → Prop
  | n : Bd e dflt none dflt
  | s {x : Operand} {k : IntKind} {n : Int} {i : Nat} (hx : ev e x = some (.int k n)) (hn : n = (i : Int)) : Bd e dflt (some x) i
theorem Bd.run {dflt : Nat} {a : Array Value} (he : ERel e a) {b : Option Operand} {i : Nat} (h : Bd e dflt b i) (y : Nat) (code : BoundsCode) (hi : i ≤ y) (w : World) :
    (b.map (evA a) = none ∧ i = dflt) ∨ ∃ v, b.map (evA a) = some v ∧ (Instr.sliceBound v y code).run P w = .ok i w := by
  cases h with
  | n => exact .inl ⟨rfl, rfl⟩
  | @s x k n i hx hn =>
    right
    refine ⟨.int k n, by simp [ev_rel he hx], ?_⟩
    subst hn
    have h0 : (0 : Int) ≤ i := by omega
    unfold Instr.sliceBound
    rw [bind_ok (a := (k, (i : Int))) (w1 := w) rfl]
    simp only
    rw [if_pos ⟨h0, by omega⟩]
    rfl
/-- s[i:j] -/
theorem Stp.cut {t el : TypeId} [u : Und P t (.slice el)] [z : TySize P el sz] {x : Operand} {lo hi : Option Operand} {i j : Nat} (hx : ev e x = some v) [s : Arr v enc sz h xs]
    (hlo : Bd e 0 lo i) (hhi : Bd e xs.length hi j) (hij : i ≤ j) (hj : j ≤ xs.length) :
    Stp P ops ⟨d, .slice t x lo hi none, ty, pos, aft, none⟩ e o r (fun v' o2 => Arr v' enc sz h ((xs.drop i).take (j - i)) ∧ o2 = o) := fun D a w he hs => by
  obtain ⟨henc, hm, ad, c, rfl, hle, hnn, hc⟩ := s.pf
  have hrun : (Instr.sliceAt t (.slice ad xs.length c) (lo.map (evA a)) (hi.map (evA a)) none).run P w =
      .ok (.slice (if c = i then ad else ad.map (·.add (i * sz))) (j - i) (c - i)) w := by
    unfold Instr.sliceAt
    rw [bind_ok (u.pf w)]
    simp only
    unfold Instr.slice
    rw [bind_ok (u.pf w)]
    simp only
    have hb : (Instr.sliceBounds true xs.length c (lo.map (evA a)) (hi.map (evA a)) none).run P w = .ok (i, j, c) w := by
      unfold Instr.sliceBounds
      simp only [pure_bind]
      rcases Bd.run (P := P) he hhi c .sliceAcap (by omega) w with ⟨h1, h2⟩ | ⟨v1, h1, h2⟩
      · rw [h1, h2]
        simp only [pure_bind]
        rcases Bd.run (P := P) he hlo xs.length .sliceB (by omega) w with ⟨h3, h4⟩ | ⟨v3, h3, h4⟩
        · rw [h3, h4]; rfl
        · rw [h3]
          simp only [Option.isSome_none, Bool.false_eq_true, if_false]
          rw [bind_ok h4]; rfl
      · rw [h1]
        simp only [if_true]
        rw [bind_ok h2]
        rcases Bd.run (P := P) he hlo j .sliceB hij w with ⟨h3, h4⟩ | ⟨v3, h3, h4⟩
        · rw [h3, h4]; rfl
        · rw [h3]
          simp only [Option.isSome_none, Bool.false_eq_true, if_false]
          rw [bind_ok h4]; rfl
    rw [bind_ok hb]
    simp only
    rw [bind_ok (z.pf w)]
    rfl
  unfold Does
  simp only [Option.map_none] at hrun ⊢
  simp only [Region.wanted, if_true, execOp, ev_rel he hx, Option.map_none, run_val hrun]
  refine ⟨D :: o, ⟨o, ⟨?_, rfl⟩, List.Perm.refl _⟩, hs⟩
  have hl : ((xs.drop i).take (j - i)).length = j - i := by simp; omega
  refine ⟨henc, ⟨by omega, fun y hy cc hcc => hm.2 y (List.mem_of_mem_drop (List.mem_of_mem_take hy)) cc hcc⟩, _, c - i, by rw [hl], by omega, ?_, fun hp => ?_⟩
  · intro hnone
    split at hnone
    · rw [hnn hnone]; omega
    · cases ad with
      | none => rw [hnn rfl]; omega
      | some a => simp at hnone
  · obtain ⟨b, k, cs, T, fr, rfl, hb, hcs⟩ := hc (by omega)
    refine ⟨b, k + i * sz, cs, T, fr, ?_, hb, fun m n hm' hn => ?_⟩
    · rw [if_neg (by omega)]
      simp [add_none]
    · have := hcs (i + m) n (by omega) hn
      rw [Nat.add_mul, ← Nat.add_assoc] at this
      rw [this]
      congr 1
      rw [List.getElem?_take, if_pos (by omega), List.getElem?_drop]
/-- A store into an element. -/
theorem Stp0.stE [Inhabited α] {t n T : TypeId} [z : TySize P t n] {x y : Operand} {i k : Nat} {o1 : List PHeap} {u : Value} {us : List Value} (x' : α) (hx : ev e x = some (pat v sz i k)) (hy : ev e y = some u)
    [hc : Cells u us] [ho : Ones us] (hl : us.length = n) [s : OArr v enc sz T h xs] [tk : Take h o o1] (hi : i < xs.length)
    (hx' : enc x' = (enc (xs.getD i default)).take k ++ us ++ (enc (xs.getD i default)).drop (k + n)) (hk : Nat.ble (k + n) sz = true) :
    Stp0 P ops ⟨d, .store t x y, ty, pos, aft, none⟩ e o r (fun v' o2 => ∃ h', OArr v enc sz T h' (xs.set i x') ∧ o2 = h' :: o1) := fun a w he hs => by
  have hs1 := hs.perm tk.pf
  obtain ⟨henc, hm, hv⟩ := s.pf
  rcases hv with ⟨_, hxs, _⟩ | ⟨b, c, cs, hv, hh, hle, hcl, htk⟩
  · subst hxs; simp at hi
  have hk' := Nat.le_of_ble_eq_true hk
  rw [getD_of hi] at hx'
  have hpat : pat v sz i k = ptr b (i * sz + k) := by rw [hv]; simp [pat, add_none]
  have hxv := ev_rel he hx
  rw [hpat] at hxv
  have hheap : w.heap[b]? = some (.cells cs.toArray T (0, 0)) := by
    refine hs1.so h List.mem_cons_self b _ ?_
    rw [hh]; exact sing_self _ _
  have hfit : (i + 1) * sz ≤ c * sz := Nat.mul_le_mul_right _ (by omega)
  have hfit2 : (i + 1) * sz ≤ xs.length * sz := Nat.mul_le_mul_right _ hi
  rw [Nat.add_mul] at hfit hfit2
  obtain ⟨w', h1, h2, h3, h4⟩ := run_storeCells (P := P) (b := b) (k := i * sz + k) (T := T) us 0 w cs ho.pf hheap (by omega)
  have hrun : (Instr.storeAt t (ptr b (i * sz + k)) u).run P w = .ok () w' := by
    unfold Instr.storeAt
    rw [bind_ok (a := (⟨b, i * sz + k, none⟩ : Addr)) (w1 := w) rfl]
    unfold storeVar
    rw [bind_ok (z.pf w), hc.pf, if_neg (by simp [hl])]
    exact h1
  simp only [Nat.add_zero] at h2
  unfold Does
  simp only [Region.wanted, if_true, execOp, hxv, ev_rel he hy, run_unit hrun]
  have hset : ((cs.take (i * sz + k) ++ us ++ cs.drop (i * sz + k + us.length)).take (xs.length * sz)) = (xs.set i x').flatMap enc := by
    apply List.ext_getElem?
    intro m
    by_cases hmm : m < xs.length * sz
    · have hsz : 0 < sz := by
        rcases Nat.eq_zero_or_pos sz with h0 | h0
        · subst h0; simp at hmm
        · exact h0
      have hq : m / sz < xs.length := Nat.div_lt_of_lt_mul (by rw [Nat.mul_comm]; exact hmm)
      have hr' : m % sz < sz := Nat.mod_lt _ hsz
      have hold := flat_get henc xs (m / sz) (m % sz) hr'
      have hnew := flat_get henc (xs.set i x') (m / sz) (m % sz) hr'
      rw [mod_div hsz] at hold hnew
      rw [hnew, List.getElem?_take, if_pos hmm, List.getElem?_set]
      rw [← htk, List.getElem?_take, if_pos hmm] at hold
      have hdm := mod_div (sz := sz) (j := m) hsz
      by_cases hqi : i = m / sz
      · have hmi : i * sz + m % sz = m := by rw [hqi]; exact hdm
        rw [if_pos hqi, if_pos (by omega)]
        simp only [Option.bind_some]
        rw [hx']
        have hold' : ∀ j, j < sz → cs[i * sz + j]? = (enc xs[i])[j]? := fun j hj => by
          have := flat_get henc xs i j hj
          rw [← htk, List.getElem?_take, if_pos (by omega), List.getElem?_eq_getElem hi] at this
          simpa using this
        have hel : (enc xs[i]).length = sz := henc _
        simp only [List.getElem?_append, List.length_append, List.length_take, List.getElem?_take, List.getElem?_drop]
        have e1 : min (i * sz + k) cs.length = i * sz + k := by omega
        have e2 : min k (enc xs[i]).length = k := by omega
        rw [e1, e2]
        by_cases c1 : m % sz < k
        · have hmk : m < i * sz + k := by omega
          simp only [show m < i * sz + k + us.length by omega, if_true, hmk, show m % sz < k + us.length by omega, c1]
          rw [← hold' _ hr', hmi]
        · by_cases c2 : m % sz < k + us.length
          · simp only [show m < i * sz + k + us.length by omega, if_true, show ¬ m < i * sz + k by omega, if_false, c2, c1]
            congr 1
            omega
          · simp only [show ¬ m < i * sz + k + us.length by omega, if_false, c2]
            rw [← hold' (k + n + (m % sz - (k + us.length))) (by omega)]
            congr 1
            omega
      · rw [if_neg hqi, ← hold]
        have hfar : m < i * sz ∨ (i + 1) * sz ≤ m := by
          rcases Nat.lt_or_ge (m / sz) i with h5 | h5
          · left
            have : (m / sz + 1) * sz ≤ i * sz := Nat.mul_le_mul_right _ h5
            rw [Nat.add_mul] at this
            omega
          · right
            have : (i + 1) * sz ≤ (m / sz) * sz := Nat.mul_le_mul_right _ (by omega)
            omega
        rw [Nat.add_mul] at hfar
        simp only [List.getElem?_append, List.length_append, List.length_take, List.getElem?_take, List.getElem?_drop]
        have e1 : min (i * sz + k) cs.length = i * sz + k := by omega
        rw [e1]
        rcases hfar with h5 | h5
        · simp only [show m < i * sz + k + us.length by omega, if_true, show m < i * sz + k by omega]
        · simp only [show ¬ m < i * sz + k + us.length by omega, if_false]
          congr 1
          omega
    · have h6 : (((xs.set i x').flatMap enc)).length = xs.length * sz := by rw [flat_len henc, List.length_set]
      rw [List.getElem?_take, if_neg hmm, List.getElem?_eq_none (by omega)]
  refine ⟨_, ⟨blk b (cs.take (i * sz + k) ++ us ++ cs.drop (i * sz + k + us.length)) T, ?_, rfl⟩, ?_⟩
  · refine ⟨henc, ⟨by rw [List.length_set]; exact hm.1, fun y hy cc hcc => ?_⟩, .inr ⟨b, c, _, by rw [List.length_set]; exact hv, rfl, by rw [List.length_set]; exact hle, ?_, by rw [List.length_set]; exact hset⟩⟩
    · rcases List.mem_or_eq_of_mem_set hy with h7 | h7
      · exact hm.2 y h7 cc hcc
      · subst h7
        rw [hx'] at hcc
        rcases List.mem_append.1 hcc with h8 | h8
        · rcases List.mem_append.1 h8 with h9 | h9
          · exact hm.2 _ (List.getElem_mem hi) cc (List.mem_of_mem_take h9)
          · exact ho.pf cc h9
        · exact hm.2 _ (List.getElem_mem hi) cc (List.mem_of_mem_drop h8)
    · simp only [List.length_append, List.length_take, List.length_drop]
      omega
  · subst hh
    refine Sep.swap hs1 (fun x hx => none_blk (blk_none hx)) ?_ (fun x hx => h3 x (blk_none hx)) rfl h4
    intro x ob hb'
    obtain ⟨rfl, rfl⟩ := sing_some hb'
    exact h2
theorem Stp.stE [Inhabited α] {t n T : TypeId} [z : TySize P t n] {x y : Operand} {i k : Nat} {o1 : List PHeap} {u : Value} {us : List Value} (x' : α) (hx : ev e x = some (pat v sz i k)) (hy : ev e y = some u)
    [hc : Cells u us] [ho : Ones us] (hl : us.length = n) [s : OArr v enc sz T h xs] [tk : Take h o o1] (hi : i < xs.length)
    (hx' : enc x' = (enc (xs.getD i default)).take k ++ us ++ (enc (xs.getD i default)).drop (k + n)) (hk : Nat.ble (k + n) sz = true) :
    Stp P ops ⟨d, .store t x y, ty, pos, aft, none⟩ e o r (fun v' o2 => ∃ h', OArr v enc sz T h' (xs.set i x') ∧ o2 = h' :: o1) := fun D a w he hs =>
  (Stp0.stE (tk := tk.more D) x' hx hy hl hi hx' hk a w he hs).mono fun v w' ⟨o2, ⟨h', h1, h2⟩, hs'⟩ => ⟨o2, ⟨h' :: o1, ⟨h', h1, rfl⟩, by rw [h2]; exact List.Perm.swap _ _ _⟩, hs'⟩
end
end Go.X
