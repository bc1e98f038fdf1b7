/- A part of the proof: a small program logic, plain laws and contracts of functions, each proved by a walk through its operations. No condition but those that stand in each theorem. -/
import Derived.Test.YtkoojoljdpbnoaaGreatA1
import Derived.Carry
import Derived.Deep.Grids
import Derived.Deep.Slices
import Derived.OpenShut
import Derived.ProofKit
import Derived.RangeFuncRecord
import Derived.SizedLaws
/- Slices: made, written as a literal, cut, stored into; the rules for a region's list. No condition. -/
set_option linter.unusedSimpArgs false
set_option linter.unusedVariables false
namespace Go.X
section
variable {P : Program} {ops : Array Oper} {e : Env} {o r : List PHeap} {d : Option Tmp} {ty : TypeId} {pos : String} {aft : Array Edge}
variable {α : Type} {enc : α → List Value} {sz : Nat} {h : PHeap} {xs : List α} {v : Value}
theorem range_map_const {n : Nat} {zs : List Value} (hz : zs.length ≠ 0) : ((Array.range (n * zs.length)).map fun i => zs.toArray[i % zs.toArray.size]!) = ((List.replicate n zs).flatten).toArray := by
  apply Array.ext'
  simp only [Array.toList_map, Array.toList_range]
  apply List.ext_getElem?
  intro j
  simp only [List.getElem?_map, List.getElem?_range]
  have hfl : ((List.replicate n zs).flatten)[j]? = if j < n * zs.length then some zs[j % zs.length]! else none := by
    have he : ∀ x : Nat, ((fun (_ : Nat) => zs) x).length = zs.length := fun _ => rfl
    have hpos : 0 < zs.length := by omega
    have h1 : (List.replicate n zs).flatten = (List.range n).flatMap (fun _ => zs) := by
      rw [List.flatMap_def]
      congr 1
      apply List.ext_getElem?
      intro m
      by_cases hm : m < n <;> simp [hm]
    rw [h1]
    have h2 := flat_get (enc := fun (_ : Nat) => zs) (sz := zs.length) (fun _ => rfl) (List.range n) (j / zs.length) (j % zs.length) (Nat.mod_lt _ hpos)
    rw [mod_div hpos] at h2
    rw [h2]
    by_cases hj : j < n * zs.length
    · have h3 : j / zs.length < n := Nat.div_lt_of_lt_mul (by rw [Nat.mul_comm]; exact hj)
      have h4 : j % zs.length < zs.length := Nat.mod_lt _ hpos
      simp [h3, hj, h4]
    · have h3 : ¬ j / zs.length < n := by
        intro hc
        apply hj
        have := Nat.lt_mul_of_div_lt hc hpos
        first | exact this | (rw [Nat.mul_comm]; exact this)
      simp [h3, hj]
  rw [hfl]
  by_cases hj : j < n * zs.length
  · simp [hj]
  · simp [hj]
theorem run_makeSlice {t el : TypeId} [u : Und P t (.slice el)] [z : TySize P el sz] {zs : List Value} [zz : Zero P el zs] {by' : Nat} [tb : TyBytes P el by'] {n : Nat} (hzs : zs.length = sz) (hsz : sz ≠ 0)
    (hby : by' ≤ 128) (hn : n ≤ 68719476736) (w : World) {k k' : IntKind} :
    (Instr.makeSlice t (.int k n) (.int k' n)).run P w = .ok (.slice (some ⟨w.heap.size, 0, none⟩) n n) { w with heap := w.heap.push (.cells ((List.replicate n zs).flatten).toArray el (0, 0)) } := by
  obtain ⟨ti, ht1, ht2⟩ := tb.pf
  obtain ⟨zv, hz1, hz2⟩ := zz.pf
  unfold Instr.makeSlice
  rw [bind_ok (u.pf w)]
  simp only
  rw [bind_ok (a := (n : Int)) (w1 := w) rfl, bind_ok (a := (n : Int)) (w1 := w) rfl, bind_ok (ht1 w)]
  have hw : IntKind.i64.wrap (n : Int) = n := wrap64_of ⟨by omega, by omega⟩
  simp only [hw, ht2]
  have hle : (by' : Int) * n ≤ 2 ^ 48 := by
    have h1 : by' * n ≤ 128 * 68719476736 := Nat.mul_le_mul hby hn
    have h2 : ((by' * n : Nat) : Int) ≤ ((128 * 68719476736 : Nat) : Int) := Int.ofNat_le.2 h1
    rw [Int.natCast_mul] at h2
    omega
  have hc : ((decide ((n : Int) < 0) || decide ((by' : Int) * n > 2 ^ 48) || decide ((n : Int) < 0) || decide ((n : Int) > n)) = true) = False := by
    simp only [eq_iff_iff, iff_false, Bool.or_eq_true, decide_eq_true_eq, not_or]
    omega
  simp only [hc, if_false, Int.toNat_natCast]
  rw [bind_ok run_room, bind_ok (z.pf w)]
  by_cases h0 : n * sz = 0
  · have hn0 : n = 0 := by
      rcases Nat.mul_eq_zero.1 h0 with h | h
      · exact h
      · exact absurd h hsz
    subst hn0
    simp only [Nat.zero_mul, if_true, pure_bind]
    have hz0 : (Array.map (fun x => (#[] : Array Value)[x % (#[] : Array Value).size]!) (Array.range 0)) = #[] := by apply Array.ext'; simp
    rw [hz0]
    rfl
  · rw [if_neg h0]
    rw [bind_ok (hz1 w)]
    simp only [pure_bind, hz2]
    have hr := range_map_const (n := n) (zs := zs) (by omega)
    rw [hzs] at hr
    rw [hr]
    rfl
theorem flat_rep {x : α} {n : Nat} : (List.replicate n x).flatMap enc = (List.replicate n (enc x)).flatten := by
  induction n with
  | zero => rfl
  | succ n ih => simp [List.replicate_succ, ih]
theorem rep_len {zs : List Value} {n : Nat} : ((List.replicate n zs).flatten).length = n * zs.length := by
  induction n with
  | zero => simp
  | succ n ih => rw [List.replicate_succ, List.flatten_cons, List.length_append, ih, Nat.add_mul]; omega
/-- make([]T, n): 'x0' is the zero element. -/
theorem Stp.make {t el : TypeId} [u : Und P t (.slice el)] [z : TySize P el sz] {zs : List Value} [zz : Zero P el zs] {by' : Nat} [tb : TyBytes P el by'] {x y : Operand} {k k' : IntKind} {n n' : Int} {i : Nat}
    (enc : α → List Value) (x0 : α) (hx : ev e x = some (.int k n)) (hy : ev e y = some (.int k' n')) (hnn : n = n') [ix : Idx n i] (h0 : 0 ≤ n) (h1 : n ≤ 68719476736)
    (henc : ∀ x, (enc x).length = sz) (hz : enc x0 = zs) (hsz : Nat.blt 0 sz = true) (hby : Nat.ble by' 128 = true) (ho : Ones (enc x0)) :
    Stp P ops ⟨d, .makeSlice t x y, ty, pos, aft, none⟩ e o r (fun v' o2 => ∃ h', OArr v' enc sz el h' (List.replicate i x0) ∧ o2 = h' :: o) := fun D a w he hs => by
  subst hnn
  have hn := ix.pf h0
  subst hn
  have hsz' : sz ≠ 0 := by rw [Nat.blt_eq] at hsz; omega
  have hrun := run_makeSlice (P := P) (t := t) (el := el) (sz := sz) (zs := zs) (by' := by') (n := i) (by rw [← hz, henc]) hsz' (Nat.le_of_ble_eq_true hby) (by omega) w (k := k) (k' := k')
  unfold Does
  simp only [Region.wanted, if_true, execOp, ev_rel he hx, ev_rel he hy, run_val hrun]
  refine ⟨_, ⟨_, ⟨sing w.heap.size (.cells ((List.replicate i zs).flatten).toArray el (0, 0)), ?_, rfl⟩, List.Perm.swap _ _ _⟩, hs.push _⟩
  refine ⟨henc, ⟨by simp; omega, fun y hy c hc => ?_⟩, .inr ⟨w.heap.size, i, (List.replicate i zs).flatten, by simp, rfl, by simp, ?_, ?_⟩⟩
  · rw [List.eq_of_mem_replicate hy] at hc
    exact ho.pf c hc
  · rw [rep_len, ← hz, henc]
  · rw [flat_rep, hz, List.length_replicate]
    rw [List.take_of_length_le]
    rw [rep_len, ← hz, henc]
    exact Nat.le_refl _
/-- []T{..}: 'xs' are the elements. -/
theorem Makes.lit {t el : TypeId} [u : Und P t (.slice el)] [z : TySize P el sz] {zs : List Value} [zz : Zero P el zs] {n : Nat} {l : List (Nat × Operand)} (cs : List Value) (hzs : zs.length = sz) (hsz : Nat.blt 0 sz = true) (hn : Nat.ble (n * sz) 16777216 = true)
    (hf : Fill e (fun i => some (i * sz, sz)) l ((List.replicate n zs).flatten) cs) :
    Makes P ops ⟨d, .buildSlice t n l.toArray, ty, pos, aft, none⟩ e (.cells cs.toArray el (0, 0)) (fun b => .slice (some ⟨b, 0, none⟩) n n) := fun a w he => by
  obtain ⟨zv, hz1, hz2⟩ := zz.pf
  have hsz' : sz ≠ 0 := by rw [Nat.blt_eq] at hsz; omega
  refine ⟨rfl, ?_⟩
  simp only [execOp]
  refine run_val ?_
  unfold Instr.buildSlice
  rw [bind_ok (u.pf w)]
  simp only
  rw [bind_ok (z.pf w), if_neg (by have := Nat.le_of_ble_eq_true hn; omega)]
  have hfill := hf.run he
  by_cases h0 : n * sz = 0
  · have hn0 : n = 0 := by
      rcases Nat.mul_eq_zero.1 h0 with h | h
      · exact h
      · exact absurd h hsz'
    subst hn0
    simp only [Nat.zero_mul, if_true, pure_bind]
    simp only [List.replicate_zero, List.flatten_nil] at hfill
    have hz0 : (Array.map (fun x => (#[] : Array Value)[x % (#[] : Array Value).size]!) (Array.range 0)) = #[] := by apply Array.ext'; simp
    rw [hz0]
    simp only [List.map_toArray]
    rw [hfill]
    rfl
  · rw [if_neg h0]
    rw [bind_ok (hz1 w)]
    simp only [pure_bind, hz2]
    have hr := range_map_const (n := n) (zs := zs) (by omega)
    rw [hzs] at hr
    rw [hr]
    simp only [List.map_toArray]
    rw [hfill]
    rfl
theorem OArr.lit {T b n : Nat} {cs : List Value} (xs : List α) (enc : α → List Value) (henc : ∀ x, (enc x).length = sz) (hcs : xs.flatMap enc = cs) (hn : xs.length = n) (ho : Ones cs) (hle : Nat.ble n 16777216 = true) :
    OArr (.slice (some ⟨b, 0, none⟩) n n) enc sz T (blk b cs T) xs := by
  subst hn
  have := Nat.le_of_ble_eq_true hle
  refine ⟨henc, ⟨by omega, fun x hx c hc => ?_⟩, .inr ⟨b, xs.length, cs, rfl, rfl, Nat.le_refl _, by rw [← hcs, flat_len henc], ?_⟩⟩
  · exact ho.pf c (by rw [← hcs]; exact List.mem_flatMap.2 ⟨x, hx, hc⟩)
  · rw [← hcs, List.take_of_length_le]
    rw [flat_len henc]
    exact Nat.le_refl _
/-- The bounds of s[i:j]. -/
inductive Bd (e : Env) (dflt : Nat) : Option Operand → Nat → Prop
  | n : Bd e dflt none dflt
  | s {x : Operand} {k : IntKind} {n : Int} {i : Nat} (hx : ev e x = some (.int k n)) (hn : n = (i : Int)) : Bd e dflt (some x) i
theorem Bd.run {dflt : Nat} {a : Array Value} (he : ERel e a) {b : Option Operand} {i : Nat} (h : Bd e dflt b i) (y : Nat) (code : BoundsCode) (hi : i ≤ y) (w : World) :
    (b.map (evA a) = none ∧ i = dflt) ∨ ∃ v, b.map (evA a) = some v ∧ (Instr.sliceBound v y code).run P w = .ok i w := by
  cases h with
  | n => exact .inl ⟨rfl, rfl⟩
  | @s x k n i hx hn =>
    right
    refine ⟨.int k n, by simp [ev_rel he hx], ?_⟩
    subst hn
    have h0 : (0 : Int) ≤ i := by omega
    unfold Instr.sliceBound
    rw [bind_ok (a := (k, (i : Int))) (w1 := w) rfl]
    simp only
    rw [if_pos ⟨h0, by omega⟩]
    rfl
/-- s[i:j] -/
theorem Stp.cut {t el : TypeId} [u : Und P t (.slice el)] [z : TySize P el sz] {x : Operand} {lo hi : Option Operand} {i j : Nat} (hx : ev e x = some v) [s : Arr v enc sz h xs]
    (hlo : Bd e 0 lo i) (hhi : Bd e xs.length hi j) (hij : i ≤ j) (hj : j ≤ xs.length) :
    Stp P ops ⟨d, .slice t x lo hi none, ty, pos, aft, none⟩ e o r (fun v' o2 => Arr v' enc sz h ((xs.drop i).take (j - i)) ∧ o2 = o) := fun D a w he hs => by
  obtain ⟨henc, hm, ad, c, rfl, hle, hnn, hc⟩ := s.pf
  have hrun : (Instr.sliceAt t (.slice ad xs.length c) (lo.map (evA a)) (hi.map (evA a)) none).run P w =
      .ok (.slice (if c = i then ad else ad.map (·.add (i * sz))) (j - i) (c - i)) w := by
    unfold Instr.sliceAt
    rw [bind_ok (u.pf w)]
    simp only
    unfold Instr.slice
    rw [bind_ok (u.pf w)]
    simp only
    have hb : (Instr.sliceBounds true xs.length c (lo.map (evA a)) (hi.map (evA a)) none).run P w = .ok (i, j, c) w := by
      unfold Instr.sliceBounds
      simp only [pure_bind]
      rcases Bd.run (P := P) he hhi c .sliceAcap (by omega) w with ⟨h1, h2⟩ | ⟨v1, h1, h2⟩
      · rw [h1, h2]
        simp only [pure_bind]
        rcases Bd.run (P := P) he hlo xs.length .sliceB (by omega) w with ⟨h3, h4⟩ | ⟨v3, h3, h4⟩
        · rw [h3, h4]; rfl
        · rw [h3]
          simp only [Option.isSome_none, Bool.false_eq_true, if_false]
          rw [bind_ok h4]; rfl
      · rw [h1]
        simp only [if_true]
        rw [bind_ok h2]
        rcases Bd.run (P := P) he hlo j .sliceB hij w with ⟨h3, h4⟩ | ⟨v3, h3, h4⟩
        · rw [h3, h4]; rfl
        · rw [h3]
          simp only [Option.isSome_none, Bool.false_eq_true, if_false]
          rw [bind_ok h4]; rfl
    rw [bind_ok hb]
    simp only
    rw [bind_ok (z.pf w)]
    rfl
  unfold Does
  simp only [Option.map_none] at hrun ⊢
  simp only [Region.wanted, if_true, execOp, ev_rel he hx, Option.map_none, run_val hrun]
  refine ⟨D :: o, ⟨o, ⟨?_, rfl⟩, List.Perm.refl _⟩, hs⟩
  have hl : ((xs.drop i).take (j - i)).length = j - i := by simp; omega
  refine ⟨henc, ⟨by omega, fun y hy cc hcc => hm.2 y (List.mem_of_mem_drop (List.mem_of_mem_take hy)) cc hcc⟩, _, c - i, by rw [hl], by omega, ?_, fun hp => ?_⟩
  · intro hnone
    split at hnone
    · rw [hnn hnone]; omega
    · cases ad with
      | none => rw [hnn rfl]; omega
      | some a => simp at hnone
  · obtain ⟨b, k, cs, T, fr, rfl, hb, hcs⟩ := hc (by omega)
    refine ⟨b, k + i * sz, cs, T, fr, ?_, hb, fun m n hm' hn => ?_⟩
    · rw [if_neg (by omega)]
      simp [add_none]
    · have := hcs (i + m) n (by omega) hn
      rw [Nat.add_mul, ← Nat.add_assoc] at this
      rw [this]
      congr 1
      rw [List.getElem?_take, if_pos (by omega), List.getElem?_drop]
/-- A store into an element. -/
theorem Stp0.stE [Inhabited α] {t n T : TypeId} [z : TySize P t n] {x y : Operand} {i k : Nat} {o1 : List PHeap} {u : Value} {us : List Value} (x' : α) (hx : ev e x = some (pat v sz i k)) (hy : ev e y = some u)
    [hc : Cells u us] [ho : Ones us] (hl : us.length = n) [s : OArr v enc sz T h xs] [tk : Take h o o1] (hi : i < xs.length)
    (hx' : enc x' = (enc (xs.getD i default)).take k ++ us ++ (enc (xs.getD i default)).drop (k + n)) (hk : Nat.ble (k + n) sz = true) :
    Stp0 P ops ⟨d, .store t x y, ty, pos, aft, none⟩ e o r (fun v' o2 => ∃ h', OArr v enc sz T h' (xs.set i x') ∧ o2 = h' :: o1) := fun a w he hs => by
  have hs1 := hs.perm tk.pf
  obtain ⟨henc, hm, hv⟩ := s.pf
  rcases hv with ⟨_, hxs, _⟩ | ⟨b, c, cs, hv, hh, hle, hcl, htk⟩
  · subst hxs; simp at hi
  have hk' := Nat.le_of_ble_eq_true hk
  rw [getD_of hi] at hx'
  have hpat : pat v sz i k = ptr b (i * sz + k) := by rw [hv]; simp [pat, add_none]
  have hxv := ev_rel he hx
  rw [hpat] at hxv
  have hheap : w.heap[b]? = some (.cells cs.toArray T (0, 0)) := by
    refine hs1.so h List.mem_cons_self b _ ?_
    rw [hh]; exact sing_self _ _
  have hfit : (i + 1) * sz ≤ c * sz := Nat.mul_le_mul_right _ (by omega)
  have hfit2 : (i + 1) * sz ≤ xs.length * sz := Nat.mul_le_mul_right _ hi
  rw [Nat.add_mul] at hfit hfit2
  obtain ⟨w', h1, h2, h3, h4⟩ := run_storeCells (P := P) (b := b) (k := i * sz + k) (T := T) us 0 w cs ho.pf hheap (by omega)
  have hrun : (Instr.storeAt t (ptr b (i * sz + k)) u).run P w = .ok () w' := by
    unfold Instr.storeAt
    rw [bind_ok (a := (⟨b, i * sz + k, none⟩ : Addr)) (w1 := w) rfl]
    unfold storeVar
    rw [bind_ok (z.pf w), hc.pf, if_neg (by simp [hl])]
    exact h1
  simp only [Nat.add_zero] at h2
  unfold Does
  simp only [Region.wanted, if_true, execOp, hxv, ev_rel he hy, run_unit hrun]
  have hset : ((cs.take (i * sz + k) ++ us ++ cs.drop (i * sz + k + us.length)).take (xs.length * sz)) = (xs.set i x').flatMap enc := by
    apply List.ext_getElem?
    intro m
    by_cases hmm : m < xs.length * sz
    · have hsz : 0 < sz := by
        rcases Nat.eq_zero_or_pos sz with h0 | h0
        · subst h0; simp at hmm
        · exact h0
      have hq : m / sz < xs.length := Nat.div_lt_of_lt_mul (by rw [Nat.mul_comm]; exact hmm)
      have hr' : m % sz < sz := Nat.mod_lt _ hsz
      have hold := flat_get henc xs (m / sz) (m % sz) hr'
      have hnew := flat_get henc (xs.set i x') (m / sz) (m % sz) hr'
      rw [mod_div hsz] at hold hnew
      rw [hnew, List.getElem?_take, if_pos hmm, List.getElem?_set]
      rw [← htk, List.getElem?_take, if_pos hmm] at hold
      have hdm := mod_div (sz := sz) (j := m) hsz
      by_cases hqi : i = m / sz
      · have hmi : i * sz + m % sz = m := by rw [hqi]; exact hdm
        rw [if_pos hqi, if_pos (by omega)]
        simp only [Option.bind_some]
        rw [hx']
        have hold' : ∀ j, j < sz → cs[i * sz + j]? = (enc xs[i])[j]? := fun j hj => by
          have := flat_get henc xs i j hj
          rw [← htk, List.getElem?_take, if_pos (by omega), List.getElem?_eq_getElem hi] at this
          simpa using this
        have hel : (enc xs[i]).length = sz := henc _
        simp only [List.getElem?_append, List.length_append, List.length_take, List.getElem?_take, List.getElem?_drop]
        have e1 : min (i * sz + k) cs.length = i * sz + k := by omega
        have e2 : min k (enc xs[i]).length = k := by omega
        rw [e1, e2]
        by_cases c1 : m % sz < k
        · have hmk : m < i * sz + k := by omega
          simp only [show m < i * sz + k + us.length by omega, if_true, hmk, show m % sz < k + us.length by omega, c1]
          rw [← hold' _ hr', hmi]
        · by_cases c2 : m % sz < k + us.length
          · simp only [show m < i * sz + k + us.length by omega, if_true, show ¬ m < i * sz + k by omega, if_false, c2, c1]
            congr 1
            omega
          · simp only [show ¬ m < i * sz + k + us.length by omega, if_false, c2]
            rw [← hold' (k + n + (m % sz - (k + us.length))) (by omega)]
            congr 1
            omega
      · rw [if_neg hqi, ← hold]
        have hfar : m < i * sz ∨ (i + 1) * sz ≤ m := by
          rcases Nat.lt_or_ge (m / sz) i with h5 | h5
          · left
            have : (m / sz + 1) * sz ≤ i * sz := Nat.mul_le_mul_right _ h5
            rw [Nat.add_mul] at this
            omega
          · right
            have : (i + 1) * sz ≤ (m / sz) * sz := Nat.mul_le_mul_right _ (by omega)
            omega
        rw [Nat.add_mul] at hfar
        simp only [List.getElem?_append, List.length_append, List.length_take, List.getElem?_take, List.getElem?_drop]
        have e1 : min (i * sz + k) cs.length = i * sz + k := by omega
        rw [e1]
        rcases hfar with h5 | h5
        · simp only [show m < i * sz + k + us.length by omega, if_true, show m < i * sz + k by omega]
        · simp only [show ¬ m < i * sz + k + us.length by omega, if_false]
          congr 1
          omega
    · have h6 : (((xs.set i x').flatMap enc)).length = xs.length * sz := by rw [flat_len henc, List.length_set]
      rw [List.getElem?_take, if_neg hmm, List.getElem?_eq_none (by omega)]
  refine ⟨_, ⟨blk b (cs.take (i * sz + k) ++ us ++ cs.drop (i * sz + k + us.length)) T, ?_, rfl⟩, ?_⟩
  · refine ⟨henc, ⟨by rw [List.length_set]; exact hm.1, fun y hy cc hcc => ?_⟩, .inr ⟨b, c, _, by rw [List.length_set]; exact hv, rfl, by rw [List.length_set]; exact hle, ?_, by rw [List.length_set]; exact hset⟩⟩
    · rcases List.mem_or_eq_of_mem_set hy with h7 | h7
      · exact hm.2 y h7 cc hcc
      · subst h7
        rw [hx'] at hcc
        rcases List.mem_append.1 hcc with h8 | h8
        · rcases List.mem_append.1 h8 with h9 | h9
          · exact hm.2 _ (List.getElem_mem hi) cc (List.mem_of_mem_take h9)
          · exact ho.pf cc h9
        · exact hm.2 _ (List.getElem_mem hi) cc (List.mem_of_mem_drop h8)
    · simp only [List.length_append, List.length_take, List.length_drop]
      omega
  · subst hh
    refine Sep.swap hs1 (fun x hx => none_blk (blk_none hx)) ?_ (fun x hx => h3 x (blk_none hx)) rfl h4
    intro x ob hb'
    obtain ⟨rfl, rfl⟩ := sing_some hb'
    exact h2
theorem Stp.stE [Inhabited α] {t n T : TypeId} [z : TySize P t n] {x y : Operand} {i k : Nat} {o1 : List PHeap} {u : Value} {us : List Value} (x' : α) (hx : ev e x = some (pat v sz i k)) (hy : ev e y = some u)
    [hc : Cells u us] [ho : Ones us] (hl : us.length = n) [s : OArr v enc sz T h xs] [tk : Take h o o1] (hi : i < xs.length)
    (hx' : enc x' = (enc (xs.getD i default)).take k ++ us ++ (enc (xs.getD i default)).drop (k + n)) (hk : Nat.ble (k + n) sz = true) :
    Stp P ops ⟨d, .store t x y, ty, pos, aft, none⟩ e o r (fun v' o2 => ∃ h', OArr v enc sz T h' (xs.set i x') ∧ o2 = h' :: o1) := fun D a w he hs =>
  (Stp0.stE (tk := tk.more D) x' hx hy hl hi hx' hk a w he hs).mono fun v w' ⟨o2, ⟨h', h1, h2⟩, hs'⟩ => ⟨o2, ⟨h' :: o1, ⟨h', h1, rfl⟩, by rw [h2]; exact List.Perm.swap _ _ _⟩, hs'⟩
end
end Go.X

/- The rules for a region's list of operations, loops and joins with what has changed named. No condition. -/
set_option linter.unusedSimpArgs false
set_option linter.unusedVariables false
namespace Go.X

/-! ### what a type's table says of its parts -/
inductive Szs (P : Program) : List Field → List (Nat × Nat) → Prop
  | n : Szs P [] []
  | c {f : Field} {fs : List Field} {ps : List (Nat × Nat)} {m : Nat} (h : ∀ w, (sizeOf f.type).run P w = .ok m w) (r : Szs P fs ps) : Szs P (f :: fs) ((f.offset, m) :: ps)
theorem Szs.run {P : Program} {fs : List Field} {ps : List (Nat × Nat)} (h : Szs P fs ps) (w : World) :
    (fs.mapM (fun f => do pure (f.offset, ← sizeOf f.type) : Field → Sem (Nat × Nat))).run P w = .ok ps w := by
  induction h with
  | n => rfl
  | c h r ih =>
    rw [List.mapM_cons, bind_ok (by rw [bind_ok (h w)]; rfl), bind_ok ih]
    rfl
theorem Places.struct {P : Program} {t : TypeId} {fs : List Field} {ps : List (Nat × Nat)} (u : Und P t (.struct fs.toArray)) (h : Szs P fs ps) : Places P t (fun i => ps[i]?) := ⟨by
  intro parts z cells w hz hf
  unfold Instr.build
  rw [bind_ok (hz w), bind_ok (u.pf w)]
  simp only
  have e1 : (fs.toArray.mapM (fun f => do pure (f.offset, ← sizeOf f.type) : Field → Sem (Nat × Nat))).run P w = .ok ps.toArray w := by
    rw [List.mapM_toArray, map_eq_pure_bind, bind_ok (h.run w)]
    rfl
  rw [bind_ok e1]
  simp only [List.getElem?_toArray, hf]
  rfl⟩
theorem Places.array {P : Program} {t el len size : Nat} (u : Und P t (.array len el)) (s : TySize P el size) : Places P t (fun i => some (i * size, size)) := ⟨by
  intro parts z cells w hz hf
  unfold Instr.build
  rw [bind_ok (hz w), bind_ok (u.pf w)]
  simp only
  rw [bind_ok (s.pf w)]
  simp only [hf]
  rfl⟩

/-! ### environments -/
def EnvLe (e' e : Env) : Prop := ∀ a, ERel e a → ERel e' a
def kills : List Nat → Env → Env
  | [], e => e
  | t :: ts, e => (t, none) :: kills ts e
def memN (t : Nat) : List Nat → Bool
  | [] => false
  | s :: ss => match Nat.beq t s with
    | true => true
    | false => memN t ss
def keysIn : Env → List Nat → Bool
  | [], _ => true
  | (t, _) :: e, ks => match memN t ks with
    | true => keysIn e ks
    | false => false
theorem find_kills {ks : List Nat} {e : Env} {t : Nat} {v : Value} (h : find (kills ks e) t = some v) : memN t ks = false ∧ find e t = some v := by
  induction ks with
  | nil => exact ⟨rfl, h⟩
  | cons s ss ih =>
    simp only [kills, find] at h
    split at h
    · cases h
    · rename_i hb
      obtain ⟨h1, h2⟩ := ih h
      exact ⟨by simp only [memN, hb]; exact h1, h2⟩
theorem find_skip {ks : List Nat} {e1 e0 : Env} {t : Nat} (hk : keysIn e1 ks = true) (ht : memN t ks = false) : find (e1 ++ e0) t = find e0 t := by
  induction e1 with
  | nil => rfl
  | cons p e1 ih =>
    obtain ⟨s, v⟩ := p
    simp only [keysIn] at hk
    split at hk
    · rename_i hs
      simp only [List.cons_append, find]
      split
      · rename_i hb
        have := Nat.eq_of_beq_eq_true hb
        subst this
        rw [hs] at ht; cases ht
      · exact ih hk
    · cases hk
theorem EnvLe.base {e e0 : Env} {ks : List Nat} (n : Nat) (hd : e.drop n = e0) (hk : keysIn (e.take n) ks = true) : EnvLe (kills ks e0) e := by
  intro a he t v hv
  obtain ⟨h1, h2⟩ := find_kills hv
  refine he t v ?_
  rw [← List.take_append_drop n e, hd, find_skip hk h1]
  exact h2
theorem EnvLe.c {e e' : Env} {t : Nat} {v : Value} (h : find e t = some v) (r : EnvLe e' e) : EnvLe ((t, some v) :: e') e := by
  intro a he s u hu
  simp only [find] at hu
  split at hu
  · rename_i hb
    have := Nat.eq_of_beq_eq_true hb
    subst this
    simp only [Option.some.injEq] at hu
    subst hu
    exact he _ _ h
  · exact r a he s u hu
theorem EnvLe.refl (e : Env) : EnvLe e e := fun _ h => h

section
variable {c : Cx} {k : List Item} {e : Env} {o r : List PHeap}
/-- A loop: 'ks' the temporaries that it writes, 'up' what the live ones of them hold at the head, 'oc' the heaps that it changes; x stands for all that changes. -/
theorem XK.rounds {X : Type} (ks : List Nat) (up : X → Env) (oc : X → List PHeap) (ok : List PHeap) (I : X → Prop) (μ : X → Nat) (x0 : X) {body : Code} (h0 : I x0)
    (henv : EnvLe (up x0 ++ kills ks e) e) (hmem : Wk o (oc x0 ++ ok))
    (round : ∀ x, I x → (∀ x' e' o', I x' → μ x' < μ x → EnvLe (up x' ++ kills ks e) e' → Wk o' (oc x' ++ ok) → XK c (.inLoop body :: k) e' o' r) →
      XK c (.code body :: .inLoop body :: k) (up x ++ kills ks e) (oc x ++ ok) r) :
    XK c (.code (.loop body) :: k) e o r :=
  XK.loop (fun x => up x ++ kills ks e) (fun x => oc x ++ ok) (fun _ => r) I μ x0 h0 henv (fun D w => hmem.sepD) fun x hI ih =>
    round x hI fun x' e' o' hI' hlt he hw => XK.weaken (ih x' hI' hlt) he (fun D w => hw.sepD)
/-- Ways that meet again: 'k' is proved once. -/
theorem XK.join {X : Type} (ks : List Nat) (up : X → Env) (oc : X → List PHeap) (ok : List PHeap) (I : X → Prop) {it : Item}
    (cont : ∀ x, I x → XK c k (up x ++ kills ks e) (oc x ++ ok) r)
    (first : (∀ x e' o', I x → EnvLe (up x ++ kills ks e) e' → Wk o' (oc x ++ ok) → XK c k e' o' r) → XK c (it :: k) e o r) : XK c (it :: k) e o r :=
  first fun x e' o' hI he hw => XK.weaken (cont x hI) he (fun D w => hw.sepD)
theorem XK.drop {o' : List PHeap} [p : Wk o o'] (h : XK c k e o' r) : XK c k e o r := XK.weaken h (fun _ h => h) (fun D w => p.sepD)
end
section
variable {c : Cx} {ops : Array Oper} {rest : List Oper} {k : List Item} {e : Env} {o r : List PHeap} {d : Nat} {dd : Option Tmp} {ty : TypeId} {pos : String} {aft : Array Edge}
variable {α : Type} {enc : α → List Value} {sz : Nat} {h : PHeap} {xs : List α} {v : Value}
theorem XO.weaken {e' : Env} {o' : List PHeap} (h : XO c ops rest k e' o' r) (he : EnvLe e' e) (hm : ∀ D w, Sep (D :: o) (c.B :: r) w → Sep (D :: o') (c.B :: r) w) : XO c ops rest k e o r :=
  fun j hj hok D ds a w cs ha h1 hD h2 => h j hj hok D ds a w cs ha (he a h1) hD (hm D w h2)
theorem XO.drop {o' : List PHeap} [p : Wk o o'] (h : XO c ops rest k e o' r) : XO c ops rest k e o r := XO.weaken h (EnvLe.refl e) (fun D w => p.sepD)
theorem XO.ix {t el : TypeId} [u : Und c.P t (.slice el)] [z : TySize c.P el sz] {x y : Operand} {kk : IntKind} {n : Int} {i : Nat} (hx : ev e x = some v) (hy : ev e y = some (.int kk n))
    [s : Arr v enc sz h xs] [ix : Idx n i] (h0 : 0 ≤ n) (h1 : n < xs.length) (hn : i < xs.length → XO c ops rest k ((d, some (pat v sz i 0)) :: e) o r) :
    XO c ops (⟨some d, .indexAddr t x y, ty, pos, aft, none⟩ :: rest) k e o r :=
  XO.q (Q.ix hx hy h0 h1) (hn (by have := ix.pf h0; omega))
theorem XO.append {t0 t1 el el1 : TypeId} [u : Und c.P t0 (.slice el)] [u1 : Und c.P t1 (.slice el1)] [z : TySize c.P el sz] {zs : List Value} [zz : Zero c.P el zs] {by' : Nat} [tb : TyBytes c.P el by']
    {x y : Operand} {v2 : Value} {h2 : PHeap} {ys : List α} {o1 : List PHeap} (hx : ev e x = some v) (hy : ev e y = some v2) [s : OArr v enc sz el h xs] [t : Take h o o1] [s2 : Arr v2 enc sz h2 ys] [m : InM h2 o1 (c.B :: r)]
    (hzs : zs.length = sz) (hby : Nat.ble by' 128 = true) (hn : xs.length + ys.length ≤ 68719476736) (hnx : ∀ v' h', OArr v' enc sz el h' (xs ++ ys) → XO c ops rest k ((d, some v') :: e) (h' :: o1) r) :
    XO c ops (⟨some d, .call ⟨.builtin .append, #[x, y], #[t0, t1]⟩, ty, pos, aft, none⟩ :: rest) k e o r :=
  XO.s (Stp.append hx hy hzs hby hn) fun v' _ ⟨h', hO, h2⟩ => by subst h2; exact hnx v' h' hO
theorem XO.make {t el : TypeId} [u : Und c.P t (.slice el)] [z : TySize c.P el sz] {zs : List Value} [zz : Zero c.P el zs] {by' : Nat} [tb : TyBytes c.P el by'] {x y : Operand} {kk k' : IntKind} {n n' : Int} {i : Nat}
    (enc : α → List Value) (x0 : α) (hx : ev e x = some (.int kk n)) (hy : ev e y = some (.int k' n')) (hnn : n = n') [ix : Idx n i] (h0 : 0 ≤ n) (h1 : n ≤ 68719476736)
    (henc : ∀ x, (enc x).length = sz) (hz : enc x0 = zs) (hsz : Nat.blt 0 sz = true) (hby : Nat.ble by' 128 = true) (ho : Ones (enc x0))
    (hnx : ∀ v' h', OArr v' enc sz el h' (List.replicate i x0) → XO c ops rest k ((d, some v') :: e) (h' :: o) r) :
    XO c ops (⟨some d, .makeSlice t x y, ty, pos, aft, none⟩ :: rest) k e o r :=
  XO.s (Stp.make enc x0 hx hy hnn h0 h1 henc hz hsz hby ho) fun v' _ ⟨h', hO, h2⟩ => by subst h2; exact hnx v' h' hO
theorem XO.lit {t el : TypeId} [u : Und c.P t (.slice el)] [z : TySize c.P el sz] {zs : List Value} [zz : Zero c.P el zs] {n : Nat} {l : List (Nat × Operand)} (zl cs : List Value) (xs : List α) (enc : α → List Value)
    (hzs : zs.length = sz) (hsz : Nat.blt 0 sz = true) (hn : Nat.ble (n * sz) 16777216 = true) (hzl : (List.replicate n zs).flatten = zl) (hf : Fill e (fun i => some (i * sz, sz)) l zl cs)
    (henc : ∀ x, (enc x).length = sz) (hcs : xs.flatMap enc = cs) (hxn : xs.length = n) (ho : Ones cs) (hle : Nat.ble n 16777216 = true)
    (hnx : ∀ v' h', OArr v' enc sz el h' xs → XO c ops rest k ((d, some v') :: e) (h' :: o) r) :
    XO c ops (⟨some d, .buildSlice t n l.toArray, ty, pos, aft, none⟩ :: rest) k e o r :=
  XO.m (Makes.lit cs hzs hsz hn (by rw [hzl]; exact hf)) fun b => hnx _ _ (OArr.lit xs enc henc hcs hxn ho hle)
theorem XO.cut {t el : TypeId} [u : Und c.P t (.slice el)] [z : TySize c.P el sz] {x : Operand} {lo hi : Option Operand} {i j : Nat} (hx : ev e x = some v) [s : Arr v enc sz h xs]
    (hlo : Bd e 0 lo i) (hhi : Bd e xs.length hi j) (hij : i ≤ j) (hj : j ≤ xs.length) (hnx : ∀ v', Arr v' enc sz h ((xs.drop i).take (j - i)) → XO c ops rest k ((d, some v') :: e) o r) :
    XO c ops (⟨some d, .slice t x lo hi none, ty, pos, aft, none⟩ :: rest) k e o r :=
  XO.s (Stp.cut hx hlo hhi hij hj) fun v' _ ⟨hA, h2⟩ => by subst h2; exact hnx v' hA
theorem XO.stE [Inhabited α] {t n T : TypeId} [z : TySize c.P t n] {x y : Operand} {i kk : Nat} {o1 : List PHeap} {u : Value} {us : List Value} (x' : α) (hx : ev e x = some (pat v sz i kk)) (hy : ev e y = some u)
    [hc : Cells u us] [ho : Ones us] (hl : us.length = n) [s : OArr v enc sz T h xs] [tk : Take h o o1] (hi : i < xs.length)
    (hx' : enc x' = (enc (xs.getD i default)).take kk ++ us ++ (enc (xs.getD i default)).drop (kk + n)) (hk : Nat.ble (kk + n) sz = true)
    (hnx : ∀ h', OArr v enc sz T h' (xs.set i x') → XO c ops rest k e (h' :: o1) r) :
    XO c ops (⟨none, .store t x y, ty, pos, aft, none⟩ :: rest) k e o r :=
  XO.s0 (Stp.stE x' hx hy hl hi hx' hk) fun v' _ ⟨h', hO, h2⟩ => by subst h2; exact hnx h' hO
end

/-! ### the usual elements -/
def encI (n : Int) : List Value := [.int .i64 n]
def encB (b : Bool) : List Value := [.bool b]
def encU8 (n : UInt8) : List Value := [.int .u8 n.toNat]
def encV (v : Value) : List Value := [v]
end Go.X

/- A region that draws its order: the operations that only read are taken first; what is left is taken in every order that its edges allow. No condition. -/
set_option linter.unusedSimpArgs false
set_option linter.unusedVariables false
namespace Go.X

theorem evA_put {a : Array Value} {d : Option Tmp} {v : Value} {x : Operand} (h : ∀ t, d = some t → x ≠ .tmp t) : evA (put a d v) x = evA a x := by
  cases d with
  | none => rfl
  | some t =>
    cases x with
    | tmp s =>
      have hne : t ≠ s := fun e => h t rfl (e ▸ rfl)
      simp [evA, put, Array.getElem?_setIfInBounds_ne hne]
    | _ => rfl
theorem put_comm (a : Array Value) {x y : Option Tmp} (v u : Value) (h : ∀ d, x = some d → y ≠ some d) : put (put a x v) y u = put (put a y u) x v := by
  cases x with
  | none => rfl
  | some d =>
    cases y with
    | none => rfl
    | some e =>
      have hne : d ≠ e := fun he => h d rfl (he ▸ rfl)
      simp [put, Array.setIfInBounds_comm _ _ hne]
section
variable {P : Program} {ops : Array Oper}
theorem execOp_putX (o : Oper) (hs : ∀ cs b, o.op ≠ .select cs b) (a : Array Value) (dst : Option Tmp) (v : Value) (h : ∀ d, dst = some d → d ∉ o.looksAt ops) :
    execOp (evA (put a dst v)) o = execOp (evA a) o :=
  execOp_congr o hs fun x hx => evA_put fun d hd hxd => h d hd (by
    subst hxd
    exact List.mem_append_left _ (List.mem_filterMap.2 ⟨.tmp d, by simpa using hx, rfl⟩))
theorem wanted_putX (o : Oper) (a : Array Value) (dst : Option Tmp) (v : Value) (h : ∀ d, dst = some d → d ∉ o.looksAt ops) :
    Region.wanted o (yielded ops (put a dst v)) = Region.wanted o (yielded ops a) := by
  have := wanted_put (ops := ops) o ⟨a, []⟩ dst v h
  cases dst <;> exact this
/-- What a quiet operation gives at these temporaries, in every world that keeps 'S'. -/
def Yields (P : Program) (ops : Array Oper) (S : World → Prop) (x : Oper) (v : Value) (a : Array Value) : Prop :=
  ∀ w, S w → (Region.wanted x (yielded ops a) = true ∧ (execOp (evA a) x).run P w = .ok (.value v) w) ∨ (Region.wanted x (yielded ops a) = false ∧ v = undef)
theorem Yields.does {S : World → Prop} {x : Oper} {v : Value} {a : Array Value} (y : Yields P ops S x v a) {w : World} (hw : S w) {Q : Value → World → Prop} (h : Q v w) : Does P ops x a w Q := by
  unfold Does
  rcases y w hw with ⟨h1, h2⟩ | ⟨h1, rfl⟩
  · simp only [h1, if_true, h2]; exact h
  · simp only [h1]; exact h
theorem Yields.put {S : World → Prop} {x : Oper} {v : Value} {a : Array Value} (y : Yields P ops S x v a) (hs : ∀ cs b, x.op ≠ .select cs b) (d : Option Tmp) (u : Value) (h : ∀ t, d = some t → t ∉ x.looksAt ops) :
    Yields P ops S x v (put a d u) := fun w hw => by
  rw [wanted_putX x a d u h, execOp_putX x hs a d u h]
  exact y w hw
theorem Does.put {x : Oper} (hs : ∀ cs b, x.op ≠ .select cs b) {a : Array Value} {w : World} {Q : Value → World → Prop} (d : Option Tmp) (u : Value) (h : ∀ t, d = some t → t ∉ x.looksAt ops) :
    Does P ops x (put a d u) w Q ↔ Does P ops x a w Q := by
  unfold Does
  rw [wanted_putX x a d u h, execOp_putX x hs a d u h]
/-- Must the heaps that quiet operations read still be there behind operation j? Not where it stands behind all of them. -/
def need (ops : Array Oper) (fl : List Nat) (j : Nat) : Bool := fl.any fun i => i != j && !(match ops[j]? with
  | some x => x.after.any fun e => Region.binds .any e && e.on == i
  | none => false)
def Any (P : Program) (ops : Array Oper) (S : World → Prop) (fl : List Nat) (Q : Array Value → World → Prop) : Nat → Array Bool → Array Value → World → Prop
  | 0, listed, a, w => Region.ready .any ops listed = [] ∧ Q a w
  | n + 1, listed, a, w => (Region.ready .any ops listed = [] → Q a w) ∧ ∀ i ∈ Region.ready .any ops listed, ∀ x, ops[i]? = some x →
      Does P ops x a w fun v w' => (need ops fl i = true → S w') ∧ Any P ops S fl Q n (listed.setIfInBounds i true) (X.put a x.dst v) w'
theorem need_of {fl : List Nat} {i j : Nat} {x : Oper} (hj : ops[j]? = some x) (hi : i ∈ fl) (hne : j ≠ i) (h : ∀ e ∈ x.after, Region.binds .any e = true → e.on ≠ i) : need ops fl j = true := by
  refine List.any_eq_true.2 ⟨i, hi, ?_⟩
  simp only [hj, Bool.and_eq_true, bne_iff_ne, ne_eq, Bool.not_eq_true', Array.any_eq_false']
  refine ⟨fun h => hne h.symm, ?_⟩
  intro e he
  simp only [Bool.and_eq_true, beq_iff_eq, not_and]
  exact h e he
theorem any_first {S : World → Prop} {fl : List Nat} {Q : Array Value → World → Prop} {i : Nat} {x : Oper} {v : Value} (hi : ops[i]? = some x) (hsel : ∀ (j : Nat) (o : Oper) cs b, ops[j]? = some o → o.op ≠ .select cs b) (hfl : i ∈ fl) :
    ∀ (fuel : Nat) (listed : Array Bool) (a : Array Value) (w : World),
      (∀ j oj, ops[j]? = some oj → j ≠ i → listed.getD j true = false → (∀ e ∈ oj.after, Region.binds .any e = true → e.on ≠ i) → x.apart ops oj = true) →
      i ∈ Region.ready .any ops listed → Yields P ops S x v a → S w →
      Any P ops S fl Q fuel (listed.setIfInBounds i true) (X.put a x.dst v) w → Any P ops S fl Q (fuel + 1) listed a w := by
  intro fuel
  induction fuel with
  | zero =>
    intro listed a w _ hr hy hw H
    refine ⟨fun h => (by rw [h] at hr; cases hr), fun j hj oj hoj => ?_⟩
    by_cases hji : j = i
    · subst hji
      rw [hi] at hoj; cases hoj
      exact hy.does hw ⟨fun _ => hw, H⟩
    · have hj2 := ready_mono hj hji
      rw [H.1] at hj2
      cases hj2
  | succ fuel ih =>
    intro listed a w hfree hr hy hw H
    refine ⟨fun h => (by rw [h] at hr; cases hr), fun j hj oj hoj => ?_⟩
    by_cases hji : j = i
    · subst hji
      rw [hi] at hoj; cases hoj
      exact hy.does hw ⟨fun _ => hw, H⟩
    · have h1 := H.2 j (ready_mono hj hji) oj hoj
      obtain ⟨hjun, oj', hoj', hall⟩ := mem_ready.1 hj
      rw [hoj] at hoj'; cases hoj'
      have hiun := (mem_ready.1 hr).1
      have hnot : ∀ e ∈ oj.after, Region.binds .any e = true → e.on ≠ i := fun e he hb heq => by
        have h1 := hall e he hb
        rw [heq] at h1
        rcases Nat.lt_or_ge i listed.size with h' | h'
        · simp [h'] at hiun h1; rw [hiun] at h1; cases h1
        · simp [Array.getElem?_eq_none h'] at h1
      have hap := hfree j oj hoj hji hjun hnot
      obtain ⟨a1, a2, a3⟩ := Oper.apart_spec hap
      rw [Does.put (hsel j oj · · hoj) x.dst v a1] at h1
      have hfree' : ∀ k ok, ops[k]? = some ok → k ≠ i → (listed.setIfInBounds j true).getD k true = false →
          (∀ e ∈ ok.after, Region.binds .any e = true → e.on ≠ i) → x.apart ops ok = true := fun k ok hk hki hun hno => by
        refine hfree k ok hk hki ?_ hno
        by_cases hjk : j = k
        · subst hjk; exact hjun
        · rw [getD_set_ne true hjk] at hun; exact hun
      have hneed : need ops fl j = true := need_of hoj hfl hji hnot
      refine h1.mono fun u w' ⟨hS, h3⟩ => ⟨fun _ => hS hneed, ?_⟩
      refine ih (listed.setIfInBounds j true) _ w' hfree' (ready_mono hr (Ne.symm hji)) (hy.put (hsel i x · · hi) oj.dst u a3) (hS hneed) ?_
      rw [Array.setIfInBounds_comm _ _ hji, ← put_comm a v u a2]
      exact h3
/-- Any order is one of these. -/
theorem any_steps {S : World → Prop} {fl : List Nat} {Q : Array Value → World → Prop} {f : FuncId} {rd : Option Nat} {ds : List Deferred} {k : List Item} {cs : List Frame} (hn : ∀ (i : Nat) (x : Oper), ops[i]? = some x → noDefer x = true) :
    ∀ (fuel t : Nat) (listed : Array Bool) (a : Array Value) (w : World), Any P ops S fl Q fuel listed a w →
      ∃ a' w', Q a' w' ∧ Steps P (lone (mk f rd a ds (.inRegion ops (Region.linearise.go .any ops fuel t listed []) :: k)) cs w) (lone (mk f rd a' ds k) cs w') := by
  intro fuel
  induction fuel with
  | zero => intro t listed a w h; exact ⟨a, w, h.2, .one step_region_end⟩
  | succ fuel ih =>
    intro t listed a w h
    obtain ⟨h0, h1⟩ := h
    simp only [Region.linearise.go]
    change ∃ a' w', Q a' w' ∧ Steps P (lone (mk f rd a ds (.inRegion ops (match (Region.ready .any ops listed)[t % (Region.ready .any ops listed).length]? with
      | some i => Region.linearise.go .any ops fuel (t / (Region.ready .any ops listed).length) (listed.setIfInBounds i true) [i]
      | none => [].reverse) :: k)) cs w) (lone (mk f rd a' ds k) cs w')
    cases hi : (Region.ready .any ops listed)[t % (Region.ready .any ops listed).length]? with
    | none =>
      have hnil : Region.ready .any ops listed = [] := by
        cases hr : Region.ready .any ops listed with
        | nil => rfl
        | cons x xs =>
          rw [hr] at hi
          have hlt : t % (x :: xs).length < (x :: xs).length := Nat.mod_lt _ (by simp)
          simp at hi
          simp at hlt
          omega
      exact ⟨a, w, h0 hnil, .one step_region_end⟩
    | some i =>
      simp only []
      rw [linearise_go_acc, List.reverse_singleton, List.singleton_append]
      have hmem := List.mem_of_getElem? hi
      obtain ⟨_, x, hx, _⟩ := mem_ready.1 hmem
      obtain ⟨v, w1, ⟨_, h3⟩, st⟩ := does_steps (f := f) (rd := rd) (ds := ds) (k := k) (rest := Region.linearise.go .any ops fuel (t / (Region.ready .any ops listed).length) (listed.setIfInBounds i true) []) (h1 i hmem x hx) hx (hn i x hx) cs
      obtain ⟨a', w', hQ, st'⟩ := ih _ _ _ _ h3
      exact ⟨a', w', hQ, Steps.trans st st'⟩

/-! ### the plan of a region -/
/-- q: an operation that only reads, taken now; br: one of those that may come next, and the others; stop: no other. -/
inductive Plan where
  | done
  | q (i : Nat) (t : Plan)
  | br (i : Nat) (b : Bool) (t : Plan) (u : Plan)
  | stop
def Plan.ok (ops : Array Oper) (fl : List Nat) : Plan → Array Bool → List Nat → Bool
  | .done, l, _ => (Region.ready .any ops l).isEmpty
  | .q i t, l, _ => (Region.ready .any ops l).contains i && Region.free .any ops l i && fl.contains i && t.ok ops fl (l.setIfInBounds i true) []
  | .br i b t u, l, acc => (need ops fl i == b) && (Region.ready .any ops l).contains i && t.ok ops fl (l.setIfInBounds i true) [] && u.ok ops fl l (i :: acc)
  | .stop, l, acc => !(Region.ready .any ops l).isEmpty && (Region.ready .any ops l).all fun i => acc.contains i
def Plan.depth : Plan → Nat
  | .done => 0
  | .q _ t => t.depth + 1
  | .br _ _ t u => max (t.depth + 1) u.depth
  | .stop => 1
def XT (c : Cx) (ops : Array Oper) (fl : List Nat) (f : List PHeap) (k : List Item) (r : List PHeap) : Plan → Env → List PHeap → Prop
  | .done, e, o => XK c k e o r
  | .q i t, e, o => ∃ x v, ops[i]? = some x ∧ okOper c.N x = true ∧ Quiet c.P ops x e f (c.B :: r) v ∧ XT c ops fl f k r t (puts e x.dst v) o
  | .br i b t u, e, o => (∃ x Ψ, ops[i]? = some x ∧ okOper c.N x = true ∧ Stp c.P ops x e o (c.B :: r) Ψ ∧ ∀ v o', Ψ v o' → (b = true → ∀ h ∈ f, h ∈ o') ∧ XT c ops fl f k r t (puts e x.dst v) o') ∧
      XT c ops fl f k r u e o
  | .stop, _, _ => True
def Sf (f r : List PHeap) (w : World) : Prop := Rd f r w
section
variable {c : Cx} {k : List Item} {f r : List PHeap} {fl : List Nat}
/-- What 'br' offers: each operation of the list may come next. -/
def Offers (c : Cx) (ops : Array Oper) (fl : List Nat) (f : List PHeap) (r : List PHeap) (n : Nat) (l : Array Bool) (a : Array Value) (w : World) (Q : Array Value → World → Prop) (i : Nat) : Prop :=
  ∀ x, ops[i]? = some x → Does c.P ops x a w fun v w' => (need ops fl i = true → Sf f (c.B :: r) w') ∧ Any c.P ops (Sf f (c.B :: r)) fl Q n (l.setIfInBounds i true) (X.put a x.dst v) w'
theorem listed_of_ready {ops : Array Oper} {l : Array Bool} {i : Nat} {fl : List Nat} (hr : i ∈ Region.ready .any ops l) (hn : need ops fl i = false) : ∀ j ∈ fl, (l.setIfInBounds i true).getD j true = true := by
  intro j hj
  obtain ⟨_, x, hx, hall⟩ := mem_ready.1 hr
  by_cases hji : i = j
  · subst hji
    by_cases hlt : i < l.size <;> simp [hlt]
  · rw [getD_set_ne true hji]
    unfold need at hn
    have := List.any_eq_false.1 hn j hj
    simp only [hx, Bool.and_eq_true, bne_iff_ne, ne_eq, Bool.not_eq_true', not_and, Bool.not_eq_false] at this
    obtain ⟨ed, he, hb⟩ := Array.any_eq_true'.1 (this (fun h => hji h.symm))
    simp only [Bool.and_eq_true, beq_iff_eq] at hb
    have h1 := hall ed he hb.1
    rw [hb.2] at h1
    rcases Nat.lt_or_ge j l.size with h' | h'
    · simp [h'] at h1 ⊢; exact h1
    · simp [Array.getElem?_eq_none h']
theorem plan_sound {ops : Array Oper} {D : PHeap} (hsel : Region.noSelect ops = true) {Q : Array Value → World → Prop}
    (hQ : ∀ e o, XK c k e o r → ∀ a w, a.size = c.N → ERel e a → Sep (D :: o) (c.B :: r) w → Q a w) :
    ∀ (t : Plan) (n : Nat) (l : Array Bool) (acc : List Nat) (e : Env) (o : List PHeap) (a : Array Value) (w : World), t.ok ops fl l acc = true → t.depth ≤ n → XT c ops fl f k r t e o →
      a.size = c.N → ERel e a → Sep (D :: o) (c.B :: r) w → ((∀ i ∈ fl, l.getD i true = true) ∨ Sf f (c.B :: r) w) → (∀ i ∈ acc, ∀ m, m + 1 = n → Offers c ops fl f r m l a w Q i) →
      Any c.P ops (Sf f (c.B :: r)) fl Q n l a w := by
  intro t
  induction t with
  | done =>
    intro n l acc e o a w hok _ hX ha he hs _ _
    simp only [Plan.ok, List.isEmpty_iff] at hok
    have hq := hQ e o hX a w ha he hs
    cases n with
    | zero => exact ⟨hok, hq⟩
    | succ n => exact ⟨fun _ => hq, by rw [hok]; simp⟩
  | q i t ih =>
    intro n l acc e o a w hok hd hX ha he hs hS _
    simp only [Plan.ok, Bool.and_eq_true] at hok
    obtain ⟨⟨⟨hr, hf⟩, hfl⟩, hok'⟩ := hok
    obtain ⟨x, v, hx, hko, hq, hX'⟩ := hX
    simp only [Plan.depth] at hd
    obtain ⟨m, rfl⟩ : ∃ m, n = m + 1 := ⟨n - 1, by omega⟩
    have hr' : i ∈ Region.ready .any ops l := by simpa using hr
    have hfl' : i ∈ fl := by simpa using hfl
    have hSf : Sf f (c.B :: r) w := by
      rcases hS with h | h
      · have h1 := h i hfl'
        rw [(mem_ready.1 hr').1] at h1; cases h1
      · exact h
    refine any_first hx (Region.noSelect_spec hsel) hfl' m l a w (Region.free_spec hx hf) hr' (fun w' hw' => hq a w' he hw') hSf ?_
    exact ih m _ [] _ o _ w hok' (by omega) hX' (by rw [size_put, ha]) (he.puts ha hko) hs (.inr hSf) (fun i hi => by cases hi)
  | br i b t u iht ihu =>
    intro n l acc e o a w hok hd hX ha he hs hS hacc
    simp only [Plan.ok, Bool.and_eq_true] at hok
    obtain ⟨⟨⟨hb, hr⟩, hokt⟩, hoku⟩ := hok
    have hb := eq_of_beq hb
    subst hb
    obtain ⟨⟨x, Ψ, hx, hko, hst, hnx⟩, hXu⟩ := hX
    simp only [Plan.depth] at hd
    have hr' : i ∈ Region.ready .any ops l := by simpa using hr
    refine ihu n l (i :: acc) e o a w hoku (by omega) hXu ha he hs hS ?_
    intro j hj m hm
    rcases List.mem_cons.1 hj with rfl | hj
    · intro x' hx'
      rw [hx] at hx'; cases hx'
      refine (hst D a w he hs).mono fun v w' ⟨o2, ⟨o', hΨ, hp⟩, hs2⟩ => ?_
      have hs' := hs2.perm hp
      obtain ⟨hkeep, hX'⟩ := hnx v o' hΨ
      have hSf : need ops fl j = true → Sf f (c.B :: r) w' := fun hn => ⟨fun h hh => hs'.so h (List.mem_cons_of_mem _ (hkeep hn h hh)), hs'.sr⟩
      refine ⟨hSf, iht m _ [] _ o' _ w' hokt (by omega) hX' (by rw [size_put, ha]) (he.puts ha hko) hs' ?_ (fun i hi => by cases hi)⟩
      cases hn : need ops fl j with
      | true => exact .inr (hSf hn)
      | false => exact .inl (listed_of_ready hr' hn)
    · exact hacc j hj m hm
  | stop =>
    intro n l acc e o a w hok hd _ _ _ _ _ hacc
    simp only [Plan.ok, Bool.and_eq_true, Bool.not_eq_true', List.all_eq_true] at hok
    simp only [Plan.depth] at hd
    obtain ⟨m, rfl⟩ : ∃ m, n = m + 1 := ⟨n - 1, by omega⟩
    refine ⟨fun h => by rw [h] at hok; simp at hok, fun i hi x hx => ?_⟩
    exact hacc i (by simpa using hok.2 i hi) m rfl x hx
/-- A region that draws: a plan that fits its edges, the operations in the plan's order. -/
theorem XK.draw {id : Nat} {l : List Oper} {e : Env} {o : List PHeap} (fl : List Nat) (f : List PHeap) (t : Plan) (hmix : c.P.follows .mixedOrders = true) (hl : l.all (okOper c.N) = true)
    (hok : (Region.noSelect l.toArray && t.ok l.toArray fl (Array.replicate l.length false) [] && Nat.ble t.depth l.length) = true) (hf : AllIn f o [])
    (h : XT c l.toArray fl f k r t e o) : XK c (.code (.region id l.toArray true) :: k) e o r := fun D ds a w cs ha he hD hs => by
  simp only [Bool.and_eq_true] at hok
  have hs1 : Sep (D :: o) (c.B :: r) { w with drawn := w.drawn + 1 } := ⟨hs.pw, hs.dr, hs.so, hs.sr, hs.no, hs.sm⟩
  have hA := plan_sound (D := D) (Q := fun a' w' => ∀ cs, ∃ fr w'', c.E fr w'' ∧ Steps c.P (lone (mk c.f c.rd a' (marks ds) k) cs w') (lone fr cs w'')) hok.1.1
    (fun e o hX a w ha he hs cs => hX D ds a w cs ha he hD hs) t l.length (Array.replicate l.length false) [] e o a { w with drawn := w.drawn + 1 } hok.1.2 (Nat.le_of_ble_eq_true hok.2) h ha he hs1
    (.inr ⟨fun g hg => hs1.so g (List.mem_cons_of_mem _ ((hf.pf g hg).elim (fun h => h) (fun h => by cases h))), hs1.sr⟩) (fun i hi => by cases hi)
  have hnd : ∀ (i : Nat) (x : Oper), l.toArray[i]? = some x → noDefer x = true := fun i x hx => by
    have := List.all_eq_true.1 hl x (by
      rw [List.getElem?_toArray] at hx
      exact List.mem_of_getElem? hx)
    unfold okOper at this
    simp only [Bool.and_eq_true] at this
    exact this.1
  obtain ⟨a', w', hQ, st⟩ := any_steps (f := c.f) (rd := c.rd) (ds := marks ds) (k := k) (cs := cs) hnd l.length (w.tape w.drawn (.order c.f id)) _ a _ hA
  obtain ⟨fr, w'', hE, st'⟩ := hQ cs
  refine ⟨fr, w'', hE, .head step_region_draw ?_⟩
  have hsch : Region.schedule (c.P.follows .mixedOrders) l.toArray (w.tape w.drawn (.order c.f id)) =
      Region.linearise.go .any l.toArray l.length (w.tape w.drawn (.order c.f id)) (Array.replicate l.length false) [] := by
    simp [Region.schedule, hmix, Region.linearise]
  rw [hsch]
  exact Steps.trans st st'
end

/-! ### rules in a plan -/
section
variable {c : Cx} {ops : Array Oper} {fl : List Nat} {f : List PHeap} {k : List Item} {e : Env} {o r : List PHeap} {i : Nat} {b : Bool} {t u : Plan}
theorem XT.q {d : Nat} {op : Op} {ty : TypeId} {pos : String} {aft : Array Edge} {g : Option (Nat × Bool)} {v : Value} (hx : ops[i]? = some ⟨some d, op, ty, pos, aft, g⟩) (hok : okOper c.N ⟨some d, op, ty, pos, aft, g⟩ = true)
    (q : Quiet c.P ops ⟨some d, op, ty, pos, aft, g⟩ e f (c.B :: r) v) (h : XT c ops fl f k r t ((d, some v) :: e) o) : XT c ops fl f k r (.q i t) e o := ⟨_, v, hx, hok, q, h⟩
class Keeps (b : Bool) (f o' : List PHeap) : Prop where
  pf : b = true → ∀ h ∈ f, h ∈ o'
instance Keeps.no {f o' : List PHeap} : Keeps false f o' := ⟨fun h => by cases h⟩
instance Keeps.nil {b : Bool} {o' : List PHeap} : Keeps b [] o' := ⟨fun _ _ h => by cases h⟩
instance Keeps.yes {f o' : List PHeap} [a : AllIn f o' []] : Keeps true f o' := ⟨fun _ h hh => (a.pf h hh).elim (fun h => h) (fun h => by cases h)⟩
/-- The next operation, whatever it does; b: must the heaps that are read stay? -/
theorem XT.s {d : Nat} {op : Op} {ty : TypeId} {pos : String} {aft : Array Edge} {g : Option (Nat × Bool)} {Ψ : Value → List PHeap → Prop} (hx : ops[i]? = some ⟨some d, op, ty, pos, aft, g⟩)
    (hok : okOper c.N ⟨some d, op, ty, pos, aft, g⟩ = true) (s : Stp c.P ops ⟨some d, op, ty, pos, aft, g⟩ e o (c.B :: r) Ψ)
    (h : ∀ v o', Ψ v o' → Keeps b f o' ∧ XT c ops fl f k r t ((d, some v) :: e) o') (hu : XT c ops fl f k r u e o) : XT c ops fl f k r (.br i b t u) e o :=
  ⟨⟨_, Ψ, hx, hok, s, fun v o' hΨ => ⟨(h v o' hΨ).1.pf, (h v o' hΨ).2⟩⟩, hu⟩
theorem XT.s0 {op : Op} {ty : TypeId} {pos : String} {aft : Array Edge} {g : Option (Nat × Bool)} {Ψ : Value → List PHeap → Prop} (hx : ops[i]? = some ⟨none, op, ty, pos, aft, g⟩)
    (hok : okOper c.N ⟨none, op, ty, pos, aft, g⟩ = true) (s : Stp c.P ops ⟨none, op, ty, pos, aft, g⟩ e o (c.B :: r) Ψ)
    (h : ∀ v o', Ψ v o' → Keeps b f o' ∧ XT c ops fl f k r t e o') (hu : XT c ops fl f k r u e o) : XT c ops fl f k r (.br i b t u) e o :=
  ⟨⟨_, Ψ, hx, hok, s, fun v o' hΨ => ⟨(h v o' hΨ).1.pf, (h v o' hΨ).2⟩⟩, hu⟩
theorem XT.stop : XT c ops fl f k r .stop e o := trivial
theorem XT.done (h : XK c k e o r) : XT c ops fl f k r .done e o := h
end
end
end Go.X

/- Tests as propositions; loops that find what they keep; min, max, nil, arrays in a variable. No condition. -/
set_option linter.unusedSimpArgs false
set_option linter.unusedVariables false
namespace Go.X

/-! ### what a test says -/
class BoolP (b : Bool) (p : outParam Prop) : Prop where
  pf : b = true ↔ p
instance (priority := high) BoolP.dec {p : Prop} [d : Decidable p] : BoolP (decide p) p := ⟨decide_eq_true_iff⟩
instance (priority := high) BoolP.or {a b : Bool} {p q : Prop} [x : BoolP a p] [y : BoolP b q] : BoolP (a || b) (p ∨ q) := ⟨by rw [Bool.or_eq_true, x.pf, y.pf]⟩
instance (priority := high) BoolP.and {a b : Bool} {p q : Prop} [x : BoolP a p] [y : BoolP b q] : BoolP (a && b) (p ∧ q) := ⟨by rw [Bool.and_eq_true, x.pf, y.pf]⟩
instance (priority := high) BoolP.not {a : Bool} {p : Prop} [x : BoolP a p] : BoolP (!a) (¬ p) := ⟨by rw [← x.pf]; simp⟩
instance (priority := high) BoolP.eq {a b : Bool} : BoolP (a == b) (a = b) := ⟨by simp⟩
instance (priority := high) BoolP.ne {a b : Bool} : BoolP (a != b) (a ≠ b) := ⟨by simp⟩
instance (priority := high) BoolP.true : BoolP true True := ⟨by simp⟩
instance (priority := high) BoolP.false : BoolP false False := ⟨by simp⟩
instance (priority := low) BoolP.other {b : Bool} : BoolP b (b = Bool.true) := ⟨Iff.rfl⟩
section
variable {c : Cx} {k : List Item} {e : Env} {o r : List PHeap}
theorem XK.if {x : Operand} {y z : Code} {b : Bool} {p : Prop} (hx : ev e x = some (.bool b)) [t : BoolP b p] (ht : p → XK c (.code y :: k) e o r) (hf : ¬ p → XK c (.code z :: k) e o r) :
    XK c (.code (.cond x y z) :: k) e o r := XK.cond hx (fun h => ht (t.pf.1 h)) (fun h => hf (fun hp => by rw [t.pf.2 hp] at h; cases h))

/-! ### a loop: what is not named is kept -/
class Rest (hs : List PHeap) (o : List PHeap) (ok : outParam (List PHeap)) : Prop where
  pf : ∃ m, (List.replicate m emp ++ o).Perm (hs ++ ok)
instance Rest.nil (o : List PHeap) : Rest [] o o := ⟨0, List.Perm.refl _⟩
instance (priority := high) Rest.emp (hs o ok : List PHeap) [t : Rest hs o ok] : Rest (emp :: hs) o ok := ⟨let ⟨m, h⟩ := t.pf; ⟨m + 1, by rw [List.replicate_succ]; exact h.cons X.emp⟩⟩
instance Rest.cons (h : PHeap) (hs o o1 ok : List PHeap) [t : Take h o o1] [t2 : Rest hs o1 ok] : Rest (h :: hs) o ok :=
  ⟨let ⟨m, hp⟩ := t2.pf; ⟨m, ((t.pf.append_left _).trans List.perm_middle).trans (hp.cons h)⟩⟩
theorem Rest.wk {hs o ok : List PHeap} (t : Rest hs o ok) : Wk o (hs ++ ok) := ⟨let ⟨m, h⟩ := t.pf; ⟨m, [], by rw [List.append_nil]; exact h⟩⟩
/-- 'o0': the heaps that the loop changes, as they are ahead of it. -/
theorem XK.while {X : Type} (ks : List Nat) (up : X → Env) (oc : X → List PHeap) (I : X → Prop) (μ : X → Nat) (x0 : X) (o0 : List PHeap) {ok : List PHeap} {body : Code} [rst : Rest o0 o ok] (ho0 : oc x0 = o0) (h0 : I x0)
    (henv : EnvLe (up x0 ++ kills ks e) e)
    (round : ∀ x, I x → (∀ x' e' o', I x' → μ x' < μ x → EnvLe (up x' ++ kills ks e) e' → Wk o' (oc x' ++ ok) → XK c (.inLoop body :: k) e' o' r) →
      XK c (.code body :: .inLoop body :: k) (up x ++ kills ks e) (oc x ++ ok) r) :
    XK c (.code (.loop body) :: k) e o r := XK.rounds ks up oc ok I μ x0 h0 henv (by rw [ho0]; exact rst.wk) round
/-- Ways that meet again behind the next statement. -/
theorem XK.meet {X : Type} (ks : List Nat) (up : X → Env) (oc : X → List PHeap) (I : X → Prop) (o0 : List PHeap) {ok : List PHeap} {it : Item} [rst : Rest o0 o ok]
    (cont : ∀ x, I x → XK c k (up x ++ kills ks e) (oc x ++ ok) r)
    (first : (∀ x e' o', I x → EnvLe (up x ++ kills ks e) e' → Wk o' (oc x ++ ok) → XK c k e' o' r) → XK c (it :: k) e o r) : XK c (it :: k) e o r :=
  XK.join ks up oc ok I cont first
end

section
variable {P : Program} {ops : Array Oper} {e : Env} {o r : List PHeap} {d : Option Tmp} {ty : TypeId} {pos : String} {aft : Array Edge}
variable {α : Type} {enc : α → List Value} {sz : Nat} {h : PHeap} {xs : List α} {v : Value}
theorem run_min {x y : Operand} {m n : Int} {ty' : Array TypeId} {a : Array Value} {w : World} {cs : Array Bool} (b : Bool) :
    (builtin (if b then .min else .max) ty' ty cs #[.int .i64 m, .int .i64 n]).run P w = .ok (.value (.int .i64 (if b then min m n else max m n))) w := by
  cases b with
  | true =>
    simp only [if_true, builtin]
    refine run_val ?_
    have h1 : Builtin.min_ ty' ty #[.int .i64 m, .int .i64 n] = (pure (.int .i64 (if n < m then n else m)) : Sem Value) := by
      simp [Builtin.min_, Builtin.min2]
    rw [h1]
    have h2 : (if n < m then n else m) = min m n := by omega
    rw [h2]; rfl
  | false =>
    simp only [Bool.false_eq_true, if_false, builtin]
    refine run_val ?_
    have h1 : ∃ z, Builtin.max_ ty' ty #[.int .i64 m, .int .i64 n] = (pure (.int .i64 z) : Sem Value) ∧ z = max m n := by
      refine ⟨_, by simp [Builtin.max_, Builtin.max2]; rfl, ?_⟩
      omega
    obtain ⟨z, h1, rfl⟩ := h1
    rw [h1]; rfl
theorem Q.min {x y : Operand} {tys : Array TypeId} {m n : Int} (hx : ev e x = some (.int .i64 m)) (hy : ev e y = some (.int .i64 n)) :
    Quiet P ops ⟨d, .call ⟨.builtin .min, #[x, y], tys⟩, ty, pos, aft, none⟩ e o r (.int .i64 (min m n)) := .mk fun a w he _ => by
  simp only [execOp, resolve, List.map_toArray, List.map_cons, List.map_nil, ev_rel he hx, ev_rel he hy]
  rw [bind_ok (a := _) (w1 := w) rfl]
  simp only [invoke]
  exact run_min (x := x) (y := y) (a := a) true
theorem Q.max {x y : Operand} {tys : Array TypeId} {m n : Int} (hx : ev e x = some (.int .i64 m)) (hy : ev e y = some (.int .i64 n)) :
    Quiet P ops ⟨d, .call ⟨.builtin .max, #[x, y], tys⟩, ty, pos, aft, none⟩ e o r (.int .i64 (max m n)) := .mk fun a w he _ => by
  simp only [execOp, resolve, List.map_toArray, List.map_cons, List.map_nil, ev_rel he hx, ev_rel he hy]
  rw [bind_ok (a := _) (w1 := w) rfl]
  simp only [invoke]
  exact run_min (x := x) (y := y) (a := a) false
theorem Q.ixA {t el len : TypeId} [u : Und P t (.array len el)] [z : TySize P el sz] {x y : Operand} {k : IntKind} {n : Int} {i b kk : Nat} (hx : ev e x = some (ptr b kk)) (hy : ev e y = some (.int k n))
    [ix : Idx n i] (h0 : 0 ≤ n) (h1 : n < len) : Quiet P ops ⟨d, .indexAddr t x y, ty, pos, aft, none⟩ e o r (ptr b (kk + i * sz)) := .mk fun a w he _ => by
  have hn := ix.pf h0
  subst hn
  simp only [execOp, ev_rel he hx, ev_rel he hy]
  refine run_val ?_
  unfold Instr.indexAt
  rw [bind_ok (a := (k, (i : Int))) (w1 := w) rfl]
  simp only
  rw [bind_ok (u.pf w)]
  simp only
  rw [bind_ok (a := (⟨b, kk, none⟩ : Addr)) (w1 := w) rfl]
  rw [bind_ok (a := (some (⟨b, kk, none⟩ : Addr), len, el)) (w1 := w) rfl]
  rw [bind_ok (u.pf w)]
  simp only
  rw [if_pos ⟨h0, h1⟩]
  rw [bind_ok (z.pf w)]
  simp [add_none, pure, Sem.run]
end
section
variable {c : Cx} {ops : Array Oper} {rest : List Oper} {k : List Item} {e : Env} {o r : List PHeap} {d : Nat} {dd : Option Tmp} {ty : TypeId} {pos : String} {aft : Array Edge}
variable {α : Type} {enc : α → List Value} {sz : Nat} {h : PHeap} {xs : List α} {v : Value}
theorem XO.len {t : TypeId} {el : TypeId} [u : Und c.P t (.slice el)] {x : Operand} (hx : ev e x = some v) [s : Arr v enc sz h xs]
    (hn : xs.length ≤ 140737488355328 → XO c ops rest k ((d, some (.int .i64 xs.length)) :: e) o r) :
    XO c ops (⟨some d, .call ⟨.builtin .len, #[x], #[t]⟩, ty, pos, aft, none⟩ :: rest) k e o r := XO.q (Q.len hx) (hn s.le)
theorem run_eqNil {P : Program} {t el : TypeId} [u : Und P t (.slice el)] {a : Option Addr} {n c : Nat} (w : World) : (Op.equal t (.slice a n c) (.slice none 0 0)).run P w = .ok a.isNone w := by
  unfold Op.equal Op.maxDepth
  unfold Op.equalIn
  rw [bind_ok (u.pf w)]
  cases a <;> rfl
/-- s == nil: if so, s is empty. -/
theorem XO.eqNil {t t2 el : TypeId} [u : Und c.P t (.slice el)] {x : Operand} (hx : ev e x = some v) [s : Arr v enc sz h xs]
    (hn : ∀ b : Bool, (b = true → xs = [] ∧ v = .slice none 0 0) → XO c ops rest k ((d, some (.bool b)) :: e) o r) :
    XO c ops (⟨some d, .binOp .eql t x (.const (.slice none 0 0)) t2, ty, pos, aft, none⟩ :: rest) k e o r := by
  obtain ⟨_, _, ad, cc, rfl, hle, hnn, _⟩ := s.pf
  refine XO.q (v := .bool ad.isNone) (.mk fun a w he _ => ?_) (hn _ fun hb => ?_)
  · have e1 : evA a (.const (.slice none 0 0)) = .slice none 0 0 := rfl
    simp only [execOp, ev_rel he hx, e1]
    refine run_val ?_
    have h1 : (eqGuard .eql t x (.const (.slice none 0 0)) (.slice ad xs.length cc) (.slice none 0 0)).run c.P w = .ok () w := rfl
    rw [bind_ok h1]
    unfold binOp
    simp only
    rw [bind_ok (run_eqNil w)]
    rfl
  · have h1 : ad = none := by simpa using hb
    have h2 := hnn h1
    have h3 : xs = [] := List.length_eq_zero_iff.1 (by omega)
    subst h1 h2 h3
    exact ⟨rfl, rfl⟩
end
/-- The blocks that loops over functions have left are taken at the frame's end. -/
theorem unwinds {P : Program} {f : FuncId} {a : Array Value} {cs : List Frame} {k : List Item} {r : List PHeap} {o : List PHeap} : ∀ (ds : List Nat) (D : PHeap) (w : World), Marked D ds → Sep (D :: o) r w →
    ∃ w', Sep o r w' ∧ Steps P (lone { mk f none a (marks ds) k with mode := .returning } cs w) (lone { mk f none a [] k with mode := .returning } cs w')
  | [], D, w, _, hs => ⟨w, hs.tail, .refl _ _⟩
  | b :: ds, D, w, hD, hs => by
    have hnd := List.nodup_cons.1 hD.1
    have hb : w.heap[b]? = some (.deferred (some [])) := hs.so D List.mem_cons_self b _ (by rw [hD.2 b]; simp)
    let D' : PHeap := ⟨fun x => if x ∈ ds then some (.deferred (some [])) else none, none⟩
    have hD' : Marked D' ds := ⟨hnd.2, fun _ => rfl⟩
    let w1 : World := { w with heap := w.heap.setIfInBounds b (.deferred none) }
    have hw1 : ∀ x, x ≠ b → w1.heap[x]? = w.heap[x]? := fun x hx => by
      simp only [w1]
      rw [Array.getElem?_setIfInBounds_ne (Ne.symm hx)]
    have hnb : ∀ h, Disj D h → h b = none := fun h hd => by
      rcases hd b with h1 | h1
      · rw [hD.2 b] at h1; simp at h1
      · exact h1
    have hsub : ∀ h, Disj D h → sub h w → sub h w1 := fun h hd hsb x ob hx => by
      have hne : x ≠ b := by rintro rfl; rw [hnb h hd] at hx; cases hx
      rw [hw1 x hne]
      exact hsb x ob hx
    have hpw := List.pairwise_cons.1 hs.pw
    have hdd : ∀ h, Disj D h → Disj D' h := fun h hd x => by
      rcases hd x with h1 | h1
      · left
        rw [hD.2 x] at h1
        simp only [D']
        rw [if_neg]
        intro hx
        rw [if_pos (List.mem_cons_of_mem _ hx)] at h1
        cases h1
      · exact .inr h1
    have hs1 : Sep (D' :: o) r w1 := by
      refine ⟨List.pairwise_cons.2 ⟨fun h hh => hdd h (hpw.1 h hh), hpw.2⟩, ?_, ?_, ?_, ?_, fun g hg m hm => hs.sm g hg m hm⟩
      · intro h hh g hg
        rcases List.mem_cons.1 hh with rfl | hh
        · exact hdd g (hs.dr D List.mem_cons_self g hg)
        · exact hs.dr h (List.mem_cons_of_mem _ hh) g hg
      · intro h hh
        rcases List.mem_cons.1 hh with rfl | hh
        · intro x ob hx
          simp only [D'] at hx
          split at hx
          · rename_i hxd
            cases hx
            have hne : x ≠ b := by rintro rfl; exact hnd.1 hxd
            rw [hw1 x hne]
            exact hs.so D List.mem_cons_self x _ (by rw [hD.2 x, if_pos (List.mem_cons_of_mem _ hxd)])
          · cases hx
        · exact hsub h (hpw.1 h hh) (hs.so h (List.mem_cons_of_mem _ hh))
      · exact fun g hg => hsub g (hs.dr D List.mem_cons_self g hg) (hs.sr g hg)
      · intro h hh
        rcases List.mem_cons.1 hh with rfl | hh
        · rfl
        · exact hs.no h (List.mem_cons_of_mem _ hh)
    obtain ⟨w', hS, st⟩ := unwinds (P := P) (f := f) (a := a) (cs := cs) (k := k) ds D' w1 hD' hs1
    refine ⟨w', hS, .head (step_lone_go ?_) st⟩
    have htake : (Instr.takeDeferred b).run P w = .ok [] w1 := by
      have h1 : (getObj b).run P w = .ok (.deferred (some [])) w := by simp [getObj, Sem.run, hb]
      unfold Instr.takeDeferred
      rw [bind_ok h1]
      simp only
      have h2 : (setObj b (.deferred none)).run P w = .ok () w1 := by simp [setObj, Sem.run, hb, w1]
      rw [bind_ok h2]
      rfl
    simp [stepG, unwind, mk, marks, htake]
class Packed (vs : List Value) (v : outParam Value) : Prop where
  pf : packed vs = v
instance Packed.one {v : Value} : Packed [v] v := ⟨rfl⟩
instance Packed.none : Packed [] (.tuple #[]) := ⟨rfl⟩
instance Packed.more {a b : Value} {l : List Value} : Packed (a :: b :: l) (.tuple (a :: b :: l).toArray) := ⟨rfl⟩
class App (a b : List PHeap) (c : outParam (List PHeap)) : Prop where
  pf : a ++ b = c
instance App.nil {b : List PHeap} : App [] b b := ⟨rfl⟩
instance App.cons {h : PHeap} {a b c : List PHeap} [t : App a b c] : App (h :: a) b (h :: c) := ⟨by rw [List.cons_append, t.pf]⟩
/-- Return: 'hs' are the heaps that are handed back. -/
theorem XK.rt {P : Program} {f : FuncId} {N : Nat} {B : PHeap} {R : Value → List PHeap → Prop} {k : List Item} {e : Env} {o r : List PHeap} {fn : Func} {l : List ResultVar} {vs : List Value}
    (hs : List PHeap) [p : Wk o hs] (hf : P.funcs[f]? = some fn) (hl : fn.results = l.toArray) {v : Value} (hv : ResL P o (B :: r) e l vs) [pk : Packed vs v] (hR : R v hs) :
    XK (cx P f N B R) (.code .ret :: k) e o r := fun D ds a w cs _ he hD hm => by
  obtain ⟨w', hS, st⟩ := unwinds (P := P) (f := f) (a := a) (cs := cs) (k := .code .ret :: k) ds D w hD hm
  exact ⟨_, w', ⟨v, hs, rfl, ⟨rfl, rfl, rfl, fn, hf, by rw [← pk.pf]; exact run_results hl hv he hS.rd⟩, hR, (p.sep hS).reads (fun g hg => by simp at hg; subst hg; exact List.mem_cons_self)⟩, .head step_ret st⟩
theorem XK.fn {P : Program} {f : FuncId} {N : Nat} {B : PHeap} {R : Value → List PHeap → Prop} {e : Env} {o r : List PHeap} {fn : Func} {l : List ResultVar} {vs : List Value}
    (hs : List PHeap) [p : Wk o hs] (hf : P.funcs[f]? = some fn) (hl : fn.results = l.toArray) {v : Value} (hv : ResL P o (B :: r) e l vs) [pk : Packed vs v] (hR : R v hs) :
    XK (cx P f N B R) [] e o r := fun D ds a w cs _ he hD hm => by
  obtain ⟨w', hS, st⟩ := unwinds (P := P) (f := f) (a := a) (cs := cs) (k := []) ds D w hD hm
  exact ⟨_, w', ⟨v, hs, rfl, ⟨rfl, rfl, rfl, fn, hf, by rw [← pk.pf]; exact run_results hl hv he hS.rd⟩, hR, (p.sep hS).reads (fun g hg => by simp at hg; subst hg; exact List.mem_cons_self)⟩, .head step_end st⟩
/-- Blocks by their numbers. -/
class SelB (bs : List Nat) (o : List PHeap) (f : outParam (List PHeap)) : Prop where
  pf : ∀ h ∈ f, h ∈ o
instance SelB.nil {o : List PHeap} : SelB [] o [] := ⟨fun _ h => by cases h⟩
instance (priority := high) SelB.cons {b : Nat} {bs : List Nat} {o f : List PHeap} {cs : List Value} {T : TypeId} [x : HasL b o cs T] [y : SelB bs o f] : SelB (b :: bs) o (blk b cs T :: f) :=
  ⟨fun h hh => by
    rcases List.mem_cons.1 hh with rfl | hh
    · exact x.pf
    · exact y.pf h hh⟩
instance (priority := low) SelB.skip {b : Nat} {bs : List Nat} {o f : List PHeap} [y : SelB bs o f] : SelB (b :: bs) o f := ⟨y.pf⟩
theorem XK.drawn {c : Cx} {k : List Item} {r : List PHeap} {id : Nat} {l : List Oper} {e : Env} {o f : List PHeap} (fl : List Nat) (bs : List Nat) (hs : List PHeap) (t : Plan) [sb : SelB bs o f] [al : AllIn hs o []] {ff : List PHeap} [ap : App hs f ff]
    (hmix : c.P.follows .mixedOrders = true) (hl : l.all (okOper c.N) = true)
    (hok : (Region.noSelect l.toArray && t.ok l.toArray fl (Array.replicate l.length false) [] && Nat.ble t.depth l.length) = true)
    (h : XT c l.toArray fl ff k r t e o) : XK c (.code (.region id l.toArray true) :: k) e o r :=
  XK.draw fl ff t hmix hl hok ⟨fun g hg => by
    rw [← ap.pf] at hg
    rcases List.mem_append.1 hg with h1 | h1
    · exact al.pf g h1
    · exact .inl (sb.pf g h1)⟩ h
end Go.X

/- The rules in a region that draws its order. No condition. -/
set_option linter.unusedSimpArgs false
set_option linter.unusedVariables false
namespace Go.X
section
variable {c : Cx} {ops : Array Oper} {fl : List Nat} {f : List PHeap} {k : List Item} {e : Env} {o r : List PHeap} {i0 : Nat} {bb : Bool} {tt uu : Plan} {d : Nat} {ty : TypeId} {pos : String} {aft : Array Edge}
variable {α : Type} {enc : α → List Value} {sz : Nat} {h : PHeap} {xs : List α} {v : Value}
theorem XT.qs {op : Op} {g : Option (Nat × Bool)} {v : Value} (hi : ops[i0]? = some ⟨some d, op, ty, pos, aft, g⟩) (hok : okOper c.N ⟨some d, op, ty, pos, aft, g⟩ = true)
    (q : Quiet c.P ops ⟨some d, op, ty, pos, aft, g⟩ e o (c.B :: r) v) (hn : Keeps bb f o ∧ XT c ops fl f k r tt ((d, some v) :: e) o) (hu : XT c ops fl f k r uu e o) : XT c ops fl f k r (.br i0 bb tt uu) e o :=
  XT.s hi hok q.stp (fun _ _ ⟨hv, ho⟩ => by subst hv ho; exact hn) hu
theorem XT.ix {t el : TypeId} [u : Und c.P t (.slice el)] [z : TySize c.P el sz] {x y : Operand} {kk : IntKind} {n : Int} {i : Nat} (hi : ops[i0]? = some ⟨some d, .indexAddr t x y, ty, pos, aft, none⟩)
    (hok : okOper c.N ⟨some d, .indexAddr t x y, ty, pos, aft, none⟩ = true) (hx : ev e x = some v) (hy : ev e y = some (.int kk n))
    [s : Arr v enc sz h xs] [ix : Idx n i] (h0 : 0 ≤ n) (h1 : n < xs.length) (hn : i < xs.length → XT c ops fl f k r tt ((d, some (pat v sz i 0)) :: e) o) : XT c ops fl f k r (.q i0 tt) e o :=
  XT.q hi hok (Q.ix hx hy h0 h1) (hn (by have := ix.pf h0; omega))
theorem XT.append {t0 t1 el el1 : TypeId} [u : Und c.P t0 (.slice el)] [u1 : Und c.P t1 (.slice el1)] [z : TySize c.P el sz] {zs : List Value} [zz : Zero c.P el zs] {by' : Nat} [tb : TyBytes c.P el by']
    {x y : Operand} {v2 : Value} {h2 : PHeap} {ys : List α} {o1 : List PHeap} (hi : ops[i0]? = some ⟨some d, .call ⟨.builtin .append, #[x, y], #[t0, t1]⟩, ty, pos, aft, none⟩)
    (hok : okOper c.N ⟨some d, .call ⟨.builtin .append, #[x, y], #[t0, t1]⟩, ty, pos, aft, none⟩ = true) (hx : ev e x = some v) (hy : ev e y = some v2) [s : OArr v enc sz el h xs] [t : Take h o o1] [s2 : Arr v2 enc sz h2 ys] [m : InM h2 o1 (c.B :: r)]
    (hzs : zs.length = sz) (hby : Nat.ble by' 128 = true) (hn : xs.length + ys.length ≤ 68719476736)
    (hnx : ∀ v' h', OArr v' enc sz el h' (xs ++ ys) → Keeps bb f (h' :: o1) ∧ XT c ops fl f k r tt ((d, some v') :: e) (h' :: o1)) (hu : XT c ops fl f k r uu e o) : XT c ops fl f k r (.br i0 bb tt uu) e o :=
  XT.s hi hok (Stp.append hx hy hzs hby hn) (fun v' _ ⟨h', hO, h2⟩ => by subst h2; exact hnx v' h' hO) hu
theorem XT.make {t el : TypeId} [u : Und c.P t (.slice el)] [z : TySize c.P el sz] {zs : List Value} [zz : Zero c.P el zs] {by' : Nat} [tb : TyBytes c.P el by'] {x y : Operand} {kk k' : IntKind} {n n' : Int} {i : Nat}
    (enc : α → List Value) (x0 : α) (hi : ops[i0]? = some ⟨some d, .makeSlice t x y, ty, pos, aft, none⟩) (hok : okOper c.N ⟨some d, .makeSlice t x y, ty, pos, aft, none⟩ = true)
    (hx : ev e x = some (.int kk n)) (hy : ev e y = some (.int k' n')) (hnn : n = n') [ix : Idx n i] (h0 : 0 ≤ n) (h1 : n ≤ 68719476736)
    (henc : ∀ x, (enc x).length = sz) (hz : enc x0 = zs) (hsz : Nat.blt 0 sz = true) (hby : Nat.ble by' 128 = true) (ho : Ones (enc x0))
    (hnx : ∀ v' h', OArr v' enc sz el h' (List.replicate i x0) → Keeps bb f (h' :: o) ∧ XT c ops fl f k r tt ((d, some v') :: e) (h' :: o)) (hu : XT c ops fl f k r uu e o) : XT c ops fl f k r (.br i0 bb tt uu) e o :=
  XT.s hi hok (Stp.make enc x0 hx hy hnn h0 h1 henc hz hsz hby ho) (fun v' _ ⟨h', hO, h2⟩ => by subst h2; exact hnx v' h' hO) hu
theorem XT.lit {t el : TypeId} [u : Und c.P t (.slice el)] [z : TySize c.P el sz] {zs : List Value} [zz : Zero c.P el zs] {n : Nat} {l : List (Nat × Operand)} (zl cs : List Value) (xs : List α) (enc : α → List Value)
    (hi : ops[i0]? = some ⟨some d, .buildSlice t n l.toArray, ty, pos, aft, none⟩) (hok : okOper c.N ⟨some d, .buildSlice t n l.toArray, ty, pos, aft, none⟩ = true)
    (hzs : zs.length = sz) (hsz : Nat.blt 0 sz = true) (hn : Nat.ble (n * sz) 16777216 = true) (hzl : (List.replicate n zs).flatten = zl) (hf : Fill e (fun i => some (i * sz, sz)) l zl cs)
    (henc : ∀ x, (enc x).length = sz) (hcs : xs.flatMap enc = cs) (hxn : xs.length = n) (ho : Ones cs) (hle : Nat.ble n 16777216 = true)
    (hnx : ∀ v' h', OArr v' enc sz el h' xs → Keeps bb f (h' :: o) ∧ XT c ops fl f k r tt ((d, some v') :: e) (h' :: o)) (hu : XT c ops fl f k r uu e o) : XT c ops fl f k r (.br i0 bb tt uu) e o :=
  XT.s hi hok ((Makes.lit cs hzs hsz hn (by rw [hzl]; exact hf)).stp _ _) (fun v' o' ⟨b, hv, ho'⟩ => by subst hv ho'; exact hnx _ _ (OArr.lit xs enc henc hcs hxn ho hle)) hu
theorem XT.alloc {t : TypeId} {zs : List Value} [z : Zero c.P t zs] (hi : ops[i0]? = some ⟨some d, .alloc t, ty, pos, aft, none⟩) (hok : okOper c.N ⟨some d, .alloc t, ty, pos, aft, none⟩ = true)
    (hn : ∀ b, Keeps bb f (blk b zs t :: o) ∧ XT c ops fl f k r tt ((d, some (ptr b 0)) :: e) (blk b zs t :: o)) (hu : XT c ops fl f k r uu e o) : XT c ops fl f k r (.br i0 bb tt uu) e o :=
  XT.s hi hok (Makes.alloc.stp _ _) (fun v' o' ⟨b, hv, ho'⟩ => by subst hv ho'; exact hn b) hu
theorem XT.box {t : TypeId} {x : Operand} {v : Value} {cs : List Value} (hi : ops[i0]? = some ⟨some d, .box t x, ty, pos, aft, none⟩) (hok : okOper c.N ⟨some d, .box t x, ty, pos, aft, none⟩ = true) (hx : ev e x = some v) [hc : Cells v cs]
    (hn : ∀ b, Keeps bb f (blk b cs t :: o) ∧ XT c ops fl f k r tt ((d, some (ptr b 0)) :: e) (blk b cs t :: o)) (hu : XT c ops fl f k r uu e o) : XT c ops fl f k r (.br i0 bb tt uu) e o :=
  XT.s hi hok ((Makes.box hx).stp _ _) (fun v' o' ⟨b, hv, ho'⟩ => by subst hv ho'; exact hn b) hu
theorem XT.st {t : TypeId} {n : Nat} [s : TySize c.P t n] {x y : Operand} {b i : Nat} {v : Value} {vs : List Value} {o' : List PHeap} (hi : ops[i0]? = some ⟨none, .store t x y, ty, pos, aft, none⟩) (hok : okOper c.N ⟨none, .store t x y, ty, pos, aft, none⟩ = true)
    (hx : ev e x = some (ptr b i)) (hy : ev e y = some v) [hc : Cells v vs] [ho : Ones vs] (hl : vs.length = n) [u : Upd b i vs o o'] (hn : Keeps bb f o' ∧ XT c ops fl f k r tt e o') (hu : XT c ops fl f k r uu e o) :
    XT c ops fl f k r (.br i0 bb tt uu) e o := XT.s0 hi hok (Stp.st hx hy hl) (fun _ _ ⟨_, h2⟩ => by subst h2; exact hn) hu
theorem XT.stE [Inhabited α] {t n T : TypeId} [z : TySize c.P t n] {x y : Operand} {i kk : Nat} {o1 : List PHeap} {u : Value} {us : List Value} (x' : α) (hi0 : ops[i0]? = some ⟨none, .store t x y, ty, pos, aft, none⟩)
    (hok : okOper c.N ⟨none, .store t x y, ty, pos, aft, none⟩ = true) (hx : ev e x = some (pat v sz i kk)) (hy : ev e y = some u)
    [hc : Cells u us] [ho : Ones us] (hl : us.length = n) [s : OArr v enc sz T h xs] [tk : Take h o o1] (hi : i < xs.length)
    (hx' : enc x' = (enc (xs.getD i default)).take kk ++ us ++ (enc (xs.getD i default)).drop (kk + n)) (hk : Nat.ble (kk + n) sz = true)
    (hnx : ∀ h', OArr v enc sz T h' (xs.set i x') → Keeps bb f (h' :: o1) ∧ XT c ops fl f k r tt e (h' :: o1)) (hu : XT c ops fl f k r uu e o) : XT c ops fl f k r (.br i0 bb tt uu) e o :=
  XT.s0 hi0 hok (Stp.stE x' hx hy hl hi hx' hk) (fun v' _ ⟨h', hO, h2⟩ => by subst h2; exact hnx h' hO) hu
theorem XT.call {g : FuncId} {x : Operand} {l : List Operand} {tys : Array TypeId} {fst vs cap A : List Value} {Hm Hr : List PHeap} {R : Value → List PHeap → Prop} {o1 : List PHeap}
    (hi : ops[i0]? = some ⟨some d, .call ⟨.value x, l.toArray, tys⟩, ty, pos, aft, none⟩) (hok : okOper c.N ⟨some d, .call ⟨.value x, l.toArray, tys⟩, ty, pos, aft, none⟩ = true)
    (hc : ∀ args w, (callFunc g args).run c.P w = .ok (.enter g args) w) (hx : ev e x = some (.func (.func g) fst.toArray cap.toArray)) (hl : evs e l = some vs) (hA : fst ++ vs ++ cap = A)
    (hS : Spec c.P g A.toArray Hm Hr R) [t : Takes Hm o o1] [al : AllIn Hr o1 (c.B :: r)] (h : ∀ v hs, R v hs → Keeps bb f (hs ++ o1) ∧ XT c ops fl f k r tt ((d, some v) :: e) (hs ++ o1)) (hu : XT c ops fl f k r uu e o) :
    XT c ops fl f k r (.br i0 bb tt uu) e o := XT.s hi hok (Stp.call hc hx hl hA hS) (fun v o2 ⟨hs, hR, h2⟩ => by subst h2; exact h v hs hR) hu
end
end Go.X

/- Guarded calls that only compute; guards as propositions. No condition. -/
set_option linter.unusedSimpArgs false
set_option linter.unusedVariables false
namespace Go.X
inductive EvL (e : Env) : List Operand → List Value → Prop
  | n : EvL e [] []
  | c {x : Operand} {l : List Operand} {v : Value} {vs : List Value} (h : ev e x = some v) (r : EvL e l vs) : EvL e (x :: l) (v :: vs)
theorem EvL.rel {e : Env} {a : Array Value} (he : ERel e a) {l : List Operand} {vs : List Value} (h : EvL e l vs) : l.map (evA a) = vs := by
  induction h with
  | n => rfl
  | c h r ih => rw [List.map_cons, ev_rel he h, ih]
section
variable {P : Program} {ops : Array Oper} {e : Env} {o r : List PHeap} {d : Option Tmp} {ty : TypeId} {pos : String} {aft : Array Edge}
theorem Quiet.guardT {op : Op} {v : Value} {j : Nat} {b : Bool} {g : Nat} {p : Prop} (hj : (ops[j]?).bind (·.dst) = some g) (hg : find e g = some (.bool b)) [t : BoolP b p]
    (h : b = true → p → Quiet P ops ⟨d, op, ty, pos, aft, none⟩ e o r v) : Quiet P ops ⟨d, op, ty, pos, aft, some (j, true)⟩ e o r (lz b true v) :=
  Quiet.guard hj hg fun hb => h hb (t.pf.1 hb)
theorem Quiet.guardF {op : Op} {v : Value} {j : Nat} {b : Bool} {g : Nat} {p : Prop} (hj : (ops[j]?).bind (·.dst) = some g) (hg : find e g = some (.bool b)) [t : BoolP b p]
    (h : b = false → ¬ p → Quiet P ops ⟨d, op, ty, pos, aft, none⟩ e o r v) : Quiet P ops ⟨d, op, ty, pos, aft, some (j, false)⟩ e o r (lz b false v) :=
  Quiet.guard hj hg fun hb => h hb (fun hp => by rw [t.pf.2 hp] at hb; cases hb)
theorem wanted_guard {j : Nat} {want b : Bool} {g : Nat} {a : Array Value} {op : Op} (hj : (ops[j]?).bind (·.dst) = some g) (hv : a.getD g undef = .bool b) :
    Region.wanted ⟨d, op, ty, pos, aft, some (j, want)⟩ (yielded ops a) = (b == want) := by
  have hy : yielded ops a j = some b := by
    unfold yielded
    rw [hj]
    simp only [Option.bind_some]
    have hlt : g < a.size := by
      rcases Nat.lt_or_ge g a.size with h' | h'
      · exact h'
      · simp [Array.getElem?_eq_none h', undef] at hv
    simp only [Array.getElem?_eq_getElem hlt]
    have : a[g] = .bool b := by simpa [hlt] using hv
    rw [this]
  simp [Region.wanted, hy]
/-- A call that only computes, under a guard. -/
theorem Stp.gcall {g : FuncId} {x : Operand} {l : List Operand} {tys : Array TypeId} {fst vs cap A : List Value} {Hr : List PHeap} {u : Value} {j gt : Nat} {want b : Bool} (hj : (ops[j]?).bind (·.dst) = some gt) (hg : find e gt = some (.bool b))
    (hc : ∀ args w, (callFunc g args).run P w = .ok (.enter g args) w) (hx : ev e x = some (.func (.func g) fst.toArray cap.toArray)) (hl : b = want → EvL e l vs) (hA : fst ++ vs ++ cap = A)
    (hS : b = want → Spec P g A.toArray [] Hr (fun v hs => v = u ∧ hs = [])) [al : AllIn Hr o r] :
    Stp P ops ⟨d, .call ⟨.value x, l.toArray, tys⟩, ty, pos, aft, some (j, want)⟩ e o r (fun v o2 => v = lz b want u ∧ o2 = o) := fun D a w he hs => by
  have hw := wanted_guard (d := d) (ty := ty) (pos := pos) (aft := aft) (want := want) (op := .call ⟨.value x, l.toArray, tys⟩) hj (he gt _ hg)
  by_cases hb : b = want
  · have hrun : (execOp (evA a) (⟨d, .call ⟨.value x, l.toArray, tys⟩, ty, pos, aft, some (j, want)⟩ : Oper)).run P w = .ok (.enter g A.toArray) w := by
      simp only [execOp, resolve, ev_rel he hx, List.map_toArray, (hl hb).rel he]
      have e1 : (Deferred.ofValue (.func (.func g) fst.toArray cap.toArray) vs.toArray).run P w = .ok { target := .fn (.func g) cap.toArray, args := fst.toArray ++ vs.toArray } w := rfl
      rw [bind_ok e1]
      simp only [invoke]
      rw [hc]
      simp [← hA]
    unfold Does
    rw [hw, if_pos (by simp [hb]), hrun]
    simp only
    refine (hS hb (D :: o) r w hs (fun h hh => orMap (al.pf h hh) (List.mem_cons_of_mem _) (fun h => h))).mono ?_
    rintro e' w' ⟨v, hs', rfl, ⟨rfl, rfl⟩, hS'⟩
    exact ⟨v, rfl, D :: o, ⟨o, ⟨by simp [lz, hb], rfl⟩, List.Perm.refl _⟩, hS'⟩
  · unfold Does
    rw [hw, if_neg (by simpa using hb)]
    exact ⟨D :: o, ⟨o, ⟨by simp [lz, hb], rfl⟩, List.Perm.refl _⟩, hs⟩
end
section
variable {c : Cx} {ops : Array Oper} {rest : List Oper} {k : List Item} {e : Env} {o r : List PHeap} {d : Nat} {ty : TypeId} {pos : String} {aft : Array Edge}
theorem XO.gcallT {g : FuncId} {x : Operand} {l : List Operand} {tys : Array TypeId} {fst vs cap A : List Value} {Hr : List PHeap} {u : Value} {j gt : Nat} {b : Bool} {p : Prop} (hj : (ops[j]?).bind (·.dst) = some gt) (hg : find e gt = some (.bool b)) [t : BoolP b p]
    (hc : ∀ args w, (callFunc g args).run c.P w = .ok (.enter g args) w) (hx : ev e x = some (.func (.func g) fst.toArray cap.toArray)) (hl : b = true → EvL e l vs) (hA : fst ++ vs ++ cap = A)
    (hS : b = true → p → Spec c.P g A.toArray [] Hr (fun v hs => v = u ∧ hs = [])) [al : AllIn Hr o (c.B :: r)] (h : XO c ops rest k ((d, some (lz b true u)) :: e) o r) :
    XO c ops (⟨some d, .call ⟨.value x, l.toArray, tys⟩, ty, pos, aft, some (j, true)⟩ :: rest) k e o r :=
  XO.s (Stp.gcall hj hg hc hx hl hA (fun hb => hS hb (t.pf.1 hb))) fun v o2 ⟨h1, h2⟩ => by subst h1 h2; exact h
theorem XO.gcallF {g : FuncId} {x : Operand} {l : List Operand} {tys : Array TypeId} {fst vs cap A : List Value} {Hr : List PHeap} {u : Value} {j gt : Nat} {b : Bool} {p : Prop} (hj : (ops[j]?).bind (·.dst) = some gt) (hg : find e gt = some (.bool b)) [t : BoolP b p]
    (hc : ∀ args w, (callFunc g args).run c.P w = .ok (.enter g args) w) (hx : ev e x = some (.func (.func g) fst.toArray cap.toArray)) (hl : b = false → EvL e l vs) (hA : fst ++ vs ++ cap = A)
    (hS : b = false → ¬ p → Spec c.P g A.toArray [] Hr (fun v hs => v = u ∧ hs = [])) [al : AllIn Hr o (c.B :: r)] (h : XO c ops rest k ((d, some (lz b false u)) :: e) o r) :
    XO c ops (⟨some d, .call ⟨.value x, l.toArray, tys⟩, ty, pos, aft, some (j, false)⟩ :: rest) k e o r :=
  XO.s (Stp.gcall hj hg hc hx hl hA (fun hb => hS hb (fun hp => by rw [t.pf.2 hp] at hb; cases hb))) fun v o2 ⟨h1, h2⟩ => by subst h1 h2; exact h
variable {fl : List Nat} {f : List PHeap} {i0 : Nat} {bb : Bool} {tt uu : Plan}
theorem XT.gcallT {g : FuncId} {x : Operand} {l : List Operand} {tys : Array TypeId} {fst vs cap A : List Value} {Hr : List PHeap} {u : Value} {j gt : Nat} {b : Bool} {p : Prop}
    (hi : ops[i0]? = some ⟨some d, .call ⟨.value x, l.toArray, tys⟩, ty, pos, aft, some (j, true)⟩) (hok : okOper c.N ⟨some d, .call ⟨.value x, l.toArray, tys⟩, ty, pos, aft, some (j, true)⟩ = true)
    (hj : (ops[j]?).bind (·.dst) = some gt) (hg : find e gt = some (.bool b)) [t : BoolP b p]
    (hc : ∀ args w, (callFunc g args).run c.P w = .ok (.enter g args) w) (hx : ev e x = some (.func (.func g) fst.toArray cap.toArray)) (hl : b = true → EvL e l vs) (hA : fst ++ vs ++ cap = A)
    (hS : b = true → p → Spec c.P g A.toArray [] Hr (fun v hs => v = u ∧ hs = [])) [al : AllIn Hr o (c.B :: r)] (h : Keeps bb f o ∧ XT c ops fl f k r tt ((d, some (lz b true u)) :: e) o) (hu : XT c ops fl f k r uu e o) :
    XT c ops fl f k r (.br i0 bb tt uu) e o :=
  XT.s hi hok (Stp.gcall hj hg hc hx hl hA (fun hb => hS hb (t.pf.1 hb))) (fun v o2 ⟨h1, h2⟩ => by subst h1 h2; exact h) hu
theorem XT.gcallF {g : FuncId} {x : Operand} {l : List Operand} {tys : Array TypeId} {fst vs cap A : List Value} {Hr : List PHeap} {u : Value} {j gt : Nat} {b : Bool} {p : Prop}
    (hi : ops[i0]? = some ⟨some d, .call ⟨.value x, l.toArray, tys⟩, ty, pos, aft, some (j, false)⟩) (hok : okOper c.N ⟨some d, .call ⟨.value x, l.toArray, tys⟩, ty, pos, aft, some (j, false)⟩ = true)
    (hj : (ops[j]?).bind (·.dst) = some gt) (hg : find e gt = some (.bool b)) [t : BoolP b p]
    (hc : ∀ args w, (callFunc g args).run c.P w = .ok (.enter g args) w) (hx : ev e x = some (.func (.func g) fst.toArray cap.toArray)) (hl : b = false → EvL e l vs) (hA : fst ++ vs ++ cap = A)
    (hS : b = false → ¬ p → Spec c.P g A.toArray [] Hr (fun v hs => v = u ∧ hs = [])) [al : AllIn Hr o (c.B :: r)] (h : Keeps bb f o ∧ XT c ops fl f k r tt ((d, some (lz b false u)) :: e) o) (hu : XT c ops fl f k r uu e o) :
    XT c ops fl f k r (.br i0 bb tt uu) e o :=
  XT.s hi hok (Stp.gcall hj hg hc hx hl hA (fun hb => hS hb (fun hp => by rw [t.pf.2 hp] at hb; cases hb))) (fun v o2 ⟨h1, h2⟩ => by subst h1 h2; exact h) hu
end
end Go.X

/- Calls of function values; loops over functions. No condition. -/
set_option linter.unusedSimpArgs false
set_option linter.unusedVariables false
namespace Go.X

/-! ### several heaps as one -/
def join : List PHeap → PHeap
  | [] => emp
  | h :: t => ⟨fun b => (h b).or (join t b), none⟩
theorem join_none {hs : List PHeap} {b : Nat} : join hs b = none ↔ ∀ h ∈ hs, h b = none := by
  induction hs with
  | nil => simp [join, emp]
  | cons h t ih => simp [join, ih]
theorem join_mem {hs : List PHeap} {b : Nat} {ob : Obj} (h : join hs b = some ob) : ∃ g ∈ hs, g b = some ob := by
  induction hs with
  | nil => cases h
  | cons g t ih =>
    simp only [join] at h
    cases hg : g b with
    | some x =>
      rw [hg] at h
      exact ⟨g, List.mem_cons_self, by rw [hg]; simpa using h⟩
    | none =>
      rw [hg] at h
      obtain ⟨g', h1, h2⟩ := ih (by simpa using h)
      exact ⟨g', List.mem_cons_of_mem _ h1, h2⟩
theorem mem_join {hs : List PHeap} {b : Nat} {ob : Obj} (hp : hs.Pairwise Disj) {g : PHeap} (hg : g ∈ hs) (h : g b = some ob) : join hs b = some ob := by
  induction hs with
  | nil => cases hg
  | cons x t ih =>
    simp only [join]
    rcases List.mem_cons.1 hg with rfl | hg
    · rw [h]; rfl
    · have h1 := (List.pairwise_cons.1 hp).1 g hg b
      rw [h] at h1
      rw [h1.resolve_right (by simp)]
      simpa using ih (List.pairwise_cons.1 hp).2 hg
theorem join_disj {hs : List PHeap} {g : PHeap} : Disj (join hs) g ↔ ∀ h ∈ hs, Disj h g := by
  constructor
  · intro h x hx b
    rcases h b with h1 | h1
    · exact .inl (join_none.1 h1 x hx)
    · exact .inr h1
  · intro h b
    by_cases hg : g b = none
    · exact .inr hg
    · left
      exact join_none.2 fun x hx => (h x hx b).resolve_right hg
theorem join_m (hs : List PHeap) : (join hs).m = none := by cases hs <;> rfl
theorem Sep.join {hs o r : List PHeap} {w : World} (s : Sep (hs ++ o) r w) : Sep (X.join hs :: o) r w where
  pw := List.pairwise_cons.2 ⟨fun g hg => join_disj.2 fun h hh => (List.pairwise_append.1 s.pw).2.2 h hh g hg, s.right.pw⟩
  dr := fun h hh g hg => by
    rcases List.mem_cons.1 hh with rfl | hh
    · exact join_disj.2 fun x hx => s.dr x (List.mem_append_left _ hx) g hg
    · exact s.dr h (List.mem_append_right _ hh) g hg
  so := fun h hh => by
    rcases List.mem_cons.1 hh with rfl | hh
    · intro b ob hb
      obtain ⟨g, h1, h2⟩ := join_mem hb
      exact s.so g (List.mem_append_left _ h1) b ob h2
    · exact s.so h (List.mem_append_right _ hh)
  sr := s.sr
  no := fun h hh => by
    rcases List.mem_cons.1 hh with rfl | hh
    · exact join_m hs
    · exact s.no h (List.mem_append_right _ hh)
  sm := s.sm
def PD (hs : List PHeap) : Prop := hs.Pairwise Disj ∧ ∀ h ∈ hs, h.m = none
theorem Sep.split {hs o r : List PHeap} {w : World} (hpd : PD hs) (s : Sep (X.join hs :: o) r w) : Sep (hs ++ o) r w where
  pw := List.pairwise_append.2 ⟨hpd.1, (List.pairwise_cons.1 s.pw).2, fun h hh g hg => join_disj.1 ((List.pairwise_cons.1 s.pw).1 g hg) h hh⟩
  dr := fun h hh g hg => by
    rcases List.mem_append.1 hh with hh | hh
    · exact join_disj.1 (s.dr _ List.mem_cons_self g hg) h hh
    · exact s.dr h (List.mem_cons_of_mem _ hh) g hg
  so := fun h hh => by
    rcases List.mem_append.1 hh with hh | hh
    · exact fun b ob hb => s.so _ List.mem_cons_self b ob (mem_join hpd.1 hh hb)
    · exact s.so h (List.mem_cons_of_mem _ hh)
  sr := s.sr
  no := fun h hh => by
    rcases List.mem_append.1 hh with hh | hh
    · exact hpd.2 h hh
    · exact s.no h (List.mem_cons_of_mem _ hh)
  sm := s.sm

/-! ### the frame of a call -/
theorem frame_in {Hm Hr o r : List PHeap} {w : World} (hs : Sep (Hm ++ o) r w) (hr : ∀ h ∈ Hr, h ∈ o ∨ h ∈ r) : Sep Hm (hole w Hm :: Hr) w := by
  have hdis : ∀ h ∈ Hr, ∀ g ∈ Hm, Disj g h := fun h hh g hg => by
    rcases hr h hh with h1 | h1
    · exact (List.pairwise_append.1 hs.pw).2.2 g hg h h1
    · exact hs.dr g (List.mem_append_left _ hg) h h1
  have hsub : ∀ h ∈ Hr, sub h w := fun h hh => by
    rcases hr h hh with h1 | h1
    · exact hs.so h (List.mem_append_right _ h1)
    · exact hs.sr h h1
  refine ⟨hs.left.pw, ?_, hs.left.so, ?_, hs.left.no, ?_⟩
  · intro g hg x hx
    rcases List.mem_cons.1 hx with rfl | hx
    · intro b
      by_cases hn : g b = none
      · exact .inl hn
      · right
        unfold hole; dsimp only
        rw [if_pos ⟨g, hg, hn⟩]
    · exact hdis x hx g hg
  · intro x hx
    rcases List.mem_cons.1 hx with rfl | hx
    · intro b ob hb
      unfold hole at hb; dsimp only at hb
      split at hb
      · cases hb
      · exact hb
    · exact hsub x hx
  · intro x hx m hm
    rcases List.mem_cons.1 hx with rfl | hx
    · exact Option.some.inj hm
    · rcases hr x hx with h1 | h1
      · rw [hs.right.no x h1] at hm; cases hm
      · exact hs.sm x h1 m hm
theorem frame_out {Hm hs' o r : List PHeap} {w w' : World} (hs : Sep (Hm ++ o) r w) (hS' : Sep hs' [hole w Hm] w') : Sep (hs' ++ o) r w' := by
  have hBw : ∀ b ob, hole w Hm b = some ob → w'.heap[b]? = some ob := hS'.sr (hole w Hm) List.mem_cons_self
  have hfr : ∀ h, sub h w → (∀ g ∈ Hm, Disj g h) → sub h w' ∧ ∀ x ∈ hs', Disj x h := fun h h1 h2 =>
    ⟨fun b ob hb => hBw b ob (le_hole h1 h2 hb), fun x hx b => by
      rcases hS'.dr x hx (hole w Hm) List.mem_cons_self b with h3 | h3
      · exact .inl h3
      · right
        cases hh : h b with
        | none => rfl
        | some ob => rw [le_hole h1 h2 hh] at h3; cases h3⟩
  have ho : ∀ h ∈ o, sub h w ∧ ∀ g ∈ Hm, Disj g h := fun h hh => ⟨hs.right.so h hh, fun g hg => (List.pairwise_append.1 hs.pw).2.2 g hg h hh⟩
  have hrr : ∀ h ∈ r, sub h w ∧ ∀ g ∈ Hm, Disj g h := fun h hh => ⟨hs.sr h hh, fun g hg => hs.dr g (List.mem_append_left _ hg) h hh⟩
  have hmt : mt w' = mt w := hS'.sm _ List.mem_cons_self _ rfl
  refine ⟨List.pairwise_append.2 ⟨hS'.pw, hs.right.pw, fun x hx h hh => (hfr h (ho h hh).1 (ho h hh).2).2 x hx⟩, ?_, ?_, ?_, ?_, fun g hg m hm => hmt.trans (hs.sm g hg m hm)⟩
  · intro x hx g hg
    rcases List.mem_append.1 hx with hx | hx
    · exact (hfr g (hrr g hg).1 (hrr g hg).2).2 x hx
    · exact hs.right.dr x hx g hg
  · intro x hx
    rcases List.mem_append.1 hx with hx | hx
    · exact hS'.so x hx
    · exact (hfr x (ho x hx).1 (ho x hx).2).1
  · exact fun g hg => (hfr g (hrr g hg).1 (hrr g hg).2).1
  · intro x hx
    rcases List.mem_append.1 hx with hx | hx
    · exact hS'.no x hx
    · exact hs.right.no x hx

/-! ### function values -/
def NDoes (P : Program) (s : Sem Next) (w : World) (Post : Value → World → Prop) : Prop :=
  match s.run P w with
  | .ok (.enter g args) w' => Calls P g args w' fun e w'' => ∃ v, e = .returned v ∧ Post v w''
  | .ok (.round l g tmps assign body) w' => Rounds P l g tmps assign body w' Post
  | _ => False
def callv (y : Value) (args : Array Value) : Sem Next := do
  let d ← Deferred.ofValue y args
  invoke d.target d.args
/-- A call of the function value y. -/
def VSpec (P : Program) (y : Value) (args : List Value) (Hm Hr : List PHeap) (R : Value → List PHeap → Prop) : Prop :=
  ∀ o r w, Sep (Hm ++ o) r w → (∀ h ∈ Hr, h ∈ o ∨ h ∈ r) → NDoes P (callv y args.toArray) w fun v w' => ∃ hs, R v hs ∧ Sep (hs ++ o) r w'
theorem VSpec.fn {P : Program} {g : FuncId} {fst vs cap A : List Value} {Hm Hr : List PHeap} {R : Value → List PHeap → Prop}
    (hc : ∀ args w, (callFunc g args).run P w = .ok (.enter g args) w) (hA : fst ++ vs ++ cap = A) (hS : Spec P g A.toArray Hm Hr R) :
    VSpec P (.func (.func g) fst.toArray cap.toArray) vs Hm Hr R := fun o r w hs hr => by
  unfold NDoes
  have hrun : (callv (.func (.func g) fst.toArray cap.toArray) vs.toArray).run P w = .ok (.enter g A.toArray) w := by
    unfold callv
    have e1 : (Deferred.ofValue (.func (.func g) fst.toArray cap.toArray) vs.toArray).run P w = .ok { target := .fn (.func g) cap.toArray, args := fst.toArray ++ vs.toArray } w := rfl
    rw [bind_ok e1]
    simp only [invoke]
    rw [hc]
    simp [← hA]
  rw [hrun]
  refine (hS o r w hs hr).mono ?_
  rintro e w' ⟨v, hs', rfl, hR, hS'⟩
  exact ⟨v, rfl, hs', hR, hS'⟩
section
variable {P : Program} {ops : Array Oper} {e : Env} {o r : List PHeap} {d : Option Tmp} {ty : TypeId} {pos : String} {aft : Array Edge}
theorem NDoes.does {x : Operand} {l : List Operand} {tys : Array TypeId} {y : Value} {vs : List Value} {a : Array Value} {w : World} (he : ERel e a) (hx : ev e x = some y) (hl : evs e l = some vs)
    {g : Option (Nat × Bool)} (hg : Region.wanted (⟨d, .call ⟨.value x, l.toArray, tys⟩, ty, pos, aft, g⟩ : Oper) (yielded ops a) = true)
    {Post : Value → World → Prop} (h : NDoes P (callv y vs.toArray) w Post) : Does P ops ⟨d, .call ⟨.value x, l.toArray, tys⟩, ty, pos, aft, g⟩ a w Post := by
  have hx' : (execOp (evA a) (⟨d, .call ⟨.value x, l.toArray, tys⟩, ty, pos, aft, g⟩ : Oper)) = callv y vs.toArray := by
    simp only [execOp, resolve, ev_rel he hx, List.map_toArray, evs_rel he hl, callv]
  unfold Does
  rw [hg, if_pos rfl, hx']
  unfold NDoes at h
  split at h <;> rename_i heq
  · rw [heq]; exact h
  · rw [heq]; exact h
  · exact h.elim
theorem Stp.vcall {x : Operand} {l : List Operand} {tys : Array TypeId} {y : Value} {vs : List Value} {Hm Hr : List PHeap} {R : Value → List PHeap → Prop} {o1 : List PHeap}
    (hx : ev e x = some y) (hl : evs e l = some vs) (hS : VSpec P y vs Hm Hr R) [t : Takes Hm o o1] [al : AllIn Hr o1 r] :
    Stp P ops ⟨d, .call ⟨.value x, l.toArray, tys⟩, ty, pos, aft, none⟩ e o r (fun v o2 => ∃ hs, R v hs ∧ o2 = hs ++ o1) := fun D a w he hs => by
  refine NDoes.does he hx hl (by simp [Region.wanted]) ?_
  have h := hS (D :: o1) r w (hs.perm (t.more D).pf) (al.more D).pf
  unfold NDoes at *
  split at h <;> rename_i heq
  · refine h.mono ?_
    rintro e' w' ⟨v, rfl, hs', hR, hS'⟩
    exact ⟨v, rfl, hs' ++ D :: o1, ⟨hs' ++ o1, ⟨hs', hR, rfl⟩, List.perm_middle⟩, hS'⟩
  · intro c0 cs
    obtain ⟨v, w', ⟨hs', hR, hS'⟩, st⟩ := h c0 cs
    exact ⟨v, w', ⟨hs' ++ D :: o1, ⟨hs' ++ o1, ⟨hs', hR, rfl⟩, List.perm_middle⟩, hS'⟩, st⟩
  · exact h.elim
/-- Under a guard: it is called, or not. -/
theorem Stp.gvcall {x : Operand} {l : List Operand} {tys : Array TypeId} {y : Value} {vs : List Value} {Hm Hr : List PHeap} {R : Value → List PHeap → Prop} {o1 : List PHeap} {j gt : Nat} {want b : Bool}
    (hj : (ops[j]?).bind (·.dst) = some gt) (hg : find e gt = some (.bool b)) (hx : b = want → ev e x = some y) (hl : b = want → EvL e l vs) (hS : b = want → VSpec P y vs Hm Hr R) [t : Takes Hm o o1] [al : AllIn Hr o1 r] :
    Stp P ops ⟨d, .call ⟨.value x, l.toArray, tys⟩, ty, pos, aft, some (j, want)⟩ e o r
      (fun v o2 => (b = want ∧ ∃ hs, R v hs ∧ o2 = hs ++ o1) ∨ (b ≠ want ∧ v = undef ∧ o2 = o)) := fun D a w he hs => by
  have hw := wanted_guard (d := d) (ty := ty) (pos := pos) (aft := aft) (want := want) (op := .call ⟨.value x, l.toArray, tys⟩) hj (he gt _ hg)
  by_cases hb : b = want
  · have hw' : Region.wanted (⟨d, .call ⟨.value x, l.toArray, tys⟩, ty, pos, aft, some (j, want)⟩ : Oper) (yielded ops a) = true := by rw [hw]; simp [hb]
    have hx' : (execOp (evA a) (⟨d, .call ⟨.value x, l.toArray, tys⟩, ty, pos, aft, some (j, want)⟩ : Oper)) = callv y vs.toArray := by
      simp only [execOp, resolve, ev_rel he (hx hb), List.map_toArray, (hl hb).rel he, callv]
    have h := hS hb (D :: o1) r w (hs.perm (t.more D).pf) (al.more D).pf
    unfold Does
    rw [hw', if_pos rfl, hx']
    unfold NDoes at h
    split at h <;> rename_i heq
    · rw [heq]
      refine h.mono ?_
      rintro e' w' ⟨v, rfl, hs', hR, hS'⟩
      exact ⟨v, rfl, hs' ++ D :: o1, ⟨hs' ++ o1, .inl ⟨hb, hs', hR, rfl⟩, List.perm_middle⟩, hS'⟩
    · rw [heq]
      intro c0 cs
      obtain ⟨v, w', ⟨hs', hR, hS'⟩, st⟩ := h c0 cs
      exact ⟨v, w', ⟨hs' ++ D :: o1, ⟨hs' ++ o1, .inl ⟨hb, hs', hR, rfl⟩, List.perm_middle⟩, hS'⟩, st⟩
    · exact h.elim
  · unfold Does
    rw [hw, if_neg (by simpa using hb)]
    exact ⟨D :: o, ⟨o, .inr ⟨hb, rfl, rfl⟩, List.Perm.refl _⟩, hs⟩
end
section
variable {c : Cx} {ops : Array Oper} {rest : List Oper} {k : List Item} {e : Env} {o r : List PHeap} {d : Nat} {ty : TypeId} {pos : String} {aft : Array Edge}
theorem XO.vcall {x : Operand} {l : List Operand} {tys : Array TypeId} {y : Value} {vs : List Value} {Hm Hr : List PHeap} {R : Value → List PHeap → Prop} {o1 : List PHeap}
    (hx : ev e x = some y) (hl : evs e l = some vs) (hS : VSpec c.P y vs Hm Hr R) [t : Takes Hm o o1] [al : AllIn Hr o1 (c.B :: r)] (h : ∀ v hs, R v hs → XO c ops rest k ((d, some v) :: e) (hs ++ o1) r) :
    XO c ops (⟨some d, .call ⟨.value x, l.toArray, tys⟩, ty, pos, aft, none⟩ :: rest) k e o r := XO.s (Stp.vcall hx hl hS) fun v o2 ⟨hs, hR, h2⟩ => by subst h2; exact h v hs hR
theorem XO.gvcall {x : Operand} {l : List Operand} {tys : Array TypeId} {y : Value} {vs : List Value} {Hm Hr : List PHeap} {R : Value → List PHeap → Prop} {o1 : List PHeap} {j gt : Nat} {want b : Bool}
    (hj : (ops[j]?).bind (·.dst) = some gt) (hg : find e gt = some (.bool b)) (hx : b = want → ev e x = some y) (hl : b = want → EvL e l vs) (hS : b = want → VSpec c.P y vs Hm Hr R) [t : Takes Hm o o1] [al : AllIn Hr o1 (c.B :: r)]
    (h : b = want → ∀ v hs, R v hs → XO c ops rest k ((d, some v) :: e) (hs ++ o1) r) (h' : b ≠ want → XO c ops rest k ((d, some undef) :: e) o r) :
    XO c ops (⟨some d, .call ⟨.value x, l.toArray, tys⟩, ty, pos, aft, some (j, want)⟩ :: rest) k e o r :=
  XO.s (Stp.gvcall hj hg hx hl hS) fun v o2 hh => by
    rcases hh with ⟨hb, hs, hR, h2⟩ | ⟨hb, rfl, rfl⟩
    · subst h2; exact h hb v hs hR
    · exact h' hb
end
end Go.X

/- Loops over functions: the rounds, the loop, an iterator's contract. No condition. -/
set_option linter.unusedSimpArgs false
set_option linter.unusedVariables false
namespace Go.X

/-! ### a round -/
def rdy (l : Nat) (rec : Loop) : PHeap := sing l (.loop { rec with state := .ready, pending := none })
def bsy (l : Nat) (rec : Loop) : PHeap := sing l (.loop { rec with state := .busy, pending := none })
def ovr (l : Nat) (rec : Loop) (j : Option Code) : PHeap := sing l (.loop { rec with state := if j.isNone then .ready else .done, pending := j })
def Leaves : Option Code → List Item → Prop
  | none, [] => True
  | some .ret, .code .ret :: _ => True
  | some (.exit id), .code (.exit id') :: k => id = id' ∧ exitTo id k = none
  | _, _ => False
/-- The frame of a round; at its end: the jump, the heaps. -/
abbrev rcx (P : Program) (f : FuncId) (N : Nat) (l : Nat) (rec : Loop) (B : PHeap) (R : Option Code → List PHeap → Prop) : Cx :=
  { P, f, rd := some l, N, B, E := fun fr w' => ∃ j k a ds hs, fr = mk f (some l) a (marks ds) k ∧ Leaves j k ∧ R j hs ∧ Sep (bsy l rec :: hs) [B] w' }
section
variable {P : Program} {f : FuncId} {N l : Nat} {rec : Loop} {B : PHeap} {R : Option Code → List PHeap → Prop} {k : List Item} {e : Env} {o o1 r : List PHeap}
theorem Sep.turn {b : Nat} {x y : Obj} {o r : List PHeap} {w : World} (s : Sep (sing b x :: o) r w) : Sep (sing b y :: o) r (w.putObj b y) ∧ w.heap[b]? = some x := by
  have hb : w.heap[b]? = some x := s.so _ List.mem_cons_self b x (sing_self b x)
  have hlt : b < w.heap.size := (Array.getElem?_eq_some_iff.1 hb).1
  refine ⟨s.swap (fun x' hx' => ?_) (fun x' ob hx' => ?_) (fun x' hx' => ?_) rfl rfl, hb⟩
  · unfold sing at *; dsimp only at hx' ⊢; split at hx'
    · cases hx'
    · simp [*]
  · obtain ⟨rfl, rfl⟩ := sing_some hx'
    exact World.putObj_heap_same hlt
  · refine World.putObj_heap_other ?_
    rintro rfl
    rw [sing_self] at hx'; cases hx'
theorem XK.beginRound [t : Take (rdy l rec) o o1] (h : XK (rcx P f N l rec B R) k e (bsy l rec :: o1) r) : XK (rcx P f N l rec B R) (.beginRound :: k) e o r := fun D ds a w cs ha he hD hm => by
  have hp : (D :: o).Perm (rdy l rec :: D :: o1) := (t.pf.cons D).trans (List.Perm.swap _ _ _)
  obtain ⟨h1, hb⟩ := Sep.turn (y := .loop { rec with state := .busy, pending := none }) (hm.perm hp)
  obtain ⟨fr, w', hE, st⟩ := h D ds a _ cs ha he hD (h1.perm (List.Perm.swap _ _ _))
  refine ⟨fr, w', hE, .head (step_lone_go ?_) st⟩
  have hr := run_beginRound (P := P) hb rfl
  simp [stepG, stepG.exec, stepG.apply, mk, Sem.runT_eq, hr, Result.andThen, Frame.finish]
theorem XK.leave {j : Option Code} (hs : List PHeap) [p : Wk o (bsy l rec :: hs)] (hj : Leaves j k) (hR : R j hs) : XK (rcx P f N l rec B R) k e o r := fun D ds a w cs ha he hD hm =>
  ⟨_, w, ⟨j, k, a, ds, hs, rfl, hj, hR, (p.sep hm.tail).reads (fun g hg => by simp at hg; subst hg; exact List.mem_cons_self)⟩, .refl _ _⟩
theorem step_leave {j : Option Code} {a : Array Value} {ds : List Deferred} {c0 : Frame} {cs : List Frame} {w w' : World} {v : Value} (hj : Leaves j k) (hr : (Instr.endRound l j).run P w = .ok v w') :
    step P (lone (mk f (some l) a ds k) (c0 :: cs) w) = .next (lone (c0.finish v) cs w') := by
  unfold Leaves at hj
  split at hj
  · exact step_lone_go (by simp [stepG, stepG.exec, mk, Sem.runT_eq, hr, doReturn])
  · exact step_lone_go (by simp [stepG, stepG.exec, mk, Sem.runT_eq, hr, doReturn])
  · obtain ⟨rfl, hx⟩ := hj
    exact step_lone_go (by simp [stepG, stepG.exec, mk, hx, Sem.runT_eq, hr, doReturn])
  · exact hj.elim
def pars : List Tmp → List Value → Env → Env
  | p :: ps, v :: vs, e => pars ps vs ((p, some v) :: e)
  | _, _, e => e
theorem pars_rel : ∀ (ps : List Tmp) (vs : List Value) (e : Env) (a : Array Value), (∀ p ∈ ps, p < a.size) → ERel e a →
    ERel (pars ps vs e) ((ps.zip vs).foldl (fun tmps (t, x) => tmps.setIfInBounds t x) a) ∧ ((ps.zip vs).foldl (fun tmps (t, x) => tmps.setIfInBounds t x) a).size = a.size
  | [], vs, e, a, _, he => by cases vs <;> exact ⟨he, rfl⟩
  | p :: ps, [], e, a, _, he => ⟨he, rfl⟩
  | p :: ps, v :: vs, e, a, hp, he => by
    have h1 : ERel ((p, some v) :: e) (a.setIfInBounds p v) := he.put (hp p List.mem_cons_self)
    obtain ⟨h2, h3⟩ := pars_rel ps vs _ (a.setIfInBounds p v) (fun q hq => by simp; exact hp q (List.mem_cons_of_mem _ hq)) h1
    exact ⟨h2, by rw [List.zip_cons_cons, List.foldl_cons]; rw [h3]; simp⟩
/-- A call of yield is a round. -/
theorem VSpec.round {Hr hs0 : List PHeap} {ps : List Tmp} {vs : List Value} {asn bd : Code} {L0 : Nat} {a : Array Value} (hrec : rec = { state := .ready, pending := none, fn := f, tmps := a, params := ps.toArray, assign := asn, body := bd, defers := L0 })
    (hN : a.size = N) (he : ERel e a) (hps : ∀ p ∈ ps, p < N) (hlen : vs.length = ps.length)
    (h : ∀ B, XK (rcx P f N l rec B R) [.code asn, .beginRound, .code bd] (pars ps vs e) (rdy l rec :: hs0) Hr) :
    VSpec P (.func (.yield l) #[] #[]) vs (rdy l rec :: hs0) Hr (fun v hs => ∃ j hs', v = .bool (Option.isNone j) ∧ hs = ovr l rec j :: hs' ∧ R j hs') := fun o r w hs hr => by
  have hb : w.heap[l]? = some (.loop { rec with state := .ready, pending := none }) := hs.so _ List.mem_cons_self l _ (sing_self _ _)
  have hrun : (callv (.func (.yield l) #[] #[]) vs.toArray).run P w =
      .ok (.round l f ((ps.zip vs).foldl (fun tmps (t, x) => tmps.setIfInBounds t x) a) asn bd) w := by
    unfold callv
    have e1 : (Deferred.ofValue (.func (.yield l) #[] #[]) vs.toArray).run P w = .ok { target := .fn (.yield l) #[], args := #[] ++ vs.toArray } w := rfl
    rw [bind_ok e1]
    simp only [invoke, Array.empty_append]
    rw [run_yield hb (by subst hrec; simp [hlen])]
    subst hrec
    simp [List.zip_toArray, List.foldl_toArray]
  unfold NDoes
  rw [hrun]
  intro c0 cs
  obtain ⟨hr1, hr2⟩ := pars_rel ps vs e a (fun p hp => hN ▸ hps p hp) he
  obtain ⟨fr, w', ⟨j, k, a', ds, hs', rfl, hj, hR, hS⟩, st⟩ := h (hole w (rdy l rec :: hs0)) emp [] _ w (c0 :: cs) (hr2.trans hN) hr1 ⟨List.nodup_nil, fun b => by simp [emp]⟩ (frame_in hs hr).empC
  obtain ⟨hS2, hb2⟩ := Sep.turn (y := .loop { rec with state := if j.isNone then .ready else .done, pending := j }) hS
  have hend := run_endRound (P := P) j hb2
  refine ⟨_, _, ⟨_, ⟨j, hs', rfl, rfl, hR⟩, frame_out hs hS2⟩, ?_⟩
  refine Steps.trans ?_ (.one (step_leave (f := f) (a := a') (ds := marks ds) (c0 := c0) (cs := cs) hj hend))
  exact st
end

/-! ### the loop -/
theorem NDoes.mono {P : Program} {s : Sem Next} {w : World} {Q R : Value → World → Prop} (h : NDoes P s w Q) (m : ∀ v w', Q v w' → R v w') : NDoes P s w R := by
  unfold NDoes at *
  split at h
  · exact h.mono fun e w'' ⟨v, he, hv⟩ => ⟨v, he, m _ _ hv⟩
  · exact fun c0 cs => let ⟨v, w', hv, hs⟩ := h c0 cs; ⟨v, w', m _ _ hv, hs⟩
  · exact h.elim
theorem VSpec.mono {P : Program} {y : Value} {vs : List Value} {Hm Hr : List PHeap} {R R' : Value → List PHeap → Prop} (h : VSpec P y vs Hm Hr R) (m : ∀ v hs, R v hs → R' v hs) : VSpec P y vs Hm Hr R' :=
  fun o r w hs hr => (h o r w hs hr).mono fun v _ ⟨hs', hR, hS⟩ => ⟨hs', m v hs' hR, hS⟩
theorem VSpec.joined {P : Program} {y : Value} {vs : List Value} {Hm Hr : List PHeap} {R : Value → List PHeap → Prop} (h : VSpec P y vs Hm Hr R) (hp : PD Hm) :
    VSpec P y vs [join Hm] Hr (fun v hs => ∃ hs', R v hs' ∧ PD hs' ∧ hs = [join hs']) := fun o r w hs hr =>
  (h o r w (Sep.split hp hs) hr).mono fun v _ ⟨hs', hR, hS⟩ => ⟨_, ⟨hs', hR, ⟨hS.left.pw, hS.left.no⟩, rfl⟩, hS.join⟩
/-- An iterator: it yields the items, one after the other, till a call of yield answers false. -/
def It (P : Program) (y : Value) (items : List (List Value)) (Hg : List PHeap) : Prop :=
  ∀ (f : Value) (Hr : List PHeap) (Q : Nat → PHeap → Prop) (X : PHeap → Prop),
    (∀ i, i < items.length → ∀ q, Q i q → VSpec P f (items.getD i []) [q] Hr (fun v hs => ∃ b q', v = .bool b ∧ hs = [q'] ∧ (b = true → Q (i + 1) q') ∧ (b = false → X q'))) →
    ∀ q, Q 0 q → VSpec P y [f] [q] (Hg ++ Hr) (fun _ hs => ∃ q', hs = [q'] ∧ (Q items.length q' ∨ X q'))
theorem step_range {P : Program} {f : FuncId} {a : Array Value} {ds mark : List Deferred} {k : List Item} {cs : List Frame} {w w1 : World} {l : Nat} {x : Operand} {y : Value} {ps : Array Tmp} {asn bd : Code}
    {Post : Value → World → Prop} (he : (Instr.enterLoop f a ps asn bd none).run P w = .ok (l, mark) w1) (hx : evA a x = y) (h : NDoes P (callv y #[.func (.yield l) #[] #[]]) w1 Post) :
    ∃ v w', Post v w' ∧ Steps P (lone (mk f none a ds (.code (.rangeFunc x ps asn bd) :: k)) cs w) (lone (mk f none a (mark ++ ds) (.endRangeFunc l :: k)) cs w') := by
  have hev : ∀ z, (mk f none a (mark ++ ds) (.inRangeFunc l :: k)).eval z = evA a z := fun z => eval_mk z
  have hcall : (do
      let d ← resolve (mk f none a (mark ++ ds) (.inRangeFunc l :: k)).eval { callee := .value x, args := #[.const (.func (.yield l) #[] #[])], argTypes := #[] } 0
      invoke d.target d.args : Sem Next) = callv y #[.func (.yield l) #[] #[]] := by
    simp only [resolve, hev, hx, callv]
    simp [eval_mk, evA]
  simp only [mk] at hcall
  have hfin : ∀ v, (mk f none a (mark ++ ds) (.inRangeFunc l :: k)).finish v = mk f none a (mark ++ ds) (.endRangeFunc l :: k) := fun v => by simp [Frame.finish, mk]
  unfold NDoes at h
  split at h
  · rename_i g args w' hr
    obtain ⟨e, w'', fr, ⟨v, rfl, hp⟩, hsteps, _, hleave⟩ := h (mk f none a (mark ++ ds) (.inRangeFunc l :: k) :: cs)
    have henter : step P (lone (mk f none a ds (.code (.rangeFunc x ps asn bd) :: k)) cs w) =
        .next (lone (Frame.enter P g args .normal) (mk f none a (mark ++ ds) (.inRangeFunc l :: k) :: cs) w') :=
      step_lone_go (by simp [stepG, stepG.exec, stepG.apply, mk, Sem.runT_eq, he, hcall, hr, GStep.bare_after])
    refine ⟨v, w'', hp, .head henter (Steps.trans hsteps ?_)⟩
    rw [← hfin v]; exact finish_returns hleave
  · rename_i l' g tmps asn' bd' w' hr
    obtain ⟨v, w'', hp, hs⟩ := h (mk f none a (mark ++ ds) (.inRangeFunc l :: k)) cs
    have henter : step P (lone (mk f none a ds (.code (.rangeFunc x ps asn bd) :: k)) cs w) =
        .next (lone (Frame.round l' g tmps asn' bd' .normal) (mk f none a (mark ++ ds) (.inRangeFunc l :: k) :: cs) w') :=
      step_lone_go (by simp [stepG, stepG.exec, stepG.apply, mk, Sem.runT_eq, he, hcall, hr, GStep.bare_after])
    refine ⟨v, w'', hp, .head henter ?_⟩
    rw [← hfin v]; exact hs
  · exact h.elim
theorem step_endRange {P : Program} {f : FuncId} {a : Array Value} {ds : List Deferred} {k : List Item} {cs : List Frame} {w w1 : World} {l : Nat} {j : Option Code}
    (h : (Instr.endLoop l).run P w = .ok j w1) : step P (lone (mk f none a ds (.endRangeFunc l :: k)) cs w) = .next (lone (mk f none a ds ((j.map Item.code).toList ++ k)) cs w1) :=
  step_lone_go (by simp [stepG, stepG.exec, mk, Sem.runT_eq, h, GStep.bare_after])
def RoundR {X : Type} (oc : X → List PHeap) (I : X → Prop) (J : Code → X → Prop) : Option Code → List PHeap → Prop
  | none, hs => ∃ x, I x ∧ hs = oc x
  | some j, hs => ∃ x, J j x ∧ hs = oc x
/-- A loop over a function in a frame that is no round. 'I i x': ahead of item i; 'J j x': a round has left the loop by the jump j. -/
theorem XK.range {P : Program} {f : FuncId} {N : Nat} {B : PHeap} {E : Frame → World → Prop} {X : Type} {k : List Item} {e : Env} {o ok r : List PHeap} {x : Operand} {y : Value} {ps : List Tmp} {asn bd : Code} {Hg : List PHeap} (items : List (List Value))
    (oc : X → List PHeap) (I : Nat → X → Prop) (J : Code → X → Prop) (x0 : X) (o0 : List PHeap) [rst : Rest o0 o ok] (ho0 : oc x0 = o0) (h0 : I 0 x0) (hx : ev e x = some y)
    (hit : It P y items Hg) [al : AllIn Hg ok (B :: r)] (hps : ps.all (fun p => Nat.blt p N) = true) (hlen : ∀ i, i < items.length → (items.getD i []).length = ps.length)
    (round : ∀ l rec B' i x, i < items.length → I i x → XK (rcx P f N l rec B' (RoundR oc (I (i + 1)) J)) [.code asn, .beginRound, .code bd] (pars ps (items.getD i []) e) (rdy l rec :: oc x) (ok ++ r))
    (cont : ∀ x, I items.length x → XK ⟨P, f, none, N, B, E⟩ k e (oc x ++ ok) r)
    (jump : ∀ j x, J j x → XK ⟨P, f, none, N, B, E⟩ (.code j :: k) e (oc x ++ ok) r) :
    XK ⟨P, f, none, N, B, E⟩ (.code (.rangeFunc x ps.toArray asn bd) :: k) e o r := fun D ds a w cs ha he hD hm => by
  have hm1 : Sep (D :: (o0 ++ ok)) (B :: r) w := rst.wk.sepD hm
  let rec' : Loop := { state := .ready, pending := none, fn := f, tmps := a, params := ps.toArray, assign := asn, body := bd, defers := w.heap.size }
  let l := w.heap.size + 1
  let w1 := (w.alloc (.deferred (some []))).alloc (.loop rec')
  have henter : (Instr.enterLoop f a ps.toArray asn bd none).run P w = .ok (l, [{ target := .collected w.heap.size, args := #[] }]) w1 := run_enterLoop_outer f a ps.toArray asn bd
  have hs1 : Sep (rdy l rec' :: sing w.heap.size (.deferred (some [])) :: D :: (o0 ++ ok)) (B :: r) w1 := by
    have := (hm1.push (.deferred (some []))).push (.loop rec')
    simp only [Array.size_push] at this
    exact this
  let D' := Go.X.join [sing w.heap.size (.deferred (some [])), D]
  have hs2 : Sep (D' :: rdy l rec' :: (o0 ++ ok)) (B :: r) w1 := by
    refine Sep.join (hs := [sing w.heap.size (.deferred (some [])), D]) (hs1.perm ?_)
    exact (List.Perm.swap _ _ _).trans ((List.Perm.swap _ _ _).cons _)
  have hD' : Marked D' (w.heap.size :: ds) := by
    refine ⟨List.nodup_cons.2 ⟨fun hmem => ?_, hD.1⟩, fun b => ?_⟩
    · have := sub_lt (hm.so D List.mem_cons_self) (b := w.heap.size) (o := .deferred (some [])) (by rw [hD.2, if_pos hmem])
      omega
    · simp only [D', Go.X.join, sing, emp, Option.or_none, hD.2 b, List.mem_cons]
      by_cases hb : b = w.heap.size
      · simp [hb]
      · simp [hb]
  have hs3 : Sep (Go.X.join (rdy l rec' :: o0) :: D' :: ok) (B :: r) w1 := Sep.join (hs := rdy l rec' :: o0) (hs2.perm (by
    simp only [List.cons_append]
    exact (List.Perm.swap _ _ _).trans (List.perm_middle.symm.cons _)))
  have hp0 : PD (rdy l rec' :: oc x0) := by
    rw [ho0]
    have hsub : (rdy l rec' :: o0).Sublist (rdy l rec' :: (o0 ++ ok)) := List.Sublist.cons_cons _ (List.sublist_append_left _ _)
    exact ⟨hs2.tail.pw.sublist hsub, fun h hh => hs2.tail.no h (hsub.mem hh)⟩
  have hpsN : ∀ p ∈ ps, p < N := fun p hp => by
    have := List.all_eq_true.1 hps p hp
    rwa [Nat.blt_eq] at this
  have hyield : ∀ i, i < items.length → ∀ q, (∃ x, I i x ∧ PD (rdy l rec' :: oc x) ∧ q = Go.X.join (rdy l rec' :: oc x)) →
      VSpec P (.func (.yield l) #[] #[]) (items.getD i []) [q] (ok ++ r) (fun v hs => ∃ b q', v = .bool b ∧ hs = [q'] ∧
        (b = true → ∃ x, I (i + 1) x ∧ PD (rdy l rec' :: oc x) ∧ q' = Go.X.join (rdy l rec' :: oc x)) ∧
        (b = false → ∃ j x, J j x ∧ PD (ovr l rec' (some j) :: oc x) ∧ q' = Go.X.join (ovr l rec' (some j) :: oc x))) := by
    rintro i hi q ⟨x, hI, hp, rfl⟩
    refine ((VSpec.round (rec := rec') (N := N) (e := e) rfl ha he hpsN (hlen i hi) (fun B' => round l rec' B' i x hi hI)).joined hp).mono ?_
    rintro v hs ⟨hs', ⟨j, hs'', rfl, rfl, hR⟩, hpw, rfl⟩
    refine ⟨_, _, rfl, rfl, ?_, ?_⟩
    · intro hj
      cases j with
      | some j => cases hj
      | none =>
        obtain ⟨x', h1, rfl⟩ := hR
        exact ⟨x', h1, hpw, rfl⟩
    · intro hj
      cases j with
      | none => cases hj
      | some j =>
        obtain ⟨x', h1, rfl⟩ := hR
        exact ⟨j, x', h1, hpw, rfl⟩
  have hN := hit _ (ok ++ r) _ _ hyield (Go.X.join (rdy l rec' :: o0)) ⟨x0, h0, hp0, by rw [ho0]⟩ (D' :: ok) (B :: r) w1 hs3 (fun h hh => by
    rcases List.mem_append.1 hh with hh | hh
    · exact orMap (al.pf h hh) (List.mem_cons_of_mem _) id
    · rcases List.mem_append.1 hh with hh | hh
      · exact .inl (List.mem_cons_of_mem _ hh)
      · exact .inr (List.mem_cons_of_mem _ hh))
  obtain ⟨v, w', ⟨hs', ⟨q', rfl, hq⟩, hS⟩, st⟩ := step_range (ds := marks ds) (k := k) (cs := cs) henter (ev_rel he hx) hN
  rcases hq with ⟨x', hI, hpw, rfl⟩ | ⟨j, x', hJ, hpw, rfl⟩
  · obtain ⟨hS2, hb⟩ := Sep.turn (y := .loop { rec' with state := .exhausted, pending := none }) (Sep.split hpw hS)
    obtain ⟨fr, w2, hE, st2⟩ := cont x' hI D' (w.heap.size :: ds) a _ cs ha he hD' (hS2.tail.perm List.perm_middle)
    exact ⟨fr, w2, hE, Steps.trans st (.head (step_endRange (run_endLoop hb (by simp))) st2)⟩
  · obtain ⟨hS2, hb⟩ := Sep.turn (y := .loop { rec' with state := .exhausted, pending := some j }) (Sep.split hpw hS)
    obtain ⟨fr, w2, hE, st2⟩ := jump j x' hJ D' (w.heap.size :: ds) a _ cs ha he hD' (hS2.tail.perm List.perm_middle)
    exact ⟨fr, w2, hE, Steps.trans st (.head (step_endRange (run_endLoop hb (by simp))) st2)⟩
end Go.X

/- Bits of unsigned numbers; copies between slices. No condition. -/
set_option linter.unusedSimpArgs false
set_option linter.unusedVariables false
namespace Go.X
section
variable {P : Program} {ops : Array Oper} {e : Env} {o r : List PHeap} {d : Option Tmp} {ty : TypeId} {pos : String} {aft : Array Edge}
theorem wrapu64 {n : Int} (h : 0 ≤ n ∧ n < 18446744073709551616) : IntKind.u64.wrap n = n := by
  have : IntKind.u64.wrap n = n % 18446744073709551616 := rfl
  rw [this]; omega
theorem Q.addU {t t2 : TypeId} {x y : Operand} {m n : Int} (hx : ev e x = some (.int .u64 m)) (hy : ev e y = some (.int .u64 n)) (h : 0 ≤ m + n ∧ m + n < 18446744073709551616) :
    Quiet P ops ⟨d, .binOp .add t x y t2, ty, pos, aft, none⟩ e o r (.int .u64 (m + n)) := by
  have := Q.addW (P := P) (ops := ops) (o := o) (r := r) (d := d) (ty := ty) (pos := pos) (aft := aft) (t := t) (t2 := t2) hx hy
  rwa [wrapu64 h] at this
theorem Q.mulU {t t2 : TypeId} {x y : Operand} {m n : Int} (hx : ev e x = some (.int .u64 m)) (hy : ev e y = some (.int .u64 n)) (h : 0 ≤ m * n ∧ m * n < 18446744073709551616) :
    Quiet P ops ⟨d, .binOp .mul t x y t2, ty, pos, aft, none⟩ e o r (.int .u64 (m * n)) := by
  have := Q.mulW (P := P) (ops := ops) (o := o) (r := r) (d := d) (ty := ty) (pos := pos) (aft := aft) (t := t) (t2 := t2) hx hy
  rwa [wrapu64 h] at this
/-- & with 2^32 - 1 -/
theorem Q.mask32 {t t2 : TypeId} {x y : Operand} {m : Int} (hx : ev e x = some (.int .u64 m)) (hy : ev e y = some (.int .u64 4294967295)) (h : 0 ≤ m ∧ m < 18446744073709551616) :
    Quiet P ops ⟨d, .binOp .and t x y t2, ty, pos, aft, none⟩ e o r (.int .u64 (m % 4294967296)) := Q.bin hx hy fun w => by
  obtain ⟨n, rfl⟩ := Int.eq_ofNat_of_zero_le h.1
  have hn : n < 18446744073709551616 := by omega
  have e1 : binOp .and t (.int .u64 (n : Int)) (.int .u64 4294967295) = Op.intBits .and .u64 (n : Int) 4294967295 := by simp [binOp]
  rw [e1]
  have e2 : (BitVec.ofInt 64 (n : Int) &&& BitVec.ofInt 64 4294967295).toNat = n % 4294967296 := by
    have e3 : BitVec.ofInt 64 (4294967295 : Int) = BitVec.ofNat 64 (2 ^ 32 - 1) := by decide
    rw [e3, BitVec.ofInt_natCast, BitVec.toNat_and, BitVec.toNat_ofNat, BitVec.toNat_ofNat, Nat.mod_eq_of_lt hn, Nat.mod_eq_of_lt (show 2 ^ 32 - 1 < 2 ^ 64 by decide), Nat.and_two_pow_sub_one_eq_mod]
  have e4 : Op.intBits .and .u64 (n : Int) 4294967295 = (pure (.int .u64 (IntKind.u64.wrap ((BitVec.ofInt 64 (n : Int) &&& BitVec.ofInt 64 4294967295).toNat : Int))) : Sem Value) := rfl
  rw [e4, e2, wrapu64 (by omega)]
  simp
theorem Q.shr32 {t t2 : TypeId} {x y : Operand} {k' : IntKind} {m : Int} (hx : ev e x = some (.int .u64 m)) (hy : ev e y = some (.int k' 32)) :
    Quiet P ops ⟨d, .binOp .shr t x y t2, ty, pos, aft, none⟩ e o r (.int .u64 (m / 4294967296)) := Q.bin hx hy fun w => by
  have e1 : binOp .shr t (.int .u64 m) (.int k' 32) = Op.shift .shr .u64 m k' 32 := by simp [binOp]
  rw [e1]
  have e2 : Op.shift .shr .u64 m k' 32 = (pure (.int .u64 (m.fdiv (2 ^ 32))) : Sem Value) := rfl
  rw [e2, Int.fdiv_eq_ediv_of_nonneg _ (by decide)]
  rfl
end

/-! ### copies -/
theorem flat_take {α : Type} {enc : α → List Value} {sz : Nat} (he : ∀ x, (enc x).length = sz) : ∀ (xs : List α) (i : Nat), (xs.take i).flatMap enc = (xs.flatMap enc).take (i * sz)
  | [], i => by simp
  | x :: xs, 0 => by simp
  | x :: xs, i + 1 => by
    rw [List.take_succ_cons, List.flatMap_cons, List.flatMap_cons, flat_take he xs i, Nat.add_mul, Nat.one_mul, List.take_append, he]
    rw [List.take_of_length_le (l := enc x) (by rw [he]; omega), show i * sz + sz - sz = i * sz by omega]
theorem flat_drop {α : Type} {enc : α → List Value} {sz : Nat} (he : ∀ x, (enc x).length = sz) : ∀ (xs : List α) (i : Nat), (xs.drop i).flatMap enc = (xs.flatMap enc).drop (i * sz)
  | [], i => by simp
  | x :: xs, 0 => by simp
  | x :: xs, i + 1 => by
    rw [List.drop_succ_cons, List.flatMap_cons, flat_drop he xs i, Nat.add_mul, Nat.one_mul, List.drop_append, he]
    rw [List.drop_of_length_le (l := enc x) (by rw [he]; omega), show i * sz + sz - sz = i * sz by omega, List.nil_append]
def tailv (v : Value) (sz i : Nat) : Value := match v with
  | .slice ad n c => .slice (if c = i then ad else ad.map (·.add (i * sz))) (n - i) (c - i)
  | v => v
def splice {α : Type} (xs ys : List α) (i : Nat) : List α := xs.take i ++ ys.take (min ys.length (xs.length - i)) ++ xs.drop (i + min ys.length (xs.length - i))
section
variable {P : Program} {ops : Array Oper} {e : Env} {o r : List PHeap} {d : Option Tmp} {ty : TypeId} {pos : String} {aft : Array Edge}
variable {α : Type} {enc : α → List Value} {sz : Nat} {h : PHeap} {xs : List α} {v : Value}
theorem tailv_zero {T : TypeId} [s : OArr v enc sz T h xs] : tailv v sz 0 = v := by
  obtain ⟨he, hm, ⟨rfl, rfl, rfl⟩ | ⟨b, c, cs, rfl, rfl, hle, hlen, ht⟩⟩ := s.pf
  · rfl
  · simp only [tailv, Nat.zero_mul, Nat.sub_zero, Option.map_some, add_none]
    split <;> simp
theorem Q.tail {t el : TypeId} [u : Und P t (.slice el)] [z : TySize P el sz] {x : Operand} {lo : Option Operand} {i : Nat} (hx : ev e x = some v) [s : Arr v enc sz h xs] (hlo : Bd e 0 lo i) (hi : i ≤ xs.length) :
    Quiet P ops ⟨d, .slice t x lo none none, ty, pos, aft, none⟩ e o r (tailv v sz i) := .mk fun a w he _ => by
  obtain ⟨henc, hm, ad, c, rfl, hle, hnn, hc⟩ := s.pf
  have hrun : (Instr.sliceAt t (.slice ad xs.length c) (lo.map (evA a)) none none).run P w =
      .ok (.slice (if c = i then ad else ad.map (·.add (i * sz))) (xs.length - i) (c - i)) w := by
    unfold Instr.sliceAt
    rw [bind_ok (u.pf w)]
    simp only
    unfold Instr.slice
    rw [bind_ok (u.pf w)]
    simp only
    have hb : (Instr.sliceBounds true xs.length c (lo.map (evA a)) none none).run P w = .ok (i, xs.length, c) w := by
      unfold Instr.sliceBounds
      simp only [pure_bind]
      rcases Bd.run (P := P) he hlo xs.length .sliceB (by omega) w with ⟨h3, h4⟩ | ⟨v3, h3, h4⟩
      · rw [h3, h4]; rfl
      · rw [h3]
        simp only [Option.isSome_none, Bool.false_eq_true, if_false]
        rw [bind_ok h4]; rfl
    rw [bind_ok hb]
    simp only
    rw [bind_ok (z.pf w)]
    rfl
  simp only [execOp, ev_rel he hx, Option.map_none]
  exact run_val hrun
theorem run_copy {t0 t1 ty el : TypeId} [u : Und P t0 (.slice el)] [z : TySize P el sz] {v2 : Value} {h2 : PHeap} {ys : List α} [s2 : Arr v2 enc sz h2 ys] {w w' : World} (hsub2 : sub h2 w) {ad : Option Addr} {m c : Nat}
    (hst : ((match ad with | some a => storeCells a ((ys.take (min ys.length m)).flatMap enc) 0 | none => pure () : Sem Unit)).run P w = .ok () w') :
    (Builtin.copy_ #[t0, t1] ty #[.slice ad m c, v2]).run P w = .ok (.int .i64 ((min ys.length m : Nat) : Int)) w' := by
  obtain ⟨henc2, hm2, a2, c2, hv2, hle2, hnn2, hc2⟩ := s2.pf
  have hlen2 : (Builtin.lenOf v2).run P w = .ok ys.length w := by rw [hv2]; rfl
  have hcells : (Builtin.firstCells sz (min ys.length m) v2).run P w = .ok ((ys.take (min ys.length m)).flatMap enc).toArray w := s2.cells hsub2 _ (by omega)
  unfold Builtin.copy_
  simp only [List.getElem?_toArray, List.getElem?_cons_zero, List.getElem?_cons_succ]
  rw [bind_ok (u.pf w)]
  simp only
  rw [bind_ok hlen2, bind_ok (z.pf w)]
  have hcells' : (Builtin.firstCells sz (Nat.min ys.length m) v2).run P w = .ok ((ys.take (min ys.length m)).flatMap enc).toArray w := hcells
  rw [bind_ok hcells']
  cases ad with
  | none =>
    simp only at hst ⊢
    have : w' = w := by
      have h1 : (pure () : Sem Unit).run P w = .ok () w := rfl
      rw [h1] at hst
      injection hst with h2 h3
      exact h3.symm
    subst this
    rfl
  | some a =>
    simp only at hst ⊢
    rw [bind_ok hst]
    rfl
theorem Stp0.copy {t0 t1 el T : TypeId} [u : Und P t0 (.slice el)] [z : TySize P el sz] {x y : Operand} {vd v2 : Value} {h2 : PHeap} {ys : List α} {i : Nat} {o1 : List PHeap} (hx : ev e x = some vd) (hd : vd = tailv v sz i) (hy : ev e y = some v2)
    [s : OArr v enc sz T h xs] [tk : Take h o o1] [s2 : Arr v2 enc sz h2 ys] [m : InM h2 o r] (hi : i ≤ xs.length) :
    Stp0 P ops ⟨d, .call ⟨.builtin .copy, #[x, y], #[t0, t1]⟩, ty, pos, aft, none⟩ e o r (fun v' o2 => ∃ h', v' = .int .i64 ((min ys.length (xs.length - i) : Nat) : Int) ∧ OArr v enc sz T h' (splice xs ys i) ∧ o2 = h' :: o1) := fun a w he hs => by
  subst hd
  have hs1 := hs.perm tk.pf
  have hsub2 : sub h2 w := m.pf.elim (hs.so _) (hs.sr _)
  have hx' := ev_rel he hx
  have hy' := ev_rel he hy
  obtain ⟨henc2, hm2, a2, c2, hv2, hle2, hnn2, hc2⟩ := s2.pf
  have hexec : ∀ w', (Builtin.copy_ #[t0, t1] ty #[tailv v sz i, v2]).run P w = .ok (.int .i64 ((min ys.length (xs.length - i) : Nat) : Int)) w' →
      (execOp (evA a) (⟨d, .call ⟨.builtin .copy, #[x, y], #[t0, t1]⟩, ty, pos, aft, none⟩ : Oper)).run P w = .ok (.value (.int .i64 ((min ys.length (xs.length - i) : Nat) : Int))) w' := by
    intro w' hw'
    simp only [execOp, resolve, List.map_toArray, List.map_cons, List.map_nil, hx', hy']
    exact run_val hw'
  obtain ⟨henc, hm, ⟨rfl, rfl, rfl⟩ | ⟨b, c, cs, rfl, rfl, hle, hlen, ht⟩⟩ := s.pf
  · unfold Does
    rw [if_pos (by simp [Region.wanted]), hexec w (by
      have hi0 : i = 0 := by simpa using hi
      subst hi0
      have := run_copy (t0 := t0) (t1 := t1) (ty := ty) (el := el) (s2 := s2) (w := w) (w' := w) (P := P) hsub2 (ad := none) (m := 0) (c := 0) rfl
      simpa [tailv] using this)]
    refine ⟨emp :: o1, ⟨emp, rfl, ?_, rfl⟩, hs1⟩
    simp [splice]
    exact s
  · have hn' : min ys.length (xs.length - i) ≤ xs.length - i := Nat.min_le_right _ _
    have hny : min ys.length (xs.length - i) ≤ ys.length := Nat.min_le_left _ _
    generalize hne : min ys.length (xs.length - i) = n' at *
    have hZ : ((ys.take n').flatMap enc).length = n' * sz := by rw [flat_len henc, List.length_take, Nat.min_eq_left hny]
    have hmul1 : i * sz + n' * sz ≤ xs.length * sz := by rw [← Nat.add_mul]; exact Nat.mul_le_mul_right _ (by omega)
    have hmul2 : xs.length * sz ≤ c * sz := Nat.mul_le_mul_right _ hle
    have hh : w.heap[b]? = some (.cells cs.toArray T (0, 0)) := hs1.so _ List.mem_cons_self b _ (sing_self _ _)
    have hones : ∀ v ∈ (ys.take n').flatMap enc, one v = true := fun v hv => by
      obtain ⟨y, hy1, hy2⟩ := List.mem_flatMap.1 hv
      exact hm2.2 y (List.mem_of_mem_take hy1) v hy2
    obtain ⟨w', h1, h2, h3, h4⟩ := run_storeCells (P := P) (b := b) (k := i * sz) (T := T) ((ys.take n').flatMap enc) 0 w cs hones hh (by omega)
    have hst : ((match (if c = i then some (⟨b, 0, none⟩ : Addr) else (some (⟨b, 0, none⟩ : Addr)).map (·.add (i * sz))) with | some a => storeCells a ((ys.take n').flatMap enc) 0 | none => pure () : Sem Unit)).run P w = .ok () w' := by
      by_cases hci : c = i
      · rw [if_pos hci]
        have hn0 : n' = 0 := by omega
        subst hn0
        simp only [List.take_zero, List.flatMap_nil] at h1 ⊢
        exact h1
      · rw [if_neg hci]
        simp only [Option.map_some, add_none, Nat.zero_add]
        exact h1
    unfold Does
    rw [if_pos (by simp [Region.wanted]), hexec w' (by
      have := run_copy (t0 := t0) (t1 := t1) (ty := ty) (el := el) (s2 := s2) (w := w) (w' := w') (P := P) hsub2 (ad := (if c = i then some (⟨b, 0, none⟩ : Addr) else (some (⟨b, 0, none⟩ : Addr)).map (·.add (i * sz)))) (m := xs.length - i) (c := c - i) (by rw [hne]; exact hst)
      rw [hne] at this
      exact this)]
    simp only [Nat.add_zero, hZ] at h2
    refine ⟨blk b (cs.take (i * sz) ++ (ys.take n').flatMap enc ++ cs.drop (i * sz + n' * sz)) T :: o1, ⟨_, rfl, ?_, rfl⟩, Sep.swap hs1 ?_ ?_ ?_ rfl h4⟩
    · have hlen' : (splice xs ys i).length = xs.length := by
        unfold splice; rw [hne]; simp only [List.length_append, List.length_take, List.length_drop]; omega
      refine ⟨henc, ⟨by rw [hlen']; exact hm.1, fun y hy cc hcc => ?_⟩, .inr ⟨b, c, _, by rw [hlen'], rfl, by rw [hlen']; exact hle, ?_, ?_⟩⟩
      · unfold splice at hy
        rcases List.mem_append.1 hy with hy | hy
        · rcases List.mem_append.1 hy with hy | hy
          · exact hm.2 y (List.mem_of_mem_take hy) cc hcc
          · exact hm2.2 y (List.mem_of_mem_take hy) cc hcc
        · exact hm.2 y (List.mem_of_mem_drop hy) cc hcc
      · simp only [List.length_append, List.length_take, List.length_drop, hZ]; omega
      · rw [hlen']
        unfold splice
        rw [hne, List.flatMap_append, List.flatMap_append, flat_take henc xs, flat_drop henc xs, ← ht, Nat.add_mul]
        rw [List.take_append, List.take_append]
        simp only [List.length_append, List.length_take, hZ]
        rw [List.take_of_length_le (l := cs.take (i * sz)) (by rw [List.length_take]; omega), List.take_of_length_le (l := (ys.take n').flatMap enc) (by rw [hZ]; omega)]
        congr 1
        · congr 1
          rw [List.take_take, Nat.min_eq_left (by omega)]
        · rw [List.drop_take]
          congr 1
          omega
    · exact fun x hx => none_blk (blk_none hx)
    · intro x ob hb
      obtain ⟨rfl, rfl⟩ := sing_some hb
      exact h2
    · exact fun x hx => h3 x (blk_none hx)
theorem Stp.copy {t0 t1 el T : TypeId} [u : Und P t0 (.slice el)] [z : TySize P el sz] {x y : Operand} {vd v2 : Value} {h2 : PHeap} {ys : List α} {i : Nat} {o1 : List PHeap} (hx : ev e x = some vd) (hd : vd = tailv v sz i) (hy : ev e y = some v2)
    [s : OArr v enc sz T h xs] [tk : Take h o o1] [s2 : Arr v2 enc sz h2 ys] [m : InM h2 o r] (hi : i ≤ xs.length) :
    Stp P ops ⟨d, .call ⟨.builtin .copy, #[x, y], #[t0, t1]⟩, ty, pos, aft, none⟩ e o r (fun v' o2 => ∃ h', v' = .int .i64 ((min ys.length (xs.length - i) : Nat) : Int) ∧ OArr v enc sz T h' (splice xs ys i) ∧ o2 = h' :: o1) := fun D a w he hs =>
  (Stp0.copy (tk := tk.more D) (m := m.more D) hx hd hy hi a w he hs).mono fun v w' ⟨o2, ⟨h', h1, h2, h3⟩, hs'⟩ => ⟨o2, ⟨h' :: o1, ⟨h', h1, h2, rfl⟩, by rw [h3]; exact List.Perm.swap _ _ _⟩, hs'⟩
end
section
variable {c : Cx} {ops : Array Oper} {rest : List Oper} {k : List Item} {e : Env} {o r : List PHeap} {d : Nat} {ty : TypeId} {pos : String} {aft : Array Edge}
variable {α : Type} {enc : α → List Value} {sz : Nat} {h : PHeap} {xs : List α} {v : Value}
theorem XO.copy {t0 t1 el T : TypeId} [u : Und c.P t0 (.slice el)] [z : TySize c.P el sz] {x y : Operand} {vd v2 : Value} {h2 : PHeap} {ys : List α} {i : Nat} {o1 : List PHeap} (hx : ev e x = some vd) (hd : vd = tailv v sz i) (hy : ev e y = some v2)
    [s : OArr v enc sz T h xs] [tk : Take h o o1] [s2 : Arr v2 enc sz h2 ys] [m : InM h2 o (c.B :: r)] (hi : i ≤ xs.length)
    (hn : ∀ h', OArr v enc sz T h' (splice xs ys i) → XO c ops rest k ((d, some (.int .i64 ((min ys.length (xs.length - i) : Nat) : Int))) :: e) (h' :: o1) r) :
    XO c ops (⟨some d, .call ⟨.builtin .copy, #[x, y], #[t0, t1]⟩, ty, pos, aft, none⟩ :: rest) k e o r :=
  XO.s (Stp.copy hx hd hy hi) fun v' o2 ⟨h', h1, h2, h3⟩ => by subst h1 h3; exact hn h' h2
variable {fl : List Nat} {f : List PHeap} {i0 : Nat} {bb : Bool} {tt uu : Plan}
theorem XT.copy {t0 t1 el T : TypeId} [u : Und c.P t0 (.slice el)] [z : TySize c.P el sz] {x y : Operand} {vd v2 : Value} {h2 : PHeap} {ys : List α} {i : Nat} {o1 : List PHeap}
    (hi0 : ops[i0]? = some ⟨some d, .call ⟨.builtin .copy, #[x, y], #[t0, t1]⟩, ty, pos, aft, none⟩) (hok : okOper c.N ⟨some d, .call ⟨.builtin .copy, #[x, y], #[t0, t1]⟩, ty, pos, aft, none⟩ = true)
    (hx : ev e x = some vd) (hd : vd = tailv v sz i) (hy : ev e y = some v2)
    [s : OArr v enc sz T h xs] [tk : Take h o o1] [s2 : Arr v2 enc sz h2 ys] [m : InM h2 o (c.B :: r)] (hi : i ≤ xs.length)
    (hn : ∀ h', OArr v enc sz T h' (splice xs ys i) → Keeps bb f (h' :: o1) ∧ XT c ops fl f k r tt ((d, some (.int .i64 ((min ys.length (xs.length - i) : Nat) : Int))) :: e) (h' :: o1)) (hu : XT c ops fl f k r uu e o) :
    XT c ops fl f k r (.br i0 bb tt uu) e o :=
  XT.s hi0 hok (Stp.copy hx hd hy hi) (fun v' o2 ⟨h', h1, h2, h3⟩ => by subst h1 h3; exact hn h' h2) hu
end
def cutv (v : Value) (sz i j : Nat) : Value := match v with
  | .slice ad n c => .slice (if c = i then ad else ad.map (·.add (i * sz))) (j - i) (c - i)
  | v => v
section
variable {P : Program} {ops : Array Oper} {e : Env} {o r : List PHeap} {d : Option Tmp} {ty : TypeId} {pos : String} {aft : Array Edge}
variable {α : Type} {enc : α → List Value} {sz : Nat} {h : PHeap} {xs : List α} {v : Value}
theorem Arr.cut (s : Arr v enc sz h xs) {i j : Nat} (hij : i ≤ j) (hj : j ≤ xs.length) : Arr (cutv v sz i j) enc sz h ((xs.drop i).take (j - i)) := ⟨by
  obtain ⟨henc, hm, ad, c, rfl, hle, hnn, hc⟩ := s.pf
  have hl : ((xs.drop i).take (j - i)).length = j - i := by simp; omega
  refine ⟨henc, ⟨by omega, fun y hy cc hcc => hm.2 y (List.mem_of_mem_drop (List.mem_of_mem_take hy)) cc hcc⟩, (if c = i then ad else ad.map (·.add (i * sz))), c - i, by rw [hl]; rfl, by omega, ?_, fun hp => ?_⟩
  · intro hnone
    split at hnone
    · rw [hnn hnone]; omega
    · cases ad with
      | none => rw [hnn rfl]; omega
      | some a => simp at hnone
  · obtain ⟨b, k, cs, T, fr, rfl, hb, hcs⟩ := hc (by omega)
    refine ⟨b, k + i * sz, cs, T, fr, ?_, hb, fun m n hm' hn => ?_⟩
    · rw [if_neg (by omega)]
      simp [add_none]
    · have := hcs (i + m) n (by omega) hn
      rw [Nat.add_mul, ← Nat.add_assoc] at this
      rw [this]
      congr 1
      rw [List.getElem?_take, if_pos (by omega), List.getElem?_drop]⟩
theorem Q.cut {t el : TypeId} [u : Und P t (.slice el)] [z : TySize P el sz] {x : Operand} {lo hi : Option Operand} {i j : Nat} (hx : ev e x = some v) [s : Arr v enc sz h xs] (hlo : Bd e 0 lo i) (hhi : Bd e xs.length hi j) (hij : i ≤ j) (hj : j ≤ xs.length) :
    Quiet P ops ⟨d, .slice t x lo hi none, ty, pos, aft, none⟩ e o r (cutv v sz i j) := .mk fun a w he _ => by
  obtain ⟨henc, hm, ad, c, rfl, hle, hnn, hc⟩ := s.pf
  have hrun : (Instr.sliceAt t (.slice ad xs.length c) (lo.map (evA a)) (hi.map (evA a)) none).run P w =
      .ok (.slice (if c = i then ad else ad.map (·.add (i * sz))) (j - i) (c - i)) w := by
    unfold Instr.sliceAt
    rw [bind_ok (u.pf w)]
    simp only
    unfold Instr.slice
    rw [bind_ok (u.pf w)]
    simp only
    have hb : (Instr.sliceBounds true xs.length c (lo.map (evA a)) (hi.map (evA a)) none).run P w = .ok (i, j, c) w := by
      unfold Instr.sliceBounds
      simp only [pure_bind]
      rcases Bd.run (P := P) he hhi c .sliceAcap (by omega) w with ⟨h1, h2⟩ | ⟨v1, h1, h2⟩
      · rw [h1, h2]
        simp only [pure_bind]
        rcases Bd.run (P := P) he hlo xs.length .sliceB (by omega) w with ⟨h3, h4⟩ | ⟨v3, h3, h4⟩
        · rw [h3, h4]; rfl
        · rw [h3]
          simp only [Option.isSome_none, Bool.false_eq_true, if_false]
          rw [bind_ok h4]; rfl
      · rw [h1]
        simp only [if_true]
        rw [bind_ok h2]
        rcases Bd.run (P := P) he hlo j .sliceB hij w with ⟨h3, h4⟩ | ⟨v3, h3, h4⟩
        · rw [h3, h4]; rfl
        · rw [h3]
          simp only [Option.isSome_none, Bool.false_eq_true, if_false]
          rw [bind_ok h4]; rfl
    rw [bind_ok hb]
    simp only
    rw [bind_ok (z.pf w)]
    rfl
  simp only [execOp, ev_rel he hx, Option.map_none]
  exact run_val hrun
end
end Go.X

/- Repeated lists. No condition. -/
set_option linter.unusedVariables false
namespace Go.X
theorem repeat_first {α : Type} (x z : α) (n : Nat) : splice (List.replicate n z) [x] 0 = List.replicate (min 1 n) x ++ List.replicate (n - min 1 n) z := by
  unfold splice
  cases n with
  | zero => simp
  | succ n => simp [List.replicate_succ, show min 1 (n + 1) = 1 by omega]
theorem repeat_step {α : Type} (x z : α) {m n : Nat} (h : m ≤ n) :
    splice (List.replicate m x ++ List.replicate (n - m) z) (((List.replicate m x ++ List.replicate (n - m) z).drop 0).take (m - 0)) m =
      List.replicate (m + min m (n - m)) x ++ List.replicate (n - (m + min m (n - m))) z := by
  unfold splice
  have e1 : (List.replicate m x ++ List.replicate (n - m) z).take m = List.replicate m x := by
    rw [List.take_append, List.length_replicate, Nat.sub_self, List.take_zero, List.append_nil, List.take_of_length_le (by simp)]
  have e2 : (List.replicate m x ++ List.replicate (n - m) z).length = n := by simp; omega
  rw [List.drop_zero, Nat.sub_zero, e1, e2, List.length_replicate, List.take_replicate, Nat.min_eq_left (Nat.min_le_left _ _), List.drop_append, List.length_replicate,
    List.drop_of_length_le (l := List.replicate m x) (by simp), List.nil_append, List.drop_replicate, List.replicate_append_replicate]
  congr 2
  omega
end Go.X

/- Games, in plain numbers and lists. No condition. -/
set_option linter.unusedVariables false
namespace Go.X.Ke
structure G where
  S : Int
  C : Int
  K : Int
  next : List Int
  good : List Bool
def gcheck (g : G) : Int :=
  if g.S < 1 ∨ 400 < g.S ∨ g.C < 1 ∨ 16 < g.C ∨ g.K < 1 ∨ 16 < g.K then 2
  else if (g.next.length : Int) ≠ g.S * g.C * g.K ∨ (g.good.length : Int) ≠ g.S then 1
  else if g.next.any (fun n => decide (n < -1) || decide (g.S ≤ n)) = true then 6 else 0
theorem mul_bd {a b m n : Int} (h1 : 1 ≤ a) (h2 : a ≤ m) (h3 : 1 ≤ b) (h4 : b ≤ n) : 1 ≤ a * b ∧ a * b ≤ m * n := by
  have e1 : 1 * 1 ≤ a * b := Int.mul_le_mul h1 h3 (by omega) (by omega)
  have e2 : a * b ≤ m * n := Int.mul_le_mul h2 h4 (by omega) (by omega)
  omega
theorem g_bd {S C K : Int} (h : ¬ (((((S < 1 ∨ 400 < S) ∨ C < 1) ∨ 16 < C) ∨ K < 1) ∨ 16 < K)) : 1 ≤ S * C ∧ S * C ≤ 6400 ∧ 1 ≤ S * C * K ∧ S * C * K ≤ 102400 := by
  have h1 := mul_bd (a := S) (b := C) (m := 400) (n := 16) (by omega) (by omega) (by omega) (by omega)
  have h2 := mul_bd (a := S * C) (b := K) (m := 6400) (n := 16) (by omega) (by omega) (by omega) (by omega)
  omega
/-- What is known of a valid game. -/
structure Ok (S C K : Nat) (next : List Int) (good : List Bool) : Prop where
  s1 : 1 ≤ S
  s2 : S ≤ 400
  c1 : 1 ≤ C
  c2 : C ≤ 16
  k1 : 1 ≤ K
  k2 : K ≤ 16
  len : next.length = S * C * K
  glen : good.length = S
  inr : ∀ n ∈ next, -1 ≤ n ∧ n < S
theorem gcheck_ok {g : G} (h : gcheck g = 0) : ∃ S C K : Nat, g.S = S ∧ g.C = C ∧ g.K = K ∧ Ok S C K g.next g.good := by
  unfold gcheck at h
  split at h
  · omega
  · rename_i h1
    split at h
    · omega
    · rename_i h2
      split at h
      · omega
      · rename_i h3
        obtain ⟨S, hS⟩ := Int.eq_ofNat_of_zero_le (a := g.S) (by omega)
        obtain ⟨C, hC⟩ := Int.eq_ofNat_of_zero_le (a := g.C) (by omega)
        obtain ⟨K, hK⟩ := Int.eq_ofNat_of_zero_le (a := g.K) (by omega)
        rw [hS, hC, hK] at h1 h2
        have hl : (g.next.length : Int) = ((S * C * K : Nat) : Int) := by
          have : (g.next.length : Int) = S * C * K := by omega
          rw [this]; simp
        refine ⟨S, C, K, hS, hC, hK, by omega, by omega, by omega, by omega, by omega, by omega, by omega, by omega, fun n hn => ?_⟩
        have h4 : g.next.any (fun n => decide (n < -1) || decide (g.S ≤ n)) = false := by simpa using h3
        have h5 := List.any_eq_false.1 h4 n hn
        simp only [hS, Bool.or_eq_true, decide_eq_true_eq] at h5
        omega
theorem Ok.sc {S C K : Nat} {next : List Int} {good : List Bool} (h : Ok S C K next good) : 1 ≤ S * C ∧ S * C ≤ 6400 ∧ 1 ≤ S * C * K ∧ S * C * K ≤ 102400 := by
  have h1 : S * C ≤ 400 * 16 := Nat.mul_le_mul h.s2 h.c2
  have h2 : S * C * K ≤ 6400 * 16 := Nat.mul_le_mul (by omega) h.k2
  have h3 : 0 < S * C := Nat.mul_pos h.s1 h.c1
  have h4 : 0 < S * C * K := Nat.mul_pos h3 h.k1
  omega
theorem lead_le {S C K s u : Nat} (hs : s < S) (hu : u < C) : s * C ≤ S * C ∧ s * C + u < S * C ∧ (s * C + u) * K + K ≤ S * C * K := by
  have h1 : (s + 1) * C ≤ S * C := Nat.mul_le_mul_right _ hs
  rw [Nat.add_mul] at h1
  have h2 : (s * C + u + 1) * K ≤ S * C * K := Nat.mul_le_mul_right _ (by omega)
  rw [Nat.add_mul] at h2
  omega
theorem lead_int (s u C K : Nat) : ((s : Int) * C + u) * K = (((s * C + u) * K : Nat) : Int) := by simp
/-- The states that shocks lead to. -/
def leads (next : List Int) (C K s u : Nat) : List Int := (next.drop ((s * C + u) * K)).take K
end Go.X.Ke

/- A game without a control; a product of games. No condition. -/
set_option linter.unusedVariables false
namespace Go.X.Ke
def zeroG : G := ⟨0, 0, 0, [], []⟩
def cellW (next : List Int) (C K u s v : Nat) : List Int := if v = u then [] else leads next C K s v
def rowW (next : List Int) (C K u s : Nat) : List Int := (List.range C).flatMap (cellW next C K u s)
def rowsW (next : List Int) (C K u s : Nat) : List Int := (List.range s).flatMap (rowW next C K u)
def without (g : G) (u : Int) : G × Int :=
  if gcheck g ≠ 0 then (zeroG, gcheck g)
  else if u < 0 ∨ g.C ≤ u then (zeroG, 1)
  else if g.C = 1 then (zeroG, 2)
  else (⟨g.S, g.C - 1, g.K, rowsW g.next g.C.toNat g.K.toNat u.toNat g.S.toNat, g.good⟩, 0)
end Go.X.Ke

/- The reference's game without a control. No condition. -/
set_option linter.unusedVariables false
namespace Go.X.Ke
end Go.X.Ke

/- A product of games, in plain lists. No condition. -/
set_option linter.unusedVariables false
namespace Go.X.Ke
def pxa (an : List Int) (Ca Ka Sb Cb Kb s u w : Nat) : Int := an.getD ((s / Sb * Ca + u / Cb) * Ka + w / Kb) 0
def pxb (bn : List Int) (Sb Cb Kb s u w : Nat) : Int := bn.getD ((s % Sb * Cb + u % Cb) * Kb + w % Kb) 0
def pcell (an bn : List Int) (Ca Ka Sb Cb Kb s u w : Nat) : Int :=
  if pxa an Ca Ka Sb Cb Kb s u w < 0 ∨ pxb bn Sb Cb Kb s u w < 0 then -1 else pxa an Ca Ka Sb Cb Kb s u w * Sb + pxb bn Sb Cb Kb s u w
def pnext (an bn : List Int) (Ca Ka Sb Cb Kb C K n : Nat) : Int := pcell an bn Ca Ka Sb Cb Kb (n / K / C) (n / K % C) (n % K)
def pgood (ag bg : List Bool) (Sb s : Nat) : Bool := ag.getD (s / Sb) false && bg.getD (s % Sb) false
def product (a b : G) : G × Int :=
  if gcheck a ≠ 0 then (zeroG, gcheck a)
  else if gcheck b ≠ 0 then (zeroG, gcheck b)
  else if 400 < a.S * b.S ∨ 16 < a.C * b.C ∨ 16 < a.K * b.K then (zeroG, 2)
  else (⟨a.S * b.S, a.C * b.C, a.K * b.K,
      (List.range ((a.S * b.S).toNat * (a.C * b.C).toNat * (a.K * b.K).toNat)).map (pnext a.next b.next a.C.toNat a.K.toNat b.S.toNat b.C.toNat b.K.toNat (a.C * b.C).toNat (a.K * b.K).toNat),
      (List.range (a.S * b.S).toNat).map (pgood a.good b.good b.S.toNat)⟩, 0)
theorem Ok.get {S C K : Nat} {next : List Int} {good : List Bool} (h : Ok S C K next good) (i : Nat) : -1 ≤ next.getD i 0 ∧ next.getD i 0 < S := by
  have h1 := h.s1
  rw [List.getD_eq_getElem?_getD]
  cases hi : next[i]? with
  | none => simp; omega
  | some x => exact h.inr x (List.mem_of_getElem? hi)
end Go.X.Ke

/- The reference's product of games. No condition. -/
set_option linter.unusedVariables false
namespace Go.X.Ke
end Go.X.Ke

/- Safe sets, in plain lists. No condition. -/
set_option linter.unusedVariables false
namespace Go.X.Ke
def bad (ins : List Bool) (n : Int) : Bool := decide (n < 0) || !(ins.getD n.toNat false)
def keepsP (next : List Int) (C K : Nat) (ins : List Bool) (s u : Nat) : Bool := !((leads next C K s u).any (bad ins))
def insL (ins : List Bool) : List Nat := (List.range ins.length).filter fun s => ins.getD s false
theorem filter_at {p : Nat → Bool} {n s : Nat} (hs : s < n) (hp : p s = true) :
    ((List.range s).filter p).length < ((List.range n).filter p).length ∧ ((List.range n).filter p)[((List.range s).filter p).length]? = some s := by
  have h1 : List.range n = List.range s ++ s :: (List.range' (s + 1) (n - s - 1)) := by
    rw [List.range_eq_range', List.range_eq_range', ← List.range'_succ]
    have := List.range'_append_1 (s := 0) (m := s) (n := n - s - 1 + 1)
    rw [Nat.zero_add] at this
    rw [this]
    congr 1
    omega
  rw [h1, List.filter_append, List.filter_cons, if_pos hp]
  constructor
  · simp
  · rw [List.getElem?_append_right (Nat.le_refl _)]
    simp
theorem filter_succ {p : Nat → Bool} {s : Nat} : ((List.range (s + 1)).filter p).length = ((List.range s).filter p).length + if p s = true then 1 else 0 := by
  rw [List.range_succ, List.filter_append, List.length_append]
  by_cases h : p s = true <;> simp [h]
end Go.X.Ke

/- The safe set of a game, round after round. No condition. -/
set_option linter.unusedVariables false
namespace Go.X.Ke
def ctlOf (next : List Int) (C K : Nat) (ins : List Bool) (s : Nat) : Int :=
  match (List.range C).find? (fun u => keepsP next C K ins s u) with
  | some u => u
  | none => -1
def ctlAt (next : List Int) (C K : Nat) (ins : List Bool) (ctl : List Int) (L : List Nat) : List Int := L.foldl (fun c s => c.set s (ctlOf next C K ins s)) ctl
def outsAt (next : List Int) (C K : Nat) (ins : List Bool) (L : List Nat) : List Nat := L.filter fun s => decide (ctlOf next C K ins s < 0)
def setAll {α : Type} (l : List α) (L : List Nat) (x : α) : List α := L.foldl (fun l s => l.set s x) l
def rounds (next : List Int) (C K : Nat) : Nat → Int → List Bool → List Int → List Int → List Bool × List Int × List Int
  | 0, _, ins, ctl, rnk => (ins, ctl, rnk)
  | f + 1, rank, ins, ctl, rnk =>
    if outsAt next C K ins (insL ins) = [] then (ins, ctlAt next C K ins ctl (insL ins), rnk)
    else rounds next C K f (rank + 1) (setAll ins (outsAt next C K ins (insL ins)) false) (ctlAt next C K ins ctl (insL ins)) (setAll rnk (outsAt next C K ins (insL ins)) rank)
def solved (S C K : Nat) (next : List Int) (good : List Bool) : List Bool × List Int × List Int :=
  let x := rounds next C K (S + 1) 1 good (List.replicate S (-1)) (List.replicate S 0)
  (x.1, x.2.1, setAll x.2.2 (insL x.1) (-1))
theorem ctlOf_at {next : List Int} {C K : Nat} {ins : List Bool} {s u : Nat} (hu : u < C) (h : keepsP next C K ins s u = true) (h0 : ∀ u' < u, keepsP next C K ins s u' = false) : ctlOf next C K ins s = u := by
  unfold ctlOf
  have : (List.range C).find? (fun u => keepsP next C K ins s u) = some u := by
    rw [List.find?_range_eq_some]
    exact ⟨h, List.mem_range.2 hu, fun j hj => by simp [h0 j hj]⟩
  rw [this]
theorem ctlOf_none {next : List Int} {C K : Nat} {ins : List Bool} {s : Nat} (h0 : ∀ u' < C, keepsP next C K ins s u' = false) : ctlOf next C K ins s = -1 := by
  unfold ctlOf
  have : (List.range C).find? (fun u => keepsP next C K ins s u) = none := by
    rw [List.find?_range_eq_none]
    exact fun i hi => by simp [h0 i hi]
  rw [this]
theorem take_snoc {α : Type} {L : List α} {i : Nat} {s : α} (h : L[i]? = some s) : L.take (i + 1) = L.take i ++ [s] := by
  rw [List.take_add_one, h]; rfl
theorem ctlAt_snoc {next : List Int} {C K : Nat} {ins : List Bool} {ctl : List Int} {L : List Nat} {s : Nat} : ctlAt next C K ins ctl (L ++ [s]) = (ctlAt next C K ins ctl L).set s (ctlOf next C K ins s) := by
  simp [ctlAt, List.foldl_append]
theorem ctlAt_len {next : List Int} {C K : Nat} {ins : List Bool} {L : List Nat} : ∀ {ctl : List Int}, (ctlAt next C K ins ctl L).length = ctl.length := by
  unfold ctlAt
  induction L with
  | nil => intro ctl; rfl
  | cons s L ih => intro ctl; rw [List.foldl_cons, ih, List.length_set]
theorem setAll_snoc {α : Type} {l : List α} {L : List Nat} {s : Nat} {x : α} : setAll l (L ++ [s]) x = (setAll l L x).set s x := by simp [setAll, List.foldl_append]
theorem setAll_len {α : Type} {L : List Nat} {x : α} : ∀ {l : List α}, (setAll l L x).length = l.length := by
  unfold setAll
  induction L with
  | nil => intro l; rfl
  | cons s L ih => intro l; rw [List.foldl_cons, ih, List.length_set]
theorem insL_mem {ins : List Bool} {i s : Nat} (h : (insL ins)[i]? = some s) : s < ins.length ∧ ins.getD s false = true := by
  have := List.mem_of_getElem? h
  unfold insL at this
  rw [List.mem_filter, List.mem_range] at this
  exact this
theorem count_set_le (l : List Bool) (s : Nat) : (l.set s false).count true ≤ l.count true := by
  by_cases h : s < l.length
  · rw [List.count_set h]; simp
  · rw [List.set_eq_of_length_le (by omega)]; exact Nat.le_refl _
theorem count_setAll_le (L : List Nat) : ∀ l : List Bool, (setAll l L false).count true ≤ l.count true := by
  induction L with
  | nil => intro l; exact Nat.le_refl _
  | cons s L ih => intro l; exact Nat.le_trans (ih (l.set s false)) (count_set_le l s)
theorem count_setAll_lt {L : List Nat} {l : List Bool} (h : L ≠ []) (hm : ∀ s ∈ L, s < l.length ∧ l.getD s false = true) : (setAll l L false).count true < l.count true := by
  cases L with
  | nil => exact absurd rfl h
  | cons s L =>
    obtain ⟨h1, h2⟩ := hm s List.mem_cons_self
    refine Nat.lt_of_le_of_lt (count_setAll_le L (l.set s false)) ?_
    rw [List.count_set h1]
    have h3 : l[s] = true := by rw [List.getD_eq_getElem?_getD, List.getElem?_eq_getElem h1] at h2; exact h2
    have h4 : 0 < l.count true := List.count_pos_iff.2 (h3 ▸ List.getElem_mem h1)
    simp [h3]
    omega
end Go.X.Ke
namespace Go.X.Ke
theorem outs_no {next : List Int} {C K : Nat} {ins : List Bool} {L : List Nat} {s : Nat} (h : ¬ ctlOf next C K ins s < 0) : outsAt next C K ins (L ++ [s]) = outsAt next C K ins L := by
  simp [outsAt, List.filter_append, h]
theorem outs_yes {next : List Int} {C K : Nat} {ins : List Bool} {L : List Nat} {s : Nat} (h : ctlOf next C K ins s < 0) : outsAt next C K ins (L ++ [s]) = outsAt next C K ins L ++ [s] := by
  simp [outsAt, List.filter_append, h]
theorem outs_le {next : List Int} {C K : Nat} {ins : List Bool} {i : Nat} : (outsAt next C K ins ((insL ins).take i)).length ≤ ins.length := by
  unfold outsAt
  refine Nat.le_trans (List.length_filter_le ..) ?_
  rw [List.length_take]
  refine Nat.le_trans (Nat.min_le_right ..) ?_
  unfold insL
  refine Nat.le_trans (List.length_filter_le ..) ?_
  simp
end Go.X.Ke

/- The example of the chapter. No condition. -/
set_option linter.unusedVariables false
namespace Go.X.Ke
def solveG (g : G) : List Bool × List Int × List Int := if gcheck g ≠ 0 then ([], [], []) else solved g.S.toNat g.C.toNat g.K.toNat g.next g.good
end Go.X.Ke

/- Jobs, racks, tasks: what the functions of place compute. No condition. -/
set_option linter.unusedVariables false
namespace Go.X.Pl
structure PDraw where
  power : Int
  count : Int
deriving DecidableEq, Inhabited
structure PJob where
  n0 : Int
  n1 : Int
  n2 : Int
  draws : List PDraw
  group : Int
  worth : Int
deriving DecidableEq, Inhabited
structure PRack where
  r0 : Int
  r1 : Int
  r2 : Int
  cap : Int
  domain : Int
deriving DecidableEq, Inhabited
/-- A fraction. -/
structure PRat where
  n : Int
  d : Int
deriving DecidableEq, Inhabited
structure PTask where
  jobs : List PJob
  racks : List PRack
  most : PRat
def pout (m n : Int) : Bool := decide (n < 0) || decide (m < n)
def pin (m : Int) (l : List Int) : Bool := !(l.any (pout m))
theorem pout_false {m n : Int} : pout m n = false ↔ 0 ≤ n ∧ n ≤ m := by
  unfold pout
  rw [Bool.or_eq_false_iff, decide_eq_false_iff_not, decide_eq_false_iff_not]; omega
theorem pin_one {m n : Int} : pin m [n] = true ↔ 0 ≤ n ∧ n ≤ m := by
  unfold pin
  rw [List.any_cons, List.any_nil, Bool.or_false, Bool.not_eq_true', pout_false]
/-- A job's draw is allowed. -/
def DrawOk (l : List PDraw) (i : Nat) : Prop := (0 ≤ (l.getD i default).power ∧ (l.getD i default).power ≤ 1000) ∧ (1 ≤ (l.getD i default).count ∧ (l.getD i default).count ≤ 64) ∧ (0 < i → (l.getD (i - 1) default).power < (l.getD i default).power)
instance (l : List PDraw) (i : Nat) : Decidable (DrawOk l i) := by unfold DrawOk; infer_instance
structure PJobOk (j : PJob) : Prop where
  need : pin 1000000 [j.n0, j.n1, j.n2] = true
  grp : 0 ≤ j.group ∧ j.group ≤ 100
  wor : 0 ≤ j.worth ∧ j.worth ≤ 1000000
  few : 1 ≤ j.draws.length ∧ j.draws.length ≤ 8
  draw : ∀ i, i < j.draws.length → DrawOk j.draws i
def jobR (j : PJob) : Bool := (((pin 1000000 [j.n0, j.n1, j.n2] && pin 100 [j.group]) && pin 1000000 [j.worth]) && (decide (1 ≤ j.draws.length) && decide (j.draws.length ≤ 8))) && decide (∀ i, i < j.draws.length → DrawOk j.draws i)
theorem jobR_iff {j : PJob} : jobR j = true ↔ PJobOk j := by
  unfold jobR
  simp only [Bool.and_eq_true, decide_eq_true_eq, pin_one]
  exact ⟨fun ⟨⟨⟨⟨a, b⟩, c⟩, d⟩, e⟩ => ⟨a, b, c, d, e⟩, fun h => ⟨⟨⟨⟨h.need, h.grp⟩, h.wor⟩, h.few⟩, h.draw⟩⟩
def rackR (r : PRack) : Bool := (pin 1000000 [r.r0, r.r1, r.r2] && pin 10000 [r.cap]) && pin 100 [r.domain]
def chanceR (c : PRat) : Bool := ((decide (1 ≤ c.d) && decide (c.d ≤ 1000000)) && pin c.d [c.n]) && decide ((Int.gcd c.n c.d : Nat) = 1)
def pcheck (t : PTask) : Int :=
  if 8 < t.jobs.length ∨ t.racks.length < 1 ∨ 5 < t.racks.length then 2
  else if (t.jobs.any (fun j => !jobR j) || t.racks.any (fun r => !rackR r)) = true then 6
  else if ¬ chanceR t.most = true then 1 else 0
def totalJ (j : PJob) : Int := (j.draws.map (·.count)).sum
def prodJ (l : List PJob) : Nat → Int
  | 0 => 1
  | i + 1 => prodJ l i * totalJ (l.getD i default)
/-- The product grows beyond the greatest number at some job. -/
def manyTo (l : List PJob) (n : Nat) : Bool := (List.range n).any fun i => decide (1099511627776 < prodJ l (i + 1))
def listedG (l : List PJob) : Int × Int :=
  if 8 < l.length then (0, 2)
  else if l.any (fun j => !jobR j) = true then (0, 6)
  else if manyTo l l.length = true then (0, 8) else (prodJ l l.length, 0)
/-- All sums of single measurements. -/
def step1 (f : List Int) (j : PJob) : List Int := f.flatMap fun s => j.draws.flatMap fun d => List.replicate d.count.toNat (s + d.power)
def combos (l : List PJob) : List Int := l.foldl step1 [0]
def overN (L : List Int) (limit : Int) : Nat := L.countP (fun s => decide (limit < s))
def ratG (n all : Int) : PRat := ⟨n / (Int.gcd n all : Nat), all / (Int.gcd n all : Nat)⟩
def overG (l : List PJob) (limit all : Int) : PRat := ratG (overN (combos l) limit : Nat) all
def chanceG (l : List PJob) (limit : Int) : PRat × Int := if (listedG l).2 ≠ 0 then (⟨0, 0⟩, (listedG l).2) else (overG l limit (listedG l).1, 0)
/-- The list is allowed. -/
structure ListOk (l : List PJob) : Prop where
  few : l.length ≤ 8
  job : ∀ i, i < l.length → PJobOk (l.getD i default)
  prod : ∀ i, i ≤ l.length → prodJ l i ≤ 1099511627776
theorem any_false_at {α : Type} [Inhabited α] {p : α → Bool} {l : List α} (h : l.any p = false) {i : Nat} (hi : i < l.length) : p (l.getD i default) = false := by
  rw [List.any_eq_false] at h
  exact Bool.eq_false_iff.2 (h _ (getD_mem hi))
theorem any_false_of {α : Type} [Inhabited α] {p : α → Bool} {l : List α} (h : ∀ i, i < l.length → p (l.getD i default) = false) : l.any p = false := by
  rw [List.any_eq_false]
  intro x hx
  obtain ⟨i, hi, rfl⟩ := List.getElem_of_mem hx
  have := h i hi
  rw [List.getD_eq_getElem?_getD, List.getElem?_eq_getElem hi] at this
  exact Bool.eq_false_iff.1 this
theorem manyTo_false {l : List PJob} {n : Nat} : manyTo l n = false ↔ ∀ i, i < n → prodJ l (i + 1) ≤ 1099511627776 := by
  unfold manyTo
  rw [List.any_eq_false]
  constructor
  · intro h i hi
    have := h i (List.mem_range.2 hi)
    rw [decide_eq_true_eq] at this; omega
  · intro h i hi
    have := h i (List.mem_range.1 hi)
    rw [decide_eq_true_eq]; omega
theorem listed_ok {l : List PJob} : (listedG l).2 = 0 ↔ ListOk l := by
  unfold listedG
  constructor
  · intro h
    split at h
    · exact absurd h (by decide)
    · split at h
      · exact absurd h (by decide)
      · split at h
        · exact absurd h (by decide)
        · rename_i h1 h2 h3
          have h3 := manyTo_false.1 (Bool.eq_false_iff.2 h3)
          refine ⟨by omega, fun i hi => jobR_iff.1 ?_, fun i hi => ?_⟩
          · have := any_false_at (Bool.eq_false_iff.2 h2) hi
            simpa using this
          · cases i with
            | zero => show (1 : Int) ≤ _; decide
            | succ i => exact h3 i (by omega)
  · intro h
    rw [if_neg (by have := h.few; omega), if_neg, if_neg]
    · rw [manyTo_false.2 fun i hi => h.prod (i + 1) (by omega)]; decide
    · rw [any_false_of fun i hi => by rw [jobR_iff.2 (h.job i hi)]; rfl]; decide
theorem listed_prod {l : List PJob} (h : ListOk l) : listedG l = (prodJ l l.length, 0) := by
  have h0 := listed_ok.2 h
  unfold listedG at h0 ⊢
  split at h0
  · exact absurd h0 (by decide)
  · split at h0
    · exact absurd h0 (by decide)
    · split at h0
      · exact absurd h0 (by decide)
      · rename_i a b c
        rw [if_neg a, if_neg b, if_neg c]
theorem sum_le_mul {l : List Int} {m : Int} (h : ∀ x ∈ l, x ≤ m) : l.sum ≤ l.length * m := by
  induction l with
  | nil => simp
  | cons a l ih =>
    have h1 := h a List.mem_cons_self
    have h2 := ih fun x hx => h x (List.mem_cons_of_mem _ hx)
    rw [List.sum_cons, List.length_cons, Int.natCast_add, Int.add_mul]; omega
theorem sum_ge_len {l : List Int} (h : ∀ x ∈ l, 1 ≤ x) : (l.length : Int) ≤ l.sum := by
  induction l with
  | nil => simp
  | cons a l ih =>
    have h1 := h a List.mem_cons_self
    have h2 := ih fun x hx => h x (List.mem_cons_of_mem _ hx)
    rw [List.sum_cons, List.length_cons]; omega
theorem mem_draws {j : PJob} (h : PJobOk j) {d : PDraw} (hd : d ∈ j.draws) : (0 ≤ d.power ∧ d.power ≤ 1000) ∧ (1 ≤ d.count ∧ d.count ≤ 64) := by
  obtain ⟨i, hi, rfl⟩ := List.getElem_of_mem hd
  have := h.draw i hi
  unfold DrawOk at this
  rw [List.getD_eq_getElem?_getD, List.getElem?_eq_getElem hi] at this
  exact ⟨this.1, this.2.1⟩
theorem total_rng {j : PJob} (h : PJobOk j) : 1 ≤ totalJ j ∧ totalJ j ≤ 512 := by
  have a := sum_ge_len (l := j.draws.map (·.count)) fun x hx => by
    obtain ⟨d, hd, rfl⟩ := List.mem_map.1 hx
    exact (mem_draws h hd).2.1
  have b := sum_le_mul (l := j.draws.map (·.count)) (m := 64) fun x hx => by
    obtain ⟨d, hd, rfl⟩ := List.mem_map.1 hx
    exact (mem_draws h hd).2.2
  rw [List.length_map] at a b
  have := h.few
  unfold totalJ; omega
theorem prod_pos {l : List PJob} (h : ListOk l) : ∀ i, i ≤ l.length → 1 ≤ prodJ l i
  | 0, _ => Int.le_refl _
  | i + 1, hi => by
    have a := prod_pos h i (by omega)
    have b := (total_rng (h.job i (by omega))).1
    have : 1 * 1 ≤ prodJ l i * totalJ (l.getD i default) := Int.mul_le_mul a b (by omega) (by omega)
    rw [prodJ]; omega
end Go.X.Pl

/- Operations under a guard that is known to hold. No condition. -/
set_option linter.unusedSimpArgs false
set_option linter.unusedVariables false
namespace Go.X
section
variable {P : Program} {ops : Array Oper} {e : Env} {o r : List PHeap} {d : Option Tmp} {ty : TypeId} {pos : String} {aft : Array Edge}
theorem Stp.want {op : Op} {j gt : Nat} {want b : Bool} {Ψ : Value → List PHeap → Prop} (hj : (ops[j]?).bind (·.dst) = some gt) (hg : find e gt = some (.bool b)) (hb : b = want)
    (s : Stp P ops ⟨d, op, ty, pos, aft, none⟩ e o r Ψ) : Stp P ops ⟨d, op, ty, pos, aft, some (j, want)⟩ e o r Ψ := fun D a w he hs => by
  have h := s D a w he hs
  have hw := wanted_guard (d := d) (ty := ty) (pos := pos) (aft := aft) (want := want) (op := op) hj (he gt _ hg)
  have hx : execOp (evA a) (⟨d, op, ty, pos, aft, some (j, want)⟩ : Oper) = execOp (evA a) (⟨d, op, ty, pos, aft, none⟩ : Oper) := rfl
  unfold Does at h ⊢
  rw [hw, hx, if_pos (by simp [hb])]
  rwa [if_pos (by simp [Region.wanted])] at h
end
section
variable {c : Cx} {ops : Array Oper} {rest : List Oper} {k : List Item} {e : Env} {o r : List PHeap} {d : Nat} {ty : TypeId} {pos : String} {aft : Array Edge}
variable {α : Type} {enc : α → List Value} {sz : Nat} {h : PHeap} {xs : List α} {v : Value}
theorem XO.litG {t el : TypeId} [u : Und c.P t (.slice el)] [z : TySize c.P el sz] {zs : List Value} [zz : Zero c.P el zs] {n : Nat} {l : List (Nat × Operand)} {j gt : Nat} {want b : Bool} (zl cs : List Value) (xs : List α) (enc : α → List Value)
    (hj : (ops[j]?).bind (·.dst) = some gt) (hg : find e gt = some (.bool b)) (hb : b = want)
    (hzs : zs.length = sz) (hsz : Nat.blt 0 sz = true) (hn : Nat.ble (n * sz) 16777216 = true) (hzl : (List.replicate n zs).flatten = zl) (hf : Fill e (fun i => some (i * sz, sz)) l zl cs)
    (henc : ∀ x, (enc x).length = sz) (hcs : xs.flatMap enc = cs) (hxn : xs.length = n) (ho : Ones cs) (hle : Nat.ble n 16777216 = true)
    (hnx : ∀ v' h', OArr v' enc sz el h' xs → XO c ops rest k ((d, some v') :: e) (h' :: o) r) :
    XO c ops (⟨some d, .buildSlice t n l.toArray, ty, pos, aft, some (j, want)⟩ :: rest) k e o r :=
  XO.s (Stp.want hj hg hb ((Makes.lit cs hzs hsz hn (by rw [hzl]; exact hf)).stp _ _)) fun _ _ ⟨b, hv, ho'⟩ => by subst hv ho'; exact hnx _ _ (OArr.lit xs enc henc hcs hxn ho hle)
end
end Go.X

/- From the reading of arguments to slices that are read; what a call leaves as it was. No condition. -/
set_option linter.unusedSimpArgs false
set_option linter.unusedVariables false
namespace Go.X
open Go.ChangeShapes Go.WideShapes Go.Deep
def heapOf (w : World) : PHeap := ⟨fun b => w.heap[b]?, some (mt w)⟩
theorem heap_sep (w : World) : Sep [] [heapOf w] w where
  pw := List.Pairwise.nil
  dr := fun h hh => by cases hh
  so := fun h hh => by cases hh
  sr := fun g hg b ob hb => by
    simp only [List.mem_singleton] at hg; subst hg; exact hb
  no := fun h hh => by cases hh
  sm := fun g hg m hm => by
    simp only [List.mem_singleton] at hg; subst hg; exact Option.some.inj hm
structure Stays (W w' : World) : Prop where
  os : w'.os = W.os
  output : w'.output = W.output
  block : ∀ k, k < W.heap.size → w'.heap[k]? = W.heap[k]?
theorem stays_of {o : List PHeap} {W w' : World} (s : Sep o [heapOf W] w') : Stays W w' := by
  have h1 := s.sm _ List.mem_cons_self _ rfl
  simp only [mt, Prod.mk.injEq] at h1
  refine ⟨h1.1, h1.2, fun k hk => ?_⟩
  have h2 : W.heap[k]? = some (W.heap[k]'hk) := Array.getElem?_eq_getElem hk
  rw [h2]
  exact s.sr _ List.mem_cons_self k _ h2
theorem Stays.same {W w' : World} (h : Stays W w') {p : MemPlace} (hp : p.block < W.heap.size) : W.sameAt w' p := by
  cases p with
  | cell b o => exact World.cell?_of_block (w := W) (h.block b hp)
  | map b => exact h.block b hp
theorem Stays.frame {W w' : World} (h : Stays W w') (may : MemPlace → Prop) : W.keptBut w' may := by
  refine ⟨h.os, h.output, fun i hi => ?_⟩
  rw [h.block i hi]
  split <;> simp_all
theorem Stays.trod {H : Type} {enc : TypeId × Value → H} {P : Program} {t : TypeId} (hl : laidOutB P = true) (hr : P.readableRec t = true) (hrow : t < P.types.size) {W W' : World} {v : Value} {d : DataW H} {ps : List MemPlace}
    (h : DataW.Trod enc P W 0 (fun _ => true) true t v d ps) (hb : Stays W W') (hlt : ∀ x ∈ ps, x.block < W.heap.size) :
    DataW.Trod enc P W' 0 (fun b => decide (b < W.heap.size)) true t v d ps :=
  WideElems.Trod_stays hl hr hrow h (fun x hx => hb.same (hlt x hx)) (fun x hx => by simpa using hlt x hx)
theorem Stays.refl (W : World) : Stays W W := ⟨rfl, rfl, fun _ _ => rfl⟩
theorem calls_of_spec {P : Program} {f : FuncId} {args : Array Value} {hr : List PHeap} {W : World} {R : Value → List PHeap → Prop} (h : Spec P f args [] hr R) (hh : ∀ h ∈ hr, h = heapOf W) :
    Calls P f args W fun e w' => ∃ v hs, e = .returned v ∧ R v hs ∧ Stays W w' :=
  (h [] [heapOf W] W (heap_sep W) (fun x hx => .inr (by rw [hh x hx]; exact List.mem_cons_self))).mono fun e w' ⟨v, hs, he, hR, hS⟩ => ⟨v, hs, he, hR, stays_of (o := hs ++ []) hS⟩

theorem cell_heap {W : World} {a : Addr} {v : Value} (h : W.cell? a = some v) : ∃ cs T fr, a.spot = none ∧ W.heap[a.block]? = some (.cells cs T fr) ∧ cs[a.off]? = some v := by
  have hs := World.cell?_spot h
  unfold World.cell? at h
  split at h
  · rename_i c T fr hb
    rw [if_neg (by simp [hs])] at h
    exact ⟨c, T, fr, hs, hb, h⟩
  · cases h
theorem arr_one {α : Type} {W : World} {enc : α → List Value} (henc : ∀ x, ∃ u, enc x = [u] ∧ one u = true) {a : Addr} {len cap : Nat} {xs : List α} (hlen : xs.length = len) (hc : len ≤ cap) (h47 : len ≤ 140737488355328)
    (hcell : ∀ i (hi : i < xs.length), ∀ u, enc xs[i] = [u] → W.cell? (a.add i) = some u) : Arr (.slice (some a) len cap) enc 1 (heapOf W) xs := by
  subst hlen
  refine ⟨fun x => by obtain ⟨u, hu, _⟩ := henc x; rw [hu]; rfl, ⟨h47, fun x _ c hc => by obtain ⟨u, hu, ho⟩ := henc x; rw [hu] at hc; simp only [List.mem_singleton] at hc; subst hc; exact ho⟩, some a, cap, rfl, hc, (fun h => by cases h), fun hp => ?_⟩
  obtain ⟨u0, hu0, _⟩ := henc (xs[0]'hp)
  have h0 := hcell 0 hp u0 hu0
  obtain ⟨b, k, sp⟩ := a
  obtain ⟨cs, T, fr, hsp, hb, _⟩ := cell_heap h0
  have hsp' : sp = none := by simpa [Addr.add] using hsp
  subst hsp'
  have hb' : W.heap[b]? = some (.cells cs T fr) := by simpa [Addr.add] using hb
  refine ⟨b, k, cs, T, fr, rfl, hb', fun i j hi hj => ?_⟩
  obtain ⟨u, hu, _⟩ := henc (xs[i]'hi)
  have hi' := hcell i hi u hu
  rw [add_none] at hi'
  obtain ⟨cs2, T2, fr2, _, hb2, hc2⟩ := cell_heap hi'
  have hb2' : W.heap[b]? = some (.cells cs2 T2 fr2) := hb2
  rw [hb'] at hb2'
  simp only [Option.some.injEq, Obj.cells.injEq] at hb2'
  obtain ⟨rfl, rfl, rfl⟩ := hb2'
  have hj0 : j = 0 := by omega
  subst hj0
  rw [List.getElem?_eq_getElem hi, Option.bind_some, hu]
  simpa using hc2
section
variable {H : Type} {enc : TypeId × Value → H} {P : Program} {w : World} {held : Bool}
end
end Go.X

/- Arguments of rows opened: small numbers, slices of bytes. No condition. -/
set_option linter.unusedSimpArgs false
set_option linter.unusedVariables false
namespace Go.X
open Go.ChangeShapes Go.WideShapes Go.Deep
section
variable {H : Type} {enc : TypeId × Value → H} {P : Program} {W : World} {base : Nat} {v : Value} {d : DataW H} {ps : List MemPlace}
theorem open_u8 {t : TypeId} (ht : P.underlying t = some (.int .u8)) (hv : Value.okWide P W .any base t v) (h : DataW.Trod enc P W 0 (fun _ => true) true t v d ps) :
    ∃ n : Nat, n < 256 ∧ v = .int .u8 (n : Nat) ∧ d = .lit (.int .u8 (n : Nat)) ∧ ps = [] ∧ (Lit.int .u8 (n : Nat)).wf = true := by
  obtain ⟨m, rfl, rfl, rfl, hw⟩ := open_int ht hv h
  have := bounds_u8 hw
  obtain ⟨n, rfl⟩ := Int.eq_ofNat_of_zero_le this.1
  exact ⟨n, by omega, rfl, rfl, rfl, hw⟩
theorem open_u16 {t : TypeId} (ht : P.underlying t = some (.int .u16)) (hv : Value.okWide P W .any base t v) (h : DataW.Trod enc P W 0 (fun _ => true) true t v d ps) :
    ∃ n : Nat, n < 65536 ∧ v = .int .u16 (n : Nat) ∧ d = .lit (.int .u16 (n : Nat)) ∧ ps = [] ∧ (Lit.int .u16 (n : Nat)).wf = true := by
  obtain ⟨m, rfl, rfl, rfl, hw⟩ := open_int ht hv h
  have := bounds_u16 hw
  obtain ⟨n, rfl⟩ := Int.eq_ofNat_of_zero_le this.1
  exact ⟨n, by omega, rfl, rfl, rfl, hw⟩
theorem arr_u8s {held : Bool} {t e : TypeId} {fuel : Nat} {cs : List Value} {x : DataW H × List MemPlace} (ht : P.underlying t = some (.slice e)) (he : P.underlying e = some (.int .u8)) (hc : P.cellsOf e = 1)
    (h : DataW.trod enc P W 0 (fun _ => true) held fuel t cs = some x) (hw : ∀ elems spare, x.1 = .slice elems spare → elems.length + spare.length ≤ 140737488355328) : ∃ v xs, cs = [v] ∧ Arr v encU8 1 (heapOf W) xs := by
  rcases open_ints ht he hc h with ⟨rfl, _⟩ | ⟨a, len, cap, zs, rfl, _, hl, hm, hz, hx, hcell, hwz⟩
  · exact ⟨_, [], rfl, Arr.nil (fun _ => rfl)⟩
  · have hz' : zs.length = cap := by simpa using hz
    have hb : len ≤ 140737488355328 := by
      have := hw _ _ (by rw [hx])
      simp [lits] at this
      omega
    refine ⟨_, (zs.take len).map fun n => UInt8.ofNat n.toNat, rfl, arr_one (fun x => ⟨_, rfl, rfl⟩) (by simp; omega) hl hb fun i hi u hu => ?_⟩
    have hi2 : i < zs.length := by simp at hi; omega
    rw [hcell i hi2]
    simp only [encU8, List.cons.injEq, and_true] at hu
    rw [← hu]
    have hb := range_u8 hwz i
    have e : zs[i]?.getD 0 = zs[i] := by simp [hi2]
    rw [e] at hb
    simp only [List.getElem_map, List.getElem_take, List.getD_eq_getElem?_getD, e, UInt8.toNat_ofNat']
    congr 2
    omega
theorem slice_weight {t e : TypeId} (ht : P.underlying t = some (.slice e)) (hb : 0 < P.bytesOf e) (hw : ∀ n ∈ d.weights P t, n ≤ reachBytes) : ∀ elems spare, d = .slice elems spare → elems.length + spare.length ≤ 140737488355328 := by
  rintro elems spare rfl
  have h := hw ((elems.length + spare.length) * P.bytesOf e) (by simp [DataW.weights, ht])
  have h1 : (elems.length + spare.length) * 1 ≤ (elems.length + spare.length) * P.bytesOf e := Nat.mul_le_mul_left _ hb
  have h2 : reachBytes = 140737488351232 := rfl
  omega
theorem slice_cells {t e : TypeId} (ht : P.underlying t = some (.slice e)) (hv : Value.okWide P W .any base t v) : v.cells.toList = [v] := by
  obtain ⟨a, len, cap, rfl⟩ := okWide_slice ht hv
  rfl
theorem open_u8s {t e : TypeId} (ht : P.underlying t = some (.slice e)) (he : P.underlying e = some (.int .u8)) (hc : P.cellsOf e = 1) (hb : 0 < P.bytesOf e) (hv : Value.okWide P W .any base t v)
    (h : DataW.Trod enc P W 0 (fun _ => true) true t v d ps) (hw : ∀ n ∈ d.weights P t, n ≤ reachBytes) : ∃ xs : List UInt8, Arr v encU8 1 (heapOf W) xs := by
  obtain ⟨fuel, hf⟩ := h
  rw [slice_cells ht hv] at hf
  obtain ⟨v', xs, hcs, hA⟩ := arr_u8s ht he hc hf (slice_weight ht hb hw)
  simp only [List.cons.injEq, and_true] at hcs
  subst hcs
  exact ⟨xs, hA⟩
end
end Go.X

/- An argument that is a list of lists of bytes, opened. No condition. -/
set_option linter.unusedSimpArgs false
set_option linter.unusedVariables false
namespace Go.X
open Go.ChangeShapes Go.WideShapes Go.Deep
section
variable {H : Type} {enc : TypeId × Value → H} {P : Program} {W : World} {base : Nat} {v : Value} {d : DataW H} {ps : List MemPlace}
end
end Go.X

/- Guards within guards. No condition. -/
set_option linter.unusedSimpArgs false
set_option linter.unusedVariables false
namespace Go.X
theorem bpT {b : Bool} {p : Prop} [t : BoolP b p] (h : b = true) : p := t.pf.1 h
theorem bpF {b : Bool} {p : Prop} [t : BoolP b p] (h : b = false) : ¬ p := fun hp => by rw [t.pf.2 hp] at h; cases h
theorem wanted_val {ops : Array Oper} {d : Option Tmp} {op : Op} {ty : TypeId} {pos : String} {aft : Array Edge} {j : Nat} {want : Bool} {g : Nat} {a : Array Value} {v : Value} (hj : (ops[j]?).bind (·.dst) = some g) (hv : a.getD g undef = v) (hn : v ≠ .bool want) :
    Region.wanted ⟨d, op, ty, pos, aft, some (j, want)⟩ (yielded ops a) = false := by
  have hy : yielded ops a j ≠ some want := by
    unfold yielded
    rw [hj]
    simp only [Option.bind_some]
    rcases Nat.lt_or_ge g a.size with hlt | hge
    · have e1 : a[g]? = some a[g] := Array.getElem?_eq_getElem hlt
      have e2 : a[g] = v := by simpa [hlt] using hv
      rw [e1, e2]
      intro h
      cases v <;> simp_all
    · rw [Array.getElem?_eq_none hge]
      simp
  simp only [Region.wanted]
  simpa using hy
/-- What the value at g tells: φ, or not. -/
def Tells (e : Env) (g : Nat) (want : Bool) (φ : Prop) : Prop := ∃ v, find e g = some v ∧ (φ → v = .bool want) ∧ (¬ φ → v ≠ .bool want)
theorem undef_ne {b : Bool} : undef ≠ .bool b := by simp [undef]
theorem Tells.d1 {e : Env} {g : Nat} {want b : Bool} (h : find e g = some (.bool b)) : Tells e g want (b = want) :=
  ⟨_, h, fun hb => by rw [hb], fun hb hv => hb (by simpa using hv)⟩
theorem Tells.d2 {e : Env} {g : Nat} {want b b1 w1 : Bool} (h : find e g = some (lz b1 w1 (.bool b))) : Tells e g want (b1 = w1 ∧ b = want) :=
  ⟨_, h, fun ⟨h1, h2⟩ => by simp [lz, h1, h2], fun hn hv => by
    unfold lz at hv
    split at hv
    · exact hn ⟨‹_›, by simpa using hv⟩
    · exact undef_ne hv⟩
section
variable {P : Program} {ops : Array Oper} {e : Env} {o r : List PHeap} {d : Option Tmp} {ty : TypeId} {pos : String} {aft : Array Edge}
theorem Tells.no {φ : Prop} {j : Nat} {want : Bool} {g : Nat} {op : Op} {a : Array Value} (hj : (ops[j]?).bind (·.dst) = some g) (t : Tells e g want φ) (he : ERel e a) (hn : ¬ φ) :
    Region.wanted ⟨d, op, ty, pos, aft, some (j, want)⟩ (yielded ops a) = false := by
  obtain ⟨v, h1, _, h3⟩ := t
  exact wanted_val hj (he _ _ h1) (h3 hn)
theorem Tells.yes {φ : Prop} {j : Nat} {want : Bool} {g : Nat} {op : Op} {a : Array Value} (hj : (ops[j]?).bind (·.dst) = some g) (t : Tells e g want φ) (he : ERel e a) (hn : φ) :
    Region.wanted ⟨d, op, ty, pos, aft, some (j, want)⟩ (yielded ops a) = true := by
  obtain ⟨v, h1, h2, _⟩ := t
  have := he _ _ h1
  rw [h2 hn] at this
  rw [wanted_guard hj this]
  simp
theorem Quiet.tells {φ : Prop} {op : Op} {v v' : Value} {j : Nat} {want : Bool} {g : Nat} (hj : (ops[j]?).bind (·.dst) = some g) (t : Tells e g want φ) (h1 : φ → v' = v) (h2 : ¬ φ → v' = undef)
    (h : φ → Quiet P ops ⟨d, op, ty, pos, aft, none⟩ e o r v) : Quiet P ops ⟨d, op, ty, pos, aft, some (j, want)⟩ e o r v' := by
  intro a w he hr
  by_cases hp : φ
  · rcases h hp a w he hr with ⟨_, h3⟩ | ⟨h3, _⟩
    · left
      refine ⟨t.yes hj he hp, ?_⟩
      rw [h1 hp]
      exact h3
    · simp [Region.wanted] at h3
  · exact .inr ⟨t.no hj he hp, h2 hp⟩
theorem Quiet.guard2 {op : Op} {v : Value} {j : Nat} {want b b1 w1 : Bool} {g : Nat} (hj : (ops[j]?).bind (·.dst) = some g) (hg : find e g = some (lz b1 w1 (.bool b)))
    (h : b1 = w1 → b = want → Quiet P ops ⟨d, op, ty, pos, aft, none⟩ e o r v) : Quiet P ops ⟨d, op, ty, pos, aft, some (j, want)⟩ e o r (lz b1 w1 (lz b want v)) :=
  Quiet.tells hj (.d2 hg) (fun ⟨h1, h2⟩ => by simp [lz, h1, h2]) (fun hn => by
    unfold lz
    split
    · split
      · exact absurd ⟨‹_›, ‹_›⟩ hn
      · rfl
    · rfl) (fun ⟨h1, h2⟩ => h h1 h2)
/-- A call of a function value that only computes, under guards. -/
theorem Stp.vtells {φ : Prop} {x : Operand} {l : List Operand} {tys : Array TypeId} {y : Value} {vs : List Value} {Hr : List PHeap} {u u' : Value} {j : Nat} {want : Bool} {g : Nat}
    (hj : (ops[j]?).bind (·.dst) = some g) (t : Tells e g want φ) (h1 : φ → u' = u) (h2 : ¬ φ → u' = undef) (hx : φ → ev e x = some y) (hl : φ → EvL e l vs) (hS : φ → VSpec P y vs [] Hr (fun v hs => v = u ∧ hs = [])) [al : AllIn Hr o r] :
    Stp P ops ⟨d, .call ⟨.value x, l.toArray, tys⟩, ty, pos, aft, some (j, want)⟩ e o r (fun v o2 => v = u' ∧ o2 = o) := fun D a w he hs => by
  by_cases hp : φ
  · have hw := t.yes (d := d) (ty := ty) (pos := pos) (aft := aft) (op := .call ⟨.value x, l.toArray, tys⟩) hj he hp
    have hx' : (execOp (evA a) (⟨d, .call ⟨.value x, l.toArray, tys⟩, ty, pos, aft, some (j, want)⟩ : Oper)) = callv y vs.toArray := by
      simp only [execOp, resolve, ev_rel he (hx hp), List.map_toArray, (hl hp).rel he, callv]
    have h := hS hp (D :: o) r w hs (al.more D).pf
    unfold Does
    rw [hw, if_pos rfl, hx']
    unfold NDoes at h
    split at h <;> rename_i heq
    · rw [heq]
      refine h.mono ?_
      rintro e' w' ⟨v, rfl, hs', ⟨rfl, rfl⟩, hS'⟩
      exact ⟨v, rfl, D :: o, ⟨o, ⟨(h1 hp).symm, rfl⟩, List.Perm.refl _⟩, hS'⟩
    · rw [heq]
      intro c0 cs
      obtain ⟨v, w', ⟨hs', ⟨rfl, rfl⟩, hS'⟩, st⟩ := h c0 cs
      exact ⟨v, w', ⟨D :: o, ⟨o, ⟨(h1 hp).symm, rfl⟩, List.Perm.refl _⟩, hS'⟩, st⟩
    · exact h.elim
  · unfold Does
    rw [t.no hj he hp]
    exact ⟨D :: o, ⟨o, ⟨(h2 hp).symm, rfl⟩, List.Perm.refl _⟩, hs⟩
end
section
variable {c : Cx} {ops : Array Oper} {rest : List Oper} {k : List Item} {e : Env} {o r : List PHeap} {d : Nat} {ty : TypeId} {pos : String} {aft : Array Edge}
variable {fl : List Nat} {f : List PHeap} {i0 : Nat} {bb : Bool} {tt uu : Plan}
section
variable {x : Operand} {l : List Operand} {tys : Array TypeId} {y : Value} {vs : List Value} {Hr : List PHeap} {u : Value} {j g : Nat} {want b b1 w1 b2 w2 : Bool}
theorem XO.vg2 (hj : (ops[j]?).bind (·.dst) = some g) (hg : find e g = some (lz b1 w1 (.bool b))) (hx : b1 = w1 → b = want → ev e x = some y) (hl : b1 = w1 → b = want → EvL e l vs)
    (hS : b1 = w1 → b = want → VSpec c.P y vs [] Hr (fun v hs => v = u ∧ hs = [])) [al : AllIn Hr o (c.B :: r)] (h : XO c ops rest k ((d, some (lz b1 w1 (lz b want u))) :: e) o r) :
    XO c ops (⟨some d, .call ⟨.value x, l.toArray, tys⟩, ty, pos, aft, some (j, want)⟩ :: rest) k e o r :=
  XO.s (Stp.vtells hj (.d2 hg) (u' := lz b1 w1 (lz b want u)) (fun h => by simp [lz, h.1, h.2]) (fun h => by
    unfold lz
    split
    · split
      · exact absurd ⟨‹_›, ‹_›⟩ h
      · rfl
    · rfl) (fun h => hx h.1 h.2) (fun h => hl h.1 h.2) (fun h => hS h.1 h.2)) fun v o2 ⟨h1, h2⟩ => by subst h1 h2; exact h
theorem XT.vg2 (hi : ops[i0]? = some ⟨some d, .call ⟨.value x, l.toArray, tys⟩, ty, pos, aft, some (j, want)⟩) (hok : okOper c.N ⟨some d, .call ⟨.value x, l.toArray, tys⟩, ty, pos, aft, some (j, want)⟩ = true)
    (hj : (ops[j]?).bind (·.dst) = some g) (hg : find e g = some (lz b1 w1 (.bool b))) (hx : b1 = w1 → b = want → ev e x = some y) (hl : b1 = w1 → b = want → EvL e l vs)
    (hS : b1 = w1 → b = want → VSpec c.P y vs [] Hr (fun v hs => v = u ∧ hs = [])) [al : AllIn Hr o (c.B :: r)] (h : Keeps bb f o ∧ XT c ops fl f k r tt ((d, some (lz b1 w1 (lz b want u))) :: e) o) (hu : XT c ops fl f k r uu e o) :
    XT c ops fl f k r (.br i0 bb tt uu) e o :=
  XT.s hi hok (Stp.vtells hj (.d2 hg) (u' := lz b1 w1 (lz b want u)) (fun h => by simp [lz, h.1, h.2]) (fun h => by
    unfold lz
    split
    · split
      · exact absurd ⟨‹_›, ‹_›⟩ h
      · rfl
    · rfl) (fun h => hx h.1 h.2) (fun h => hl h.1 h.2) (fun h => hS h.1 h.2)) (fun v o2 ⟨h1, h2⟩ => by subst h1 h2; exact h) hu
end
end
end Go.X

/- Shifts and bits, whatever they give. No condition. -/
set_option linter.unusedSimpArgs false
set_option linter.unusedVariables false
namespace Go.X
section
variable {P : Program} {ops : Array Oper} {e : Env} {o r : List PHeap} {d : Option Tmp} {ty : TypeId} {pos : String} {aft : Array Edge}
end
end Go.X

/- Calls under a guard that is known to hold. No condition. -/
set_option linter.unusedSimpArgs false
set_option linter.unusedVariables false
namespace Go.X
section
variable {c : Cx} {ops : Array Oper} {rest : List Oper} {k : List Item} {e : Env} {o r : List PHeap} {d : Nat} {ty : TypeId} {pos : String} {aft : Array Edge}
variable {fl : List Nat} {f : List PHeap} {i0 : Nat} {bb : Bool} {tt uu : Plan}
theorem EvL.evs {e : Env} : ∀ {l : List Operand} {vs : List Value}, EvL e l vs → evs e l = some vs
  | [], _, .n => rfl
  | x :: l, _, .c h r => by simp only [X.evs, h, EvL.evs r]
theorem XO.callS {g : FuncId} {x : Operand} {l : List Operand} {tys : Array TypeId} {fst vs cap A : List Value} {Hm Hr : List PHeap} {R : Value → List PHeap → Prop} {o1 : List PHeap} {j gt : Nat} {want b : Bool}
    (hj : (ops[j]?).bind (·.dst) = some gt) (hg : find e gt = some (.bool b)) (hb : b = want)
    (hc : ∀ args w, (callFunc g args).run c.P w = .ok (.enter g args) w) (hx : ev e x = some (.func (.func g) fst.toArray cap.toArray)) (hl : EvL e l vs) (hA : fst ++ vs ++ cap = A)
    (hS : Spec c.P g A.toArray Hm Hr R) [t : Takes Hm o o1] [al : AllIn Hr o1 (c.B :: r)] (h : ∀ v hs, R v hs → XO c ops rest k ((d, some v) :: e) (hs ++ o1) r) :
    XO c ops (⟨some d, .call ⟨.value x, l.toArray, tys⟩, ty, pos, aft, some (j, want)⟩ :: rest) k e o r :=
  XO.s (Stp.want hj hg hb (Stp.call hc hx hl.evs hA hS)) fun v o2 ⟨hs, hR, h2⟩ => by subst h2; exact h v hs hR
theorem XT.callS {g : FuncId} {x : Operand} {l : List Operand} {tys : Array TypeId} {fst vs cap A : List Value} {Hm Hr : List PHeap} {R : Value → List PHeap → Prop} {o1 : List PHeap} {j gt : Nat} {want b : Bool}
    (hi : ops[i0]? = some ⟨some d, .call ⟨.value x, l.toArray, tys⟩, ty, pos, aft, some (j, want)⟩) (hok : okOper c.N ⟨some d, .call ⟨.value x, l.toArray, tys⟩, ty, pos, aft, some (j, want)⟩ = true)
    (hj : (ops[j]?).bind (·.dst) = some gt) (hg : find e gt = some (.bool b)) (hb : b = want)
    (hc : ∀ args w, (callFunc g args).run c.P w = .ok (.enter g args) w) (hx : ev e x = some (.func (.func g) fst.toArray cap.toArray)) (hl : EvL e l vs) (hA : fst ++ vs ++ cap = A)
    (hS : Spec c.P g A.toArray Hm Hr R) [tk : Takes Hm o o1] [al : AllIn Hr o1 (c.B :: r)] (h : ∀ v hs, R v hs → Keeps bb f (hs ++ o1) ∧ XT c ops fl f k r tt ((d, some v) :: e) (hs ++ o1)) (hu : XT c ops fl f k r uu e o) :
    XT c ops fl f k r (.br i0 bb tt uu) e o :=
  XT.s hi hok (Stp.want hj hg hb (Stp.call hc hx hl.evs hA hS)) (fun v o2 ⟨hs, hR, h2⟩ => by subst h2; exact h v hs hR) hu
end
end Go.X

/- The place of a field of an element. No condition. -/
namespace Go.X
variable {P : Program} {ops : Array Oper} {e : Env} {o r : List PHeap} {d : Option Tmp} {ty : TypeId} {pos : String} {aft : Array Edge}
variable {α : Type} {enc : α → List Value} {sz : Nat} {h : PHeap} {xs : List α} {v : Value}
theorem Q.fieldQ {s' f off : Nat} [fl : Fld P s' f off] {x : Operand} {i k : Nat} (hx : ev e x = some (pat v sz i k)) [s : Arr v enc sz h xs] (hi : i < xs.length) :
    Quiet P ops ⟨d, .fieldAddr s' x f, ty, pos, aft, none⟩ e o r (pat v sz i (k + off)) := Q.fieldP (n := 0) hx hi
end Go.X

/- An element of an array value: elements of one cell. No condition. -/
set_option linter.unusedVariables false
namespace Go.X
variable {P : Program} {ops : Array Oper} {e : Env} {o r : List PHeap} {d : Option Tmp} {ty : TypeId} {pos : String} {aft : Array Edge}
theorem Q.index1 {t el len : TypeId} [u : Und P t (.array len el)] [z : TySize P el 1] [g : IsAgg P el false] {x y : Operand} {k : IntKind} {n : Int} {cs : List Value} {v : Value} (hx : ev e x = some (.agg cs.toArray)) (hy : ev e y = some (.int k n))
    (h0 : 0 ≤ n) (h1 : n < (len : Int)) (hv : cs[n.toNat]? = some v) : Quiet P ops ⟨d, .index t x y, ty, pos, aft, none⟩ e o r v := .mk fun a w he _ => by
  simp only [execOp, ev_rel he hx, ev_rel he hy]
  refine run_val ?_
  unfold Instr.index
  have e1 : (asIntOf (.int k n)).run P w = .ok (k, n) w := rfl
  rw [bind_ok e1]
  simp only
  rw [bind_ok (u.pf w)]
  simp only
  rw [if_pos ⟨h0, h1⟩, bind_ok (z.pf w)]
  unfold part
  rw [bind_ok (g.pf w)]
  simp [hv, pure]
theorem Spec.wide {f : FuncId} {args : Array Value} {Hm Hr Hr' : List PHeap} {R : Value → List PHeap → Prop} (h : Spec P f args Hm Hr R) (hh : ∀ x ∈ Hr, x ∈ Hr') : Spec P f args Hm Hr' R :=
  fun o r w hs hr => h o r w hs (fun x hx => hr x (hh x hx))
end Go.X

/- A store to the first field. -/
namespace Go.X
instance (priority := high) Upd.first {b : Nat} {vs : List Value} {o o' : List PHeap} [t : Upd b 0 vs o o'] : Upd b (0 + 0) vs o o' := ⟨t.pf⟩
end Go.X

/- min and max of whole numbers of any width. -/
set_option linter.unusedVariables false
namespace Go.X
section
variable {P : Program} {ops : Array Oper} {e : Env} {o r : List PHeap} {d : Option Tmp} {ty : TypeId} {pos : String} {aft : Array Edge}
end
end Go.X

/- Iterators that yield fresh values: what was yielded stays readable; loops over them. No condition. -/
set_option linter.unusedSimpArgs false
set_option linter.unusedVariables false
namespace Go.X

/-! ### two heaps as one -/
def cat (a b : PHeap) : PHeap := join [a, b]
theorem cat_left (a b : PHeap) : leH a (cat a b) := fun x ob h => by
  show ((a x).or _) = _
  rw [h]; rfl
theorem cat_right {a b : PHeap} (hd : Disj a b) : leH b (cat a b) := fun x ob h => by
  show ((a x).or ((b x).or none)) = _
  rcases hd x with h1 | h1
  · rw [h1, h]; rfl
  · rw [h] at h1; cases h1
theorem leH.trans {a b c : PHeap} (h1 : leH a b) (h2 : leH b c) : leH a c := fun x ob h => h2 x ob (h1 x ob h)
theorem leH.emp (h : PHeap) : leH emp h := fun x ob h => by cases h
section
variable {c : Cx} {ops : Array Oper} {rest : List Oper} {k : List Item} {e : Env} {o o1 o2 r : List PHeap} {fl : List Nat} {f : List PHeap} {t : Plan}
/-- Two owned heaps become one. -/
theorem XK.cat (a b : PHeap) [ta : Take a o o1] [tb : Take b o1 o2] (h : leH a (cat a b) → leH b (cat a b) → XK c k e (cat a b :: o2) r) : XK c k e o r := fun D ds w0 w cs ha he hD hm => by
  have hp : (D :: o).Perm ([a, b] ++ (D :: o2)) := ((ta.pf.trans (tb.pf.cons a)).cons D).trans (by
    show (D :: a :: b :: o2).Perm (a :: b :: D :: o2)
    exact (List.Perm.swap _ _ _).trans ((List.Perm.swap _ _ _).cons _))
  have hs := hm.perm hp
  have hd : Disj a b := (List.pairwise_cons.1 hs.pw).1 b (by simp)
  exact h (cat_left a b) (cat_right hd) D ds w0 w cs ha he hD ((Sep.join hs).perm (List.Perm.swap _ _ _))
theorem XO.cat (a b : PHeap) [ta : Take a o o1] [tb : Take b o1 o2] (h : leH a (cat a b) → leH b (cat a b) → XO c ops rest k e (cat a b :: o2) r) : XO c ops rest k e o r := fun j hj hok D ds w0 w cs ha he hD hm => by
  have hp : (D :: o).Perm ([a, b] ++ (D :: o2)) := ((ta.pf.trans (tb.pf.cons a)).cons D).trans (by
    show (D :: a :: b :: o2).Perm (a :: b :: D :: o2)
    exact (List.Perm.swap _ _ _).trans ((List.Perm.swap _ _ _).cons _))
  have hs := hm.perm hp
  have hd : Disj a b := (List.pairwise_cons.1 hs.pw).1 b (by simp)
  exact h (cat_left a b) (cat_right hd) j hj hok D ds w0 w cs ha he hD ((Sep.join hs).perm (List.Perm.swap _ _ _))
end
/-- Under a guard that is known not to hold, nothing is done. -/
theorem Quiet.off {P : Program} {ops : Array Oper} {e : Env} {o r : List PHeap} {d : Option Tmp} {ty : TypeId} {pos : String} {aft : Array Edge} {op : Op} {j g : Nat} {want b : Bool}
    (hj : (ops[j]?).bind (·.dst) = some g) (hg : find e g = some (.bool b)) (hb : b ≠ want) : Quiet P ops ⟨d, op, ty, pos, aft, some (j, want)⟩ e o r undef := fun a w he _ => by
  refine .inr ⟨?_, rfl⟩
  rw [wanted_guard hj (he g _ hg)]
  simp [hb]
theorem XT.vcall {c : Cx} {ops : Array Oper} {fl : List Nat} {f : List PHeap} {k : List Item} {e : Env} {o r : List PHeap} {i0 d : Nat} {ty : TypeId} {pos : String} {aft : Array Edge} {bb : Bool} {tt uu : Plan}
    {x : Operand} {l : List Operand} {tys : Array TypeId} {y : Value} {vs : List Value} {Hm Hr : List PHeap} {R : Value → List PHeap → Prop} {o1 : List PHeap}
    (hi : ops[i0]? = some ⟨some d, .call ⟨.value x, l.toArray, tys⟩, ty, pos, aft, none⟩) (hok : okOper c.N ⟨some d, .call ⟨.value x, l.toArray, tys⟩, ty, pos, aft, none⟩ = true)
    (hx : ev e x = some y) (hl : evs e l = some vs) (hS : VSpec c.P y vs Hm Hr R) [t : Takes Hm o o1] [al : AllIn Hr o1 (c.B :: r)]
    (h : ∀ v hs, R v hs → Keeps bb f (hs ++ o1) ∧ XT c ops fl f k r tt ((d, some v) :: e) (hs ++ o1)) (hu : XT c ops fl f k r uu e o) :
    XT c ops fl f k r (.br i0 bb tt uu) e o := XT.s hi hok (Stp.vcall hx hl hS) (fun v o2 ⟨hs, hR, h2⟩ => by subst h2; exact h v hs hR) hu

/-- A heap that is one of two that are read. -/
class Either (x : PHeap) (a b : outParam PHeap) : Prop where
  pf : x = a ∨ x = b
instance (priority := low) InM.either (x a b : PHeap) (o r : List PHeap) [t : Either x a b] [ia : InM a o r] [ib : InM b o r] : InM x o r := ⟨t.pf.elim (fun h => h ▸ ia.pf) (fun h => h ▸ ib.pf)⟩
/-! ### iterators with fresh values -/
/-- It yields n times; K: all that it has yielded, to be read in the rounds, owned at the end; Hs: what the iterator itself holds. -/
def ItK (P : Program) (y : Value) (n : Nat) (Y : Nat → PHeap → List Value → Prop) (Hs Hg : List PHeap) : Prop :=
  ∀ (f : Value) (Hr : List PHeap) (Q : Nat → PHeap → PHeap → Prop) (X : PHeap → PHeap → Prop),
    (∀ i K K' q, leH K K' → Q i K q → Q i K' q) →
    (∀ i, i < n → ∀ K vs q, Y i K vs → Q i K q → VSpec P f vs [q] (K :: Hr) (fun v hs => ∃ b q', v = .bool b ∧ hs = [q'] ∧ (b = true → Q (i + 1) K q') ∧ (b = false → X K q'))) →
    ∀ q, Q 0 emp q → VSpec P y [f] (q :: Hs) (Hg ++ Hr) (fun _ hs => ∃ q' K, hs = [q', K] ∧ (Q n K q' ∨ X K q'))
theorem XK.rangeK {P : Program} {f : FuncId} {N : Nat} {B : PHeap} {E : Frame → World → Prop} {X : Type} {k : List Item} {e : Env} {o o1 ok r : List PHeap} {x : Operand} {y : Value} {ps : List Tmp} {asn bd : Code} {Hs Hg : List PHeap} {n : Nat} {Y : Nat → PHeap → List Value → Prop}
    (oc : X → List PHeap) (I : Nat → X → PHeap → Prop) (J : Code → X → PHeap → Prop) (x0 : X) (o0 : List PHeap) (hx : ev e x = some y) (hit : ItK P y n Y Hs Hg)
    [rst : Rest o0 o o1] [tk : Takes Hs o1 ok] (ho0 : oc x0 = o0) (hmono : ∀ i x K K', leH K K' → I i x K → I i x K') (h0 : I 0 x0 emp)
    [al : AllIn Hg ok (B :: r)] (hps : ps.all (fun p => Nat.blt p N) = true) (hlen : ∀ i K vs, Y i K vs → vs.length = ps.length)
    (round : ∀ l rec B' i x K vs, i < n → Y i K vs → I i x K → XK (rcx P f N l rec B' (RoundR oc (fun x => I (i + 1) x K) (fun j x => J j x K))) [.code asn, .beginRound, .code bd] (pars ps vs e) (rdy l rec :: oc x) (K :: (ok ++ r)))
    (cont : ∀ x K, I n x K → XK ⟨P, f, none, N, B, E⟩ k e (oc x ++ K :: ok) r)
    (jump : ∀ j x K, J j x K → XK ⟨P, f, none, N, B, E⟩ (.code j :: k) e (oc x ++ K :: ok) r) :
    XK ⟨P, f, none, N, B, E⟩ (.code (.rangeFunc x ps.toArray asn bd) :: k) e o r := fun D ds a w cs ha he hD hm => by
  have hm0 : Sep (D :: (o0 ++ o1)) (B :: r) w := rst.wk.sepD hm
  have hm1 : Sep (D :: (o0 ++ (Hs ++ ok))) (B :: r) w := hm0.perm ((tk.pf.append_left o0).cons D)
  let rec' : Loop := { state := .ready, pending := none, fn := f, tmps := a, params := ps.toArray, assign := asn, body := bd, defers := w.heap.size }
  let l := w.heap.size + 1
  let w1 := (w.alloc (.deferred (some []))).alloc (.loop rec')
  have henter : (Instr.enterLoop f a ps.toArray asn bd none).run P w = .ok (l, [{ target := .collected w.heap.size, args := #[] }]) w1 := run_enterLoop_outer f a ps.toArray asn bd
  have hs1 : Sep (rdy l rec' :: sing w.heap.size (.deferred (some [])) :: D :: (o0 ++ (Hs ++ ok))) (B :: r) w1 := by
    have := (hm1.push (.deferred (some []))).push (.loop rec')
    simp only [Array.size_push] at this
    exact this
  let D' := Go.X.join [sing w.heap.size (.deferred (some [])), D]
  have hs2 : Sep (D' :: rdy l rec' :: (o0 ++ (Hs ++ ok))) (B :: r) w1 := by
    refine Sep.join (hs := [sing w.heap.size (.deferred (some [])), D]) (hs1.perm ?_)
    exact (List.Perm.swap _ _ _).trans ((List.Perm.swap _ _ _).cons _)
  have hD' : Marked D' (w.heap.size :: ds) := by
    refine ⟨List.nodup_cons.2 ⟨fun hmem => ?_, hD.1⟩, fun b => ?_⟩
    · have := sub_lt (hm.so D List.mem_cons_self) (b := w.heap.size) (o := .deferred (some [])) (by rw [hD.2, if_pos hmem])
      omega
    · simp only [D', Go.X.join, sing, emp, Option.or_none, hD.2 b, List.mem_cons]
      by_cases hb : b = w.heap.size
      · simp [hb]
      · simp [hb]
  have hs3 : Sep ((Go.X.join (rdy l rec' :: o0) :: Hs) ++ (D' :: ok)) (B :: r) w1 := by
    refine (Sep.join (hs := rdy l rec' :: o0) (o := D' :: (Hs ++ ok)) (hs2.perm ?_)).perm ?_
    · show (D' :: ((rdy l rec' :: o0) ++ (Hs ++ ok))).Perm ((rdy l rec' :: o0) ++ D' :: (Hs ++ ok))
      exact List.perm_middle.symm
    · show (_ :: D' :: (Hs ++ ok)).Perm (_ :: (Hs ++ D' :: ok))
      exact List.perm_middle.symm.cons _
  have hp0 : PD (rdy l rec' :: oc x0) := by
    rw [ho0]
    have hsub : (rdy l rec' :: o0).Sublist (rdy l rec' :: (o0 ++ (Hs ++ ok))) := List.Sublist.cons_cons _ (List.sublist_append_left _ _)
    exact ⟨hs2.tail.pw.sublist hsub, fun h hh => hs2.tail.no h (hsub.mem hh)⟩
  have hpsN : ∀ p ∈ ps, p < N := fun p hp => by
    have := List.all_eq_true.1 hps p hp
    rwa [Nat.blt_eq] at this
  have hyield : ∀ i, i < n → ∀ K vs q, Y i K vs → (∃ x, I i x K ∧ PD (rdy l rec' :: oc x) ∧ q = Go.X.join (rdy l rec' :: oc x)) →
      VSpec P (.func (.yield l) #[] #[]) vs [q] (K :: (ok ++ r)) (fun v hs => ∃ b q', v = .bool b ∧ hs = [q'] ∧
        (b = true → ∃ x, I (i + 1) x K ∧ PD (rdy l rec' :: oc x) ∧ q' = Go.X.join (rdy l rec' :: oc x)) ∧
        (b = false → ∃ j x, J j x K ∧ PD (ovr l rec' (some j) :: oc x) ∧ q' = Go.X.join (ovr l rec' (some j) :: oc x))) := by
    rintro i hi K vs q hY ⟨x, hI, hp, rfl⟩
    refine ((VSpec.round (rec := rec') (N := N) (e := e) rfl ha he hpsN (hlen i K vs hY) (fun B' => round l rec' B' i x K vs hi hY hI)).joined hp).mono ?_
    rintro v hs ⟨hs', ⟨j, hs'', rfl, rfl, hR⟩, hpw, rfl⟩
    refine ⟨_, _, rfl, rfl, ?_, ?_⟩
    · intro hj
      cases j with
      | some j => cases hj
      | none =>
        obtain ⟨x', h1, rfl⟩ := hR
        exact ⟨x', h1, hpw, rfl⟩
    · intro hj
      cases j with
      | none => cases hj
      | some j =>
        obtain ⟨x', h1, rfl⟩ := hR
        exact ⟨j, x', h1, hpw, rfl⟩
  have hN := hit _ (ok ++ r) (fun i K q => ∃ x, I i x K ∧ PD (rdy l rec' :: oc x) ∧ q = Go.X.join (rdy l rec' :: oc x)) _ (fun i K K' q hle ⟨x, hI, h1⟩ => ⟨x, hmono i x K K' hle hI, h1⟩) hyield (Go.X.join (rdy l rec' :: o0)) ⟨x0, h0, hp0, by rw [ho0]⟩ (D' :: ok) (B :: r) w1 hs3 (fun h hh => by
    rcases List.mem_append.1 hh with hh | hh
    · exact orMap (al.pf h hh) (List.mem_cons_of_mem _) id
    · rcases List.mem_append.1 hh with hh | hh
      · exact .inl (List.mem_cons_of_mem _ hh)
      · exact .inr (List.mem_cons_of_mem _ hh))
  obtain ⟨v, w', ⟨hs', ⟨q', K, rfl, hq⟩, hS⟩, st⟩ := step_range (ds := marks ds) (k := k) (cs := cs) henter (ev_rel he hx) hN
  have hperm : ∀ g : List PHeap, (g ++ ([K] ++ (D' :: ok))).Perm (D' :: (g ++ K :: ok)) := fun g => by
    refine ((List.Perm.swap D' K ok).append_left g).trans ?_
    exact List.perm_middle
  rcases hq with ⟨x', hI, hpw, rfl⟩ | ⟨j, x', hJ, hpw, rfl⟩
  · obtain ⟨hS2, hb⟩ := Sep.turn (y := .loop { rec' with state := .exhausted, pending := none }) (Sep.split hpw hS)
    obtain ⟨fr, w2, hE, st2⟩ := cont x' K hI D' (w.heap.size :: ds) a _ cs ha he hD' (hS2.tail.perm (hperm _))
    exact ⟨fr, w2, hE, Steps.trans st (.head (step_endRange (run_endLoop hb (by simp))) st2)⟩
  · obtain ⟨hS2, hb⟩ := Sep.turn (y := .loop { rec' with state := .exhausted, pending := some j }) (Sep.split hpw hS)
    obtain ⟨fr, w2, hE, st2⟩ := jump j x' K hJ D' (w.heap.size :: ds) a _ cs ha he hD' (hS2.tail.perm (hperm _))
    exact ⟨fr, w2, hE, Steps.trans st (.head (step_endRange (run_endLoop hb (by simp))) st2)⟩
end Go.X

/- Literals under guards: made, or not. No condition. -/
set_option linter.unusedSimpArgs false
set_option linter.unusedVariables false
namespace Go.X
section
variable {P : Program} {ops : Array Oper} {e : Env} {o r : List PHeap} {d : Option Tmp} {ty : TypeId} {pos : String} {aft : Array Edge}
theorem Stp.tells {op : Op} {φ : Prop} {j g : Nat} {want : Bool} {Ψ : Value → List PHeap → Prop} (hj : (ops[j]?).bind (·.dst) = some g) (t : Tells e g want φ) (hp : φ)
    (s : Stp P ops ⟨d, op, ty, pos, aft, none⟩ e o r Ψ) : Stp P ops ⟨d, op, ty, pos, aft, some (j, want)⟩ e o r Ψ := fun D a w he hs => by
  have h := s D a w he hs
  have hw := t.yes (d := d) (ty := ty) (pos := pos) (aft := aft) (op := op) hj he hp
  have hx : execOp (evA a) (⟨d, op, ty, pos, aft, some (j, want)⟩ : Oper) = execOp (evA a) (⟨d, op, ty, pos, aft, none⟩ : Oper) := rfl
  unfold Does at h ⊢
  rw [hw, hx, if_pos rfl]
  rwa [if_pos (by simp [Region.wanted])] at h
theorem Stp.mono {x : Oper} {Ψ Ψ' : Value → List PHeap → Prop} (s : Stp P ops x e o r Ψ) (m : ∀ v o', Ψ v o' → Ψ' v o') : Stp P ops x e o r Ψ' := fun D a w he hs =>
  (s D a w he hs).mono fun v w' ⟨o2, ⟨o', h1, h2⟩, h3⟩ => ⟨o2, ⟨o', m _ _ h1, h2⟩, h3⟩
theorem Stp.litT {α : Type} {sz : Nat} {φ : Prop} {j g : Nat} {want : Bool}
    {t el : TypeId} [u : Und P t (.slice el)] [z : TySize P el sz] {zs : List Value} [zz : Zero P el zs] {n : Nat} {l : List (Nat × Operand)} (zl cs : List Value) (xs : List α) (enc : α → List Value)
    (hj : (ops[j]?).bind (·.dst) = some g) (t2 : Tells e g want φ)
    (hzs : zs.length = sz) (hsz : Nat.blt 0 sz = true) (hn : Nat.ble (n * sz) 16777216 = true) (hzl : (List.replicate n zs).flatten = zl) (hf : φ → Fill e (fun i => some (i * sz, sz)) l zl cs)
    (henc : ∀ x, (enc x).length = sz) (hcs : xs.flatMap enc = cs) (hxn : xs.length = n) (ho : φ → Ones cs) (hle : Nat.ble n 16777216 = true) :
    Stp P ops ⟨d, .buildSlice t n l.toArray, ty, pos, aft, some (j, want)⟩ e o r (fun v o2 => ∃ h, o2 = h :: o ∧ (φ → OArr v enc sz el h xs) ∧ (¬ φ → v = undef)) := by
  by_cases hp : φ
  · exact (Stp.tells hj t2 hp ((Makes.lit (t := t) (el := el) (zs := zs) cs hzs hsz hn (by rw [hzl]; exact hf hp)).stp _ _)).mono fun v o' ⟨b, hv, ho'⟩ =>
      ⟨_, ho', fun _ => by subst hv; exact OArr.lit xs enc henc hcs hxn (ho hp) hle, fun hn => absurd hp hn⟩
  · intro D a w he hs
    unfold Does
    rw [t2.no hj he hp, if_neg (by decide)]
    exact ⟨emp :: D :: o, ⟨emp :: o, ⟨emp, rfl, fun h => absurd h hp, fun _ => rfl⟩, List.Perm.swap _ _ _⟩, hs.emp 1⟩
end
section
variable {c : Cx} {ops : Array Oper} {rest : List Oper} {k : List Item} {e : Env} {o r : List PHeap} {d : Nat} {ty : TypeId} {pos : String} {aft : Array Edge}
variable {fl : List Nat} {f : List PHeap} {i0 : Nat} {bb : Bool} {tt uu : Plan}
variable {α : Type} {sz : Nat} {j g : Nat} {want b b1 w1 : Bool} {t el : TypeId} [u : Und c.P t (.slice el)] [z : TySize c.P el sz] {zs : List Value} [zz : Zero c.P el zs] {n : Nat} {l : List (Nat × Operand)} (zl cs : List Value) (xs : List α) (enc : α → List Value)
theorem lz_of {b w : Bool} {v : Value} (h : ¬ b = w → v = undef) : v = lz b w v := by
  unfold lz
  split
  · rfl
  · exact h ‹_›
theorem lz_of2 {b1 w1 b w : Bool} {v : Value} (h : ¬ (b1 = w1 ∧ b = w) → v = undef) : v = lz b1 w1 (lz b w v) := by
  unfold lz
  split
  · split
    · rfl
    · exact h (fun hh => by rename_i h2; exact h2 hh.2)
  · exact h (fun hh => by rename_i h2; exact h2 hh.1)
theorem XO.lit1 (hj : (ops[j]?).bind (·.dst) = some g) (hg : find e g = some (.bool b))
    (hzs : zs.length = sz) (hsz : Nat.blt 0 sz = true) (hn : Nat.ble (n * sz) 16777216 = true) (hzl : (List.replicate n zs).flatten = zl) (hf : b = want → Fill e (fun i => some (i * sz, sz)) l zl cs)
    (henc : ∀ x, (enc x).length = sz) (hcs : xs.flatMap enc = cs) (hxn : xs.length = n) (ho : b = want → Ones cs) (hle : Nat.ble n 16777216 = true)
    (hnx : ∀ v' h', (b = want → OArr v' enc sz el h' xs) → XO c ops rest k ((d, some (lz b want v')) :: e) (h' :: o) r) :
    XO c ops (⟨some d, .buildSlice t n l.toArray, ty, pos, aft, some (j, want)⟩ :: rest) k e o r :=
  XO.s (Stp.litT zl cs xs enc hj (.d1 hg) hzs hsz hn hzl hf henc hcs hxn ho hle) fun v o2 ⟨h, h1, h2, h3⟩ => by
    subst h1
    have := hnx v h h2
    rwa [← lz_of h3] at this
theorem XO.lit2 (hj : (ops[j]?).bind (·.dst) = some g) (hg : find e g = some (lz b1 w1 (.bool b)))
    (hzs : zs.length = sz) (hsz : Nat.blt 0 sz = true) (hn : Nat.ble (n * sz) 16777216 = true) (hzl : (List.replicate n zs).flatten = zl) (hf : b1 = w1 → b = want → Fill e (fun i => some (i * sz, sz)) l zl cs)
    (henc : ∀ x, (enc x).length = sz) (hcs : xs.flatMap enc = cs) (hxn : xs.length = n) (ho : b1 = w1 → b = want → Ones cs) (hle : Nat.ble n 16777216 = true)
    (hnx : ∀ v' h', (b1 = w1 → b = want → OArr v' enc sz el h' xs) → XO c ops rest k ((d, some (lz b1 w1 (lz b want v'))) :: e) (h' :: o) r) :
    XO c ops (⟨some d, .buildSlice t n l.toArray, ty, pos, aft, some (j, want)⟩ :: rest) k e o r :=
  XO.s (Stp.litT zl cs xs enc hj (.d2 hg) hzs hsz hn hzl (fun h => hf h.1 h.2) henc hcs hxn (fun h => ho h.1 h.2) hle) fun v o2 ⟨h, h1, h2, h3⟩ => by
    subst h1
    have := hnx v h (fun a b => h2 ⟨a, b⟩)
    rwa [← lz_of2 h3] at this
theorem XT.lit1 (hi : ops[i0]? = some ⟨some d, .buildSlice t n l.toArray, ty, pos, aft, some (j, want)⟩) (hok : okOper c.N ⟨some d, .buildSlice t n l.toArray, ty, pos, aft, some (j, want)⟩ = true)
    (hj : (ops[j]?).bind (·.dst) = some g) (hg : find e g = some (.bool b))
    (hzs : zs.length = sz) (hsz : Nat.blt 0 sz = true) (hn : Nat.ble (n * sz) 16777216 = true) (hzl : (List.replicate n zs).flatten = zl) (hf : b = want → Fill e (fun i => some (i * sz, sz)) l zl cs)
    (henc : ∀ x, (enc x).length = sz) (hcs : xs.flatMap enc = cs) (hxn : xs.length = n) (ho : b = want → Ones cs) (hle : Nat.ble n 16777216 = true)
    (hnx : ∀ v' h', (b = want → OArr v' enc sz el h' xs) → Keeps bb f (h' :: o) ∧ XT c ops fl f k r tt ((d, some (lz b want v')) :: e) (h' :: o)) (hu : XT c ops fl f k r uu e o) : XT c ops fl f k r (.br i0 bb tt uu) e o :=
  XT.s hi hok (Stp.litT zl cs xs enc hj (.d1 hg) hzs hsz hn hzl hf henc hcs hxn ho hle) (fun v o2 ⟨h, h1, h2, h3⟩ => by
    subst h1
    have := hnx v h h2
    rwa [← lz_of h3] at this) hu
theorem XT.lit2 (hi : ops[i0]? = some ⟨some d, .buildSlice t n l.toArray, ty, pos, aft, some (j, want)⟩) (hok : okOper c.N ⟨some d, .buildSlice t n l.toArray, ty, pos, aft, some (j, want)⟩ = true)
    (hj : (ops[j]?).bind (·.dst) = some g) (hg : find e g = some (lz b1 w1 (.bool b)))
    (hzs : zs.length = sz) (hsz : Nat.blt 0 sz = true) (hn : Nat.ble (n * sz) 16777216 = true) (hzl : (List.replicate n zs).flatten = zl) (hf : b1 = w1 → b = want → Fill e (fun i => some (i * sz, sz)) l zl cs)
    (henc : ∀ x, (enc x).length = sz) (hcs : xs.flatMap enc = cs) (hxn : xs.length = n) (ho : b1 = w1 → b = want → Ones cs) (hle : Nat.ble n 16777216 = true)
    (hnx : ∀ v' h', (b1 = w1 → b = want → OArr v' enc sz el h' xs) → Keeps bb f (h' :: o) ∧ XT c ops fl f k r tt ((d, some (lz b1 w1 (lz b want v'))) :: e) (h' :: o)) (hu : XT c ops fl f k r uu e o) : XT c ops fl f k r (.br i0 bb tt uu) e o :=
  XT.s hi hok (Stp.litT zl cs xs enc hj (.d2 hg) hzs hsz hn hzl (fun h => hf h.1 h.2) henc hcs hxn (fun h => ho h.1 h.2) hle) (fun v o2 ⟨h, h1, h2, h3⟩ => by
    subst h1
    have := hnx v h (fun a b => h2 ⟨a, b⟩)
    rwa [← lz_of2 h3] at this) hu
end
end Go.X

/- Slices of slices in one heap. No condition. -/
set_option linter.unusedVariables false
namespace Go.X
/-- Slices that lie in one heap, a row each. -/
def RowsK (us : List Value) (K : PHeap) (rows : List (List Int)) : Prop := us.length = rows.length ∧ ∀ i, i < us.length → Arr (us.getD i default) encI 1 K (rows.getD i default)
theorem RowsK.nil {K : PHeap} : RowsK [] K [] := ⟨rfl, fun i hi => absurd hi (Nat.not_lt_zero i)⟩
theorem RowsK.mono {us : List Value} {K K' : PHeap} {rows : List (List Int)} (hl : leH K K') (r : RowsK us K rows) : RowsK us K' rows := ⟨r.1, fun i hi => Arr.le_heap (r.2 i hi) hl⟩
theorem rowsK_getD {α : Type} [Inhabited α] (l : List α) (x : α) (i : Nat) : (l ++ [x]).getD i default = if i < l.length then l.getD i default else if i = l.length then x else default := by
  rw [List.getD_eq_getElem?_getD, List.getElem?_append]
  split
  · rw [List.getD_eq_getElem?_getD]
  · split
    · rename_i h1 h2; subst h2; simp
    · rename_i h1 h2
      rw [List.getElem?_eq_none (by simp; omega)]; rfl
theorem RowsK.snoc {us : List Value} {K : PHeap} {rows : List (List Int)} {u : Value} {x : List Int} (r : RowsK us K rows) (a : Arr u encI 1 K x) : RowsK (us ++ [u]) K (rows ++ [x]) := ⟨by rw [List.length_append, List.length_append, r.1]; rfl, fun i hi => by
  rw [List.length_append] at hi
  rw [rowsK_getD, rowsK_getD, ← r.1]
  by_cases hc : i < us.length
  · rw [if_pos hc, if_pos hc]; exact r.2 i hc
  · rw [if_neg hc, if_neg hc, if_pos (by simp at hi; omega), if_pos (by simp at hi; omega)]; exact a⟩
end Go.X

/- x[:len(x):len(x)]. No condition. -/
set_option linter.unusedSimpArgs false
set_option linter.unusedVariables false
namespace Go.X
section
variable {P : Program} {ops : Array Oper} {e : Env} {o r : List PHeap} {d : Option Tmp} {ty : TypeId} {pos : String} {aft : Array Edge}
variable {α : Type} {enc : α → List Value} {sz : Nat} {h : PHeap} {xs : List α} {v : Value}
end
end Go.X

/- Structs of numbers, compared. No condition. -/
set_option linter.unusedSimpArgs false
set_option linter.unusedVariables false
namespace Go.X
theorem run_eqInt {P : Program} {t : TypeId} {k' k : IntKind} [u : Und P t (.int k')] {m n : Int} {d : Nat} (w : World) : (Op.equalIn (d + 1) t (.int k m) (.int k n)).run P w = .ok (m == n) w := by
  unfold Op.equalIn
  rw [bind_ok (u.pf w)]
  simp only [if_true]
  rfl
/-- The fields of a struct, each with the values that are compared, and what comes of it. -/
inductive EqF (P : Program) (d : Nat) (xs ys : Array Value) : List Field → Bool → Prop
  | n : EqF P d xs ys [] true
  | c {f : Field} {fs : List Field} {k k' : IntKind} {m n : Int} {r : Bool} (hn : (f.name == "_") = false) (ht : IsAgg P f.type false) (u : Und P f.type (.int k')) (hx : xs[f.offset]? = some (.int k m)) (hy : ys[f.offset]? = some (.int k n)) (hr : EqF P d xs ys fs r) : EqF P d xs ys (f :: fs) (decide (m = n) && r)
theorem run_part {P : Program} {t : TypeId} [ht : IsAgg P t false] {xs : Array Value} {i : Nat} {v : Value} (h : xs[i]? = some v) (w : World) : (part t xs i).run P w = .ok v w := by
  unfold part
  rw [bind_ok (ht.pf w)]
  simp only [Bool.false_eq_true, if_false, h]
  rfl
theorem eq_loop {P : Program} {d : Nat} {xs ys : Array Value} {fs : List Field} {r : Bool} (h : EqF P (d + 1) xs ys fs r) (w : World) :
    (forIn (m := Sem) fs ((none, ()) : Option Bool × Unit) fun f __s =>
                  if f.name ≠ "_" then do
                    let __do_lift ← part f.type xs f.offset
                    let __do_lift_1 ← part f.type ys f.offset
                    let __do_lift ← Op.equalIn (d + 1) f.type __do_lift __do_lift_1
                    if (!__do_lift) = true then pure (ForInStep.done (some false, ()))
                      else pure (ForInStep.yield (none, ()))
                  else pure (ForInStep.yield (none, ()))).run P w = .ok (if r = true then (none, ()) else (some false, ())) w := by
  induction h with
  | n => rfl
  | @c f fs k k' m n r hn ht u hx hy hr ih =>
    rw [List.forIn_cons, if_pos (by intro h; rw [h] at hn; simp at hn)]
    by_cases hmn : m = n
    · subst hmn
      rw [bind_ok (a := ForInStep.yield (none, ())) (w1 := w)]
      · simp only
        rw [ih]; simp
      · rw [bind_ok (run_part (ht := ht) hx w), bind_ok (run_part (ht := ht) hy w), bind_ok (run_eqInt (u := u) w)]
        simp only [beq_self_eq_true, Bool.not_true, Bool.false_eq_true, if_false]
        rfl
    · rw [bind_ok (a := ForInStep.done (some false, ())) (w1 := w)]
      · simp only [hmn, decide_false, Bool.false_and, Bool.false_eq_true, if_false]
        rfl
      · rw [bind_ok (run_part (ht := ht) hx w), bind_ok (run_part (ht := ht) hy w), bind_ok (run_eqInt (u := u) w)]
        have : (m == n) = false := by simp [hmn]
        simp only [this, Bool.not_false, if_true]
        rfl
theorem run_eqStruct {P : Program} {t : TypeId} {fs : List Field} (u : Und P t (.struct fs.toArray)) (hs : P.stoodInHeld t = false) {xs ys : Array Value} {d : Nat} {r : Bool} (h : EqF P (d + 1) xs ys fs r) (w : World) :
    (Op.equalIn (d + 2) t (.agg xs) (.agg ys)).run P w = .ok r w := by
  unfold Op.equalIn
  rw [bind_ok (u.pf w)]
  simp only
  have hp : (program).run P w = .ok P w := rfl
  rw [bind_ok hp, if_neg (by rw [hs]; decide)]
  have hl := eq_loop h w
  rw [bind_ok (a := (if r = true then (none, ()) else (some false, ()))) (w1 := w)]
  · cases r <;> rfl
  · simp only [List.forIn_toArray]
    exact hl
section
variable {P : Program} {ops : Array Oper} {e : Env} {o r : List PHeap} {d : Option Tmp} {ty : TypeId} {pos : String} {aft : Array Edge}
theorem run_guardAgg {t : TypeId} {x y : Operand} {xs ys : Array Value} {op : BinOp} (hg : P.eqGuardType P.depth t = false) (hop : op = .eql ∨ op = .neq) (w : World) : (eqGuard op t x y (.agg xs) (.agg ys)).run P w = .ok () w := by
  have hp : (program).run P w = .ok P w := rfl
  rcases hop with rfl | rfl
  · unfold eqGuard
    simp only [Bool.not_true, Bool.false_eq_true, if_false]
    rw [bind_ok hp, bind_ok hp]
    simp only [hg, Bool.not_false, if_true]
    rfl
  · unfold eqGuard
    simp only [Bool.not_true, Bool.false_eq_true, if_false]
    rw [bind_ok hp, bind_ok hp]
    simp only [hg, Bool.not_false, if_true]
    rfl
theorem Q.eqlS {t t2 : TypeId} {x y : Operand} {fs : List Field} {us vs : List Value} {b : Bool} (hx : ev e x = some (.agg us.toArray)) (hy : ev e y = some (.agg vs.toArray)) (u : Und P t (.struct fs.toArray)) (hs : P.stoodInHeld t = false) (hg : P.eqGuardType P.depth t = false)
    (h : EqF P 9999 us.toArray vs.toArray fs b) : Quiet P ops ⟨d, .binOp .eql t x y t2, ty, pos, aft, none⟩ e o r (.bool b) := .mk fun a w he _ => by
  simp only [execOp, ev_rel he hx, ev_rel he hy]
  refine run_val ?_
  rw [bind_ok (run_guardAgg hg (.inl rfl) w)]
  unfold binOp
  simp only
  have h1 : (Op.equal t (.agg us.toArray) (.agg vs.toArray)).run P w = .ok b w := run_eqStruct (d := 9998) u hs h w
  rw [bind_ok h1]
  rfl
end
end Go.X

/- copy into a part of a slice. No condition. -/
set_option linter.unusedSimpArgs false
set_option linter.unusedVariables false
namespace Go.X
section
variable {P : Program} {ops : Array Oper} {e : Env} {o r : List PHeap} {d : Option Tmp} {ty : TypeId} {pos : String} {aft : Array Edge}
variable {α : Type} {enc : α → List Value} {sz : Nat} {h : PHeap} {xs : List α} {v : Value}
end
section
variable {c : Cx} {ops : Array Oper} {rest : List Oper} {k : List Item} {e : Env} {o r : List PHeap} {d : Nat} {ty : TypeId} {pos : String} {aft : Array Edge}
variable {α : Type} {enc : α → List Value} {sz : Nat} {h : PHeap} {xs : List α} {v : Value}
variable {fl : List Nat} {f : List PHeap} {i0 : Nat} {bb : Bool} {tt uu : Plan}
end
end Go.X

/- Slices of 16-bit numbers. No condition. -/
set_option linter.unusedSimpArgs false
set_option linter.unusedVariables false
namespace Go.X
open Go.ChangeShapes Go.WideShapes Go.Deep
section
variable {H : Type} {enc : TypeId × Value → H} {P : Program} {W : World} {base : Nat} {v : Value} {d : DataW H} {ps : List MemPlace}
end
end Go.X

/- min of three. No condition. -/
set_option linter.unusedVariables false
namespace Go.X
section
variable {P : Program} {ops : Array Oper} {e : Env} {o r : List PHeap} {d : Option Tmp} {ty : TypeId} {pos : String} {aft : Array Edge}
theorem run_min3 {l m n : Int} {k : IntKind} {ty' : Array TypeId} {w : World} {cs : Array Bool} :
    (builtin .min ty' ty cs #[.int k l, .int k m, .int k n]).run P w = .ok (.value (.int k (min (min l m) n))) w := by
  simp only [builtin]
  refine run_val ?_
  have h1 : Builtin.min_ ty' ty #[.int k l, .int k m, .int k n] = (pure (.int k (if n < (if m < l then m else l) then n else (if m < l then m else l))) : Sem Value) := by
    simp [Builtin.min_, Builtin.min2]
  rw [h1]
  have h2 : (if n < (if m < l then m else l) then n else (if m < l then m else l)) = min (min l m) n := by omega
  rw [h2]; rfl
theorem Q.min3 {x y z : Operand} {tys : Array TypeId} {k : IntKind} {l m n : Int} (hx : ev e x = some (.int k l)) (hy : ev e y = some (.int k m)) (hz : ev e z = some (.int k n)) :
    Quiet P ops ⟨d, .call ⟨.builtin .min, #[x, y, z], tys⟩, ty, pos, aft, none⟩ e o r (.int k (Min.min (Min.min l m) n)) := .mk fun a w he _ => by
  simp only [execOp, resolve, List.map_toArray, List.map_cons, List.map_nil, ev_rel he hx, ev_rel he hy, ev_rel he hz]
  rw [bind_ok (a := _) (w1 := w) rfl]
  simp only [invoke]
  exact run_min3
end
end Go.X

/- A byte of a string. No condition. -/
set_option linter.unusedVariables false
namespace Go.X
section
variable {P : Program} {ops : Array Oper} {e : Env} {o r : List PHeap} {d : Option Tmp} {ty : TypeId} {pos : String} {aft : Array Edge}
end
end Go.X

/- Pointers to elements, functions compared with nil. No condition. -/
set_option linter.unusedVariables false
namespace Go.X
section
variable {α : Type} {P : Program} {ops : Array Oper} {e : Env} {o r : List PHeap} {d : Option Tmp} {ty : TypeId} {pos : String} {aft : Array Edge} {v : Value} {enc : α → List Value} {sz : Nat} {h : PHeap} {xs : List α}
theorem Q.nilCheckE {x : Operand} {i k : Nat} (hx : ev e x = some (pat v sz i k)) [s : Arr v enc sz h xs] (hi : i < xs.length) : Quiet P ops ⟨d, .nilCheck x, ty, pos, aft, none⟩ e o r (pat v sz i k) :=
  .mk fun a w he _ => by
    obtain ⟨b, kk, cs, T, fr, c, hv, hb, hp, hc⟩ := s.at' (i := i) hi
    have hx' := ev_rel he hx
    rw [hp] at hx' ⊢
    simp only [execOp, hx']; rfl
theorem run_neqFn {t : TypeId} {a : Bool} {x y : Value} {q : Array TypeId} {q2 : Array TypeId} {q3 : Bool} [u : Und P t (.func q q2 q3)] (hxy : (x = .nilFunc ∧ y = .nilFunc ∧ a = true) ∨ ((∃ f vs us, x = .func f vs us) ∧ y = .nilFunc ∧ a = false)) (w : World) :
    (Op.equal t x y).run P w = .ok a w := by
  unfold Op.equal Op.maxDepth
  unfold Op.equalIn
  rw [bind_ok (u.pf w)]
  rcases hxy with ⟨rfl, rfl, rfl⟩ | ⟨⟨f, vs, us, rfl⟩, rfl, rfl⟩ <;> rfl
theorem Q.neqNilN {t t' : TypeId} {q : Array TypeId} {q2 : Array TypeId} {q3 : Bool} [u : Und P t (.func q q2 q3)] {x : Operand} (hx : ev e x = some .nilFunc) :
    Quiet P ops ⟨d, .binOp .neq t x (.const .nilFunc) t', ty, pos, aft, none⟩ e o r (.bool false) :=
  .mk fun a w he _ => by
    have e1 : evA a (.const .nilFunc) = .nilFunc := rfl
    simp only [execOp, ev_rel he hx, e1]
    refine run_val ?_
    have h1 : (eqGuard .neq t x (.const .nilFunc) .nilFunc .nilFunc).run P w = .ok () w := rfl
    rw [bind_ok h1]
    unfold binOp
    simp only
    rw [bind_ok (run_neqFn (a := true) (.inl ⟨rfl, rfl, rfl⟩) w)]
    rfl
end
end Go.X
