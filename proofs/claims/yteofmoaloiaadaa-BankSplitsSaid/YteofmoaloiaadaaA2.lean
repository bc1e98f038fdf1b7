/- A part of the proof: a small program logic, plain laws and contracts of functions, each proved by a walk through its operations. No condition but those that stand in each theorem. -/
import Derived.Test.YteofmoaloiaadaaA1
import Derived.Carry
import Derived.Deep.Grids
import Derived.Deep.Slices
import Derived.KernelRfl
import Derived.Laws.Externs
import Derived.Lib.AppendZeros
import Derived.Lib.AppendZerosOnto
import Derived.Lib.Overlaps
import Derived.OpenShut
import Derived.ProofKit
import Derived.SizedLaws
import Derived.Test.YteofmoaloiaadaaProg
/- Bits of unsigned numbers; copies between slices. No condition. -/
set_option linter.unusedSimpArgs false
set_option linter.unusedVariables false
namespace Go.X
section
variable {P : Program} {ops : Array Oper} {e : Env} {o r : List PHeap} {d : Option Tmp} {ty : TypeId} {pos : String} {aft : Array Edge}
end

/-! ### copies -/
theorem flat_take {α : Type} {enc : α → List Value} {sz : Nat} (he : ∀ x, (enc x).length = sz) : ∀ (xs : List α) (i : Nat), (xs.take i).flatMap enc = (xs.flatMap enc).take (i * sz)
  | [], i => by simp
  | x :: xs, 0 => by simp
  | x :: xs, i + 1 => by
    rw [List.take_succ_cons, List.flatMap_cons, List.flatMap_cons, flat_take he xs i, Nat.add_mul, Nat.one_mul, List.take_append, he]
    rw [List.take_of_length_le (l := enc x) (by rw [he]; omega), show i * sz + sz - sz = i * sz by omega]
theorem flat_drop {α : Type} {enc : α → List Value} {sz : Nat} (he : ∀ x, (enc x).length = sz) : ∀ (xs : List α) (i : Nat), (xs.drop i).flatMap enc = (xs.flatMap enc).drop (i * sz)
  | [], i => by simp
  | x :: xs, 0 => by simp
  | x :: xs, i + 1 => by
    rw [List.drop_succ_cons, List.flatMap_cons, flat_drop he xs i, Nat.add_mul, Nat.one_mul, List.drop_append, he]
    rw [List.drop_of_length_le (l := enc x) (by rw [he]; omega), show i * sz + sz - sz = i * sz by omega, List.nil_append]
def tailv (v : Value) (sz i : Nat) : Value := match v with
  | .slice ad n c => .slice (if c = i then ad else ad.map (·.add (i * sz))) (n - i) (c - i)
  | v => v
def splice {α : Type} (xs ys : List α) (i : Nat) : List α := xs.take i ++ ys.take (min ys.length (xs.length - i)) ++ xs.drop (i + min ys.length (xs.length - i))
section
variable {P : Program} {ops : Array Oper} {e : Env} {o r : List PHeap} {d : Option Tmp} {ty : TypeId} {pos : String} {aft : Array Edge}
variable {α : Type} {enc : α → List Value} {sz : Nat} {h : PHeap} {xs : List α} {v : Value}
theorem Q.tail {t el : TypeId} [u : Und P t (.slice el)] [z : TySize P el sz] {x : Operand} {lo : Option Operand} {i : Nat} (hx : ev e x = some v) [s : Arr v enc sz h xs] (hlo : Bd e 0 lo i) (hi : i ≤ xs.length) :
    Quiet P ops ⟨d, .slice t x lo none none, ty, pos, aft, none⟩ e o r (tailv v sz i) := .mk fun a w he _ => by
  obtain ⟨henc, hm, ad, c, rfl, hle, hnn, hc⟩ := s.pf
  have hrun : (Instr.sliceAt t (.slice ad xs.length c) (lo.map (evA a)) none none).run P w =
      .ok (.slice (if c = i then ad else ad.map (·.add (i * sz))) (xs.length - i) (c - i)) w := by
    unfold Instr.sliceAt
    rw [bind_ok (u.pf w)]
    simp only
    unfold Instr.slice
    rw [bind_ok (u.pf w)]
    simp only
    have hb : (Instr.sliceBounds true xs.length c (lo.map (evA a)) none none).run P w = .ok (i, xs.length, c) w := by
      unfold Instr.sliceBounds
      simp only [pure_bind]
      rcases Bd.run (P := P) he hlo xs.length .sliceB (by omega) w with ⟨h3, h4⟩ | ⟨v3, h3, h4⟩
      · rw [h3, h4]; rfl
      · rw [h3]
        simp only [Option.isSome_none, Bool.false_eq_true, if_false]
        rw [bind_ok h4]; rfl
    rw [bind_ok hb]
    simp only
    rw [bind_ok (z.pf w)]
    rfl
  simp only [execOp, ev_rel he hx, Option.map_none]
  exact run_val hrun
theorem run_copy {t0 t1 ty el : TypeId} [u : Und P t0 (.slice el)] [z : TySize P el sz] {v2 : Value} {h2 : PHeap} {ys : List α} [s2 : Arr v2 enc sz h2 ys] {w w' : World} (hsub2 : sub h2 w) {ad : Option Addr} {m c : Nat}
    (hst : ((match ad with | some a => storeCells a ((ys.take (min ys.length m)).flatMap enc) 0 | none => pure () : Sem Unit)).run P w = .ok () w') :
    (Builtin.copy_ #[t0, t1] ty #[.slice ad m c, v2]).run P w = .ok (.int .i64 ((min ys.length m : Nat) : Int)) w' := by
  obtain ⟨henc2, hm2, a2, c2, hv2, hle2, hnn2, hc2⟩ := s2.pf
  have hlen2 : (Builtin.lenOf v2).run P w = .ok ys.length w := by rw [hv2]; rfl
  have hcells : (Builtin.firstCells sz (min ys.length m) v2).run P w = .ok ((ys.take (min ys.length m)).flatMap enc).toArray w := s2.cells hsub2 _ (by omega)
  unfold Builtin.copy_
  simp only [List.getElem?_toArray, List.getElem?_cons_zero, List.getElem?_cons_succ]
  rw [bind_ok (u.pf w)]
  simp only
  rw [bind_ok hlen2, bind_ok (z.pf w)]
  have hcells' : (Builtin.firstCells sz (Nat.min ys.length m) v2).run P w = .ok ((ys.take (min ys.length m)).flatMap enc).toArray w := hcells
  rw [bind_ok hcells']
  cases ad with
  | none =>
    simp only at hst ⊢
    have : w' = w := by
      have h1 : (pure () : Sem Unit).run P w = .ok () w := rfl
      rw [h1] at hst
      injection hst with h2 h3
      exact h3.symm
    subst this
    rfl
  | some a =>
    simp only at hst ⊢
    rw [bind_ok hst]
    rfl
theorem Stp0.copy {t0 t1 el T : TypeId} [u : Und P t0 (.slice el)] [z : TySize P el sz] {x y : Operand} {vd v2 : Value} {h2 : PHeap} {ys : List α} {i : Nat} {o1 : List PHeap} (hx : ev e x = some vd) (hd : vd = tailv v sz i) (hy : ev e y = some v2)
    [s : OArr v enc sz T h xs] [tk : Take h o o1] [s2 : Arr v2 enc sz h2 ys] [m : InM h2 o r] (hi : i ≤ xs.length) :
    Stp0 P ops ⟨d, .call ⟨.builtin .copy, #[x, y], #[t0, t1]⟩, ty, pos, aft, none⟩ e o r (fun v' o2 => ∃ h', v' = .int .i64 ((min ys.length (xs.length - i) : Nat) : Int) ∧ OArr v enc sz T h' (splice xs ys i) ∧ o2 = h' :: o1) := fun a w he hs => by
  subst hd
  have hs1 := hs.perm tk.pf
  have hsub2 : sub h2 w := m.pf.elim (hs.so _) (hs.sr _)
  have hx' := ev_rel he hx
  have hy' := ev_rel he hy
  obtain ⟨henc2, hm2, a2, c2, hv2, hle2, hnn2, hc2⟩ := s2.pf
  have hexec : ∀ w', (Builtin.copy_ #[t0, t1] ty #[tailv v sz i, v2]).run P w = .ok (.int .i64 ((min ys.length (xs.length - i) : Nat) : Int)) w' →
      (execOp (evA a) (⟨d, .call ⟨.builtin .copy, #[x, y], #[t0, t1]⟩, ty, pos, aft, none⟩ : Oper)).run P w = .ok (.value (.int .i64 ((min ys.length (xs.length - i) : Nat) : Int))) w' := by
    intro w' hw'
    simp only [execOp, resolve, List.map_toArray, List.map_cons, List.map_nil, hx', hy']
    exact run_val hw'
  obtain ⟨henc, hm, ⟨rfl, rfl, rfl⟩ | ⟨b, c, cs, rfl, rfl, hle, hlen, ht⟩⟩ := s.pf
  · unfold Does
    rw [if_pos (by simp [Region.wanted]), hexec w (by
      have hi0 : i = 0 := by simpa using hi
      subst hi0
      have := run_copy (t0 := t0) (t1 := t1) (ty := ty) (el := el) (s2 := s2) (w := w) (w' := w) (P := P) hsub2 (ad := none) (m := 0) (c := 0) rfl
      simpa [tailv] using this)]
    refine ⟨emp :: o1, ⟨emp, rfl, ?_, rfl⟩, hs1⟩
    simp [splice]
    exact s
  · have hn' : min ys.length (xs.length - i) ≤ xs.length - i := Nat.min_le_right _ _
    have hny : min ys.length (xs.length - i) ≤ ys.length := Nat.min_le_left _ _
    generalize hne : min ys.length (xs.length - i) = n' at *
    have hZ : ((ys.take n').flatMap enc).length = n' * sz := by rw [flat_len henc, List.length_take, Nat.min_eq_left hny]
    have hmul1 : i * sz + n' * sz ≤ xs.length * sz := by rw [← Nat.add_mul]; exact Nat.mul_le_mul_right _ (by omega)
    have hmul2 : xs.length * sz ≤ c * sz := Nat.mul_le_mul_right _ hle
    have hh : w.heap[b]? = some (.cells cs.toArray T (0, 0)) := hs1.so _ List.mem_cons_self b _ (sing_self _ _)
    have hones : ∀ v ∈ (ys.take n').flatMap enc, one v = true := fun v hv => by
      obtain ⟨y, hy1, hy2⟩ := List.mem_flatMap.1 hv
      exact hm2.2 y (List.mem_of_mem_take hy1) v hy2
    obtain ⟨w', h1, h2, h3, h4⟩ := run_storeCells (P := P) (b := b) (k := i * sz) (T := T) ((ys.take n').flatMap enc) 0 w cs hones hh (by omega)
    have hst : ((match (if c = i then some (⟨b, 0, none⟩ : Addr) else (some (⟨b, 0, none⟩ : Addr)).map (·.add (i * sz))) with | some a => storeCells a ((ys.take n').flatMap enc) 0 | none => pure () : Sem Unit)).run P w = .ok () w' := by
      by_cases hci : c = i
      · rw [if_pos hci]
        have hn0 : n' = 0 := by omega
        subst hn0
        simp only [List.take_zero, List.flatMap_nil] at h1 ⊢
        exact h1
      · rw [if_neg hci]
        simp only [Option.map_some, add_none, Nat.zero_add]
        exact h1
    unfold Does
    rw [if_pos (by simp [Region.wanted]), hexec w' (by
      have := run_copy (t0 := t0) (t1 := t1) (ty := ty) (el := el) (s2 := s2) (w := w) (w' := w') (P := P) hsub2 (ad := (if c = i then some (⟨b, 0, none⟩ : Addr) else (some (⟨b, 0, none⟩ : Addr)).map (·.add (i * sz)))) (m := xs.length - i) (c := c - i) (by rw [hne]; exact hst)
      rw [hne] at this
      exact this)]
    simp only [Nat.add_zero, hZ] at h2
    refine ⟨blk b (cs.take (i * sz) ++ (ys.take n').flatMap enc ++ cs.drop (i * sz + n' * sz)) T :: o1, ⟨_, rfl, ?_, rfl⟩, Sep.swap hs1 ?_ ?_ ?_ rfl h4⟩
    · have hlen' : (splice xs ys i).length = xs.length := by
        unfold splice; rw [hne]; simp only [List.length_append, List.length_take, List.length_drop]; omega
      refine ⟨henc, ⟨by rw [hlen']; exact hm.1, fun y hy cc hcc => ?_⟩, .inr ⟨b, c, _, by rw [hlen'], rfl, by rw [hlen']; exact hle, ?_, ?_⟩⟩
      · unfold splice at hy
        rcases List.mem_append.1 hy with hy | hy
        · rcases List.mem_append.1 hy with hy | hy
          · exact hm.2 y (List.mem_of_mem_take hy) cc hcc
          · exact hm2.2 y (List.mem_of_mem_take hy) cc hcc
        · exact hm.2 y (List.mem_of_mem_drop hy) cc hcc
      · simp only [List.length_append, List.length_take, List.length_drop, hZ]; omega
      · rw [hlen']
        unfold splice
        rw [hne, List.flatMap_append, List.flatMap_append, flat_take henc xs, flat_drop henc xs, ← ht, Nat.add_mul]
        rw [List.take_append, List.take_append]
        simp only [List.length_append, List.length_take, hZ]
        rw [List.take_of_length_le (l := cs.take (i * sz)) (by rw [List.length_take]; omega), List.take_of_length_le (l := (ys.take n').flatMap enc) (by rw [hZ]; omega)]
        congr 1
        · congr 1
          rw [List.take_take, Nat.min_eq_left (by omega)]
        · rw [List.drop_take]
          congr 1
          omega
    · exact fun x hx => none_blk (blk_none hx)
    · intro x ob hb
      obtain ⟨rfl, rfl⟩ := sing_some hb
      exact h2
    · exact fun x hx => h3 x (blk_none hx)
theorem Stp.copy {t0 t1 el T : TypeId} [u : Und P t0 (.slice el)] [z : TySize P el sz] {x y : Operand} {vd v2 : Value} {h2 : PHeap} {ys : List α} {i : Nat} {o1 : List PHeap} (hx : ev e x = some vd) (hd : vd = tailv v sz i) (hy : ev e y = some v2)
    [s : OArr v enc sz T h xs] [tk : Take h o o1] [s2 : Arr v2 enc sz h2 ys] [m : InM h2 o r] (hi : i ≤ xs.length) :
    Stp P ops ⟨d, .call ⟨.builtin .copy, #[x, y], #[t0, t1]⟩, ty, pos, aft, none⟩ e o r (fun v' o2 => ∃ h', v' = .int .i64 ((min ys.length (xs.length - i) : Nat) : Int) ∧ OArr v enc sz T h' (splice xs ys i) ∧ o2 = h' :: o1) := fun D a w he hs =>
  (Stp0.copy (tk := tk.more D) (m := m.more D) hx hd hy hi a w he hs).mono fun v w' ⟨o2, ⟨h', h1, h2, h3⟩, hs'⟩ => ⟨o2, ⟨h' :: o1, ⟨h', h1, h2, rfl⟩, by rw [h3]; exact List.Perm.swap _ _ _⟩, hs'⟩
end
section
variable {c : Cx} {ops : Array Oper} {rest : List Oper} {k : List Item} {e : Env} {o r : List PHeap} {d : Nat} {ty : TypeId} {pos : String} {aft : Array Edge}
variable {α : Type} {enc : α → List Value} {sz : Nat} {h : PHeap} {xs : List α} {v : Value}
theorem XO.copy {t0 t1 el T : TypeId} [u : Und c.P t0 (.slice el)] [z : TySize c.P el sz] {x y : Operand} {vd v2 : Value} {h2 : PHeap} {ys : List α} {i : Nat} {o1 : List PHeap} (hx : ev e x = some vd) (hd : vd = tailv v sz i) (hy : ev e y = some v2)
    [s : OArr v enc sz T h xs] [tk : Take h o o1] [s2 : Arr v2 enc sz h2 ys] [m : InM h2 o (c.B :: r)] (hi : i ≤ xs.length)
    (hn : ∀ h', OArr v enc sz T h' (splice xs ys i) → XO c ops rest k ((d, some (.int .i64 ((min ys.length (xs.length - i) : Nat) : Int))) :: e) (h' :: o1) r) :
    XO c ops (⟨some d, .call ⟨.builtin .copy, #[x, y], #[t0, t1]⟩, ty, pos, aft, none⟩ :: rest) k e o r :=
  XO.s (Stp.copy hx hd hy hi) fun v' o2 ⟨h', h1, h2, h3⟩ => by subst h1 h3; exact hn h' h2
variable {fl : List Nat} {f : List PHeap} {i0 : Nat} {bb : Bool} {tt uu : Plan}
theorem XT.copy {t0 t1 el T : TypeId} [u : Und c.P t0 (.slice el)] [z : TySize c.P el sz] {x y : Operand} {vd v2 : Value} {h2 : PHeap} {ys : List α} {i : Nat} {o1 : List PHeap}
    (hi0 : ops[i0]? = some ⟨some d, .call ⟨.builtin .copy, #[x, y], #[t0, t1]⟩, ty, pos, aft, none⟩) (hok : okOper c.N ⟨some d, .call ⟨.builtin .copy, #[x, y], #[t0, t1]⟩, ty, pos, aft, none⟩ = true)
    (hx : ev e x = some vd) (hd : vd = tailv v sz i) (hy : ev e y = some v2)
    [s : OArr v enc sz T h xs] [tk : Take h o o1] [s2 : Arr v2 enc sz h2 ys] [m : InM h2 o (c.B :: r)] (hi : i ≤ xs.length)
    (hn : ∀ h', OArr v enc sz T h' (splice xs ys i) → Keeps bb f (h' :: o1) ∧ XT c ops fl f k r tt ((d, some (.int .i64 ((min ys.length (xs.length - i) : Nat) : Int))) :: e) (h' :: o1)) (hu : XT c ops fl f k r uu e o) :
    XT c ops fl f k r (.br i0 bb tt uu) e o :=
  XT.s hi0 hok (Stp.copy hx hd hy hi) (fun v' o2 ⟨h', h1, h2, h3⟩ => by subst h1 h3; exact hn h' h2) hu
end
def cutv (v : Value) (sz i j : Nat) : Value := match v with
  | .slice ad n c => .slice (if c = i then ad else ad.map (·.add (i * sz))) (j - i) (c - i)
  | v => v
section
variable {P : Program} {ops : Array Oper} {e : Env} {o r : List PHeap} {d : Option Tmp} {ty : TypeId} {pos : String} {aft : Array Edge}
variable {α : Type} {enc : α → List Value} {sz : Nat} {h : PHeap} {xs : List α} {v : Value}
theorem Arr.cut (s : Arr v enc sz h xs) {i j : Nat} (hij : i ≤ j) (hj : j ≤ xs.length) : Arr (cutv v sz i j) enc sz h ((xs.drop i).take (j - i)) := ⟨by
  obtain ⟨henc, hm, ad, c, rfl, hle, hnn, hc⟩ := s.pf
  have hl : ((xs.drop i).take (j - i)).length = j - i := by simp; omega
  refine ⟨henc, ⟨by omega, fun y hy cc hcc => hm.2 y (List.mem_of_mem_drop (List.mem_of_mem_take hy)) cc hcc⟩, (if c = i then ad else ad.map (·.add (i * sz))), c - i, by rw [hl]; rfl, by omega, ?_, fun hp => ?_⟩
  · intro hnone
    split at hnone
    · rw [hnn hnone]; omega
    · cases ad with
      | none => rw [hnn rfl]; omega
      | some a => simp at hnone
  · obtain ⟨b, k, cs, T, fr, rfl, hb, hcs⟩ := hc (by omega)
    refine ⟨b, k + i * sz, cs, T, fr, ?_, hb, fun m n hm' hn => ?_⟩
    · rw [if_neg (by omega)]
      simp [add_none]
    · have := hcs (i + m) n (by omega) hn
      rw [Nat.add_mul, ← Nat.add_assoc] at this
      rw [this]
      congr 1
      rw [List.getElem?_take, if_pos (by omega), List.getElem?_drop]⟩
theorem Q.cut {t el : TypeId} [u : Und P t (.slice el)] [z : TySize P el sz] {x : Operand} {lo hi : Option Operand} {i j : Nat} (hx : ev e x = some v) [s : Arr v enc sz h xs] (hlo : Bd e 0 lo i) (hhi : Bd e xs.length hi j) (hij : i ≤ j) (hj : j ≤ xs.length) :
    Quiet P ops ⟨d, .slice t x lo hi none, ty, pos, aft, none⟩ e o r (cutv v sz i j) := .mk fun a w he _ => by
  obtain ⟨henc, hm, ad, c, rfl, hle, hnn, hc⟩ := s.pf
  have hrun : (Instr.sliceAt t (.slice ad xs.length c) (lo.map (evA a)) (hi.map (evA a)) none).run P w =
      .ok (.slice (if c = i then ad else ad.map (·.add (i * sz))) (j - i) (c - i)) w := by
    unfold Instr.sliceAt
    rw [bind_ok (u.pf w)]
    simp only
    unfold Instr.slice
    rw [bind_ok (u.pf w)]
    simp only
    have hb : (Instr.sliceBounds true xs.length c (lo.map (evA a)) (hi.map (evA a)) none).run P w = .ok (i, j, c) w := by
      unfold Instr.sliceBounds
      simp only [pure_bind]
      rcases Bd.run (P := P) he hhi c .sliceAcap (by omega) w with ⟨h1, h2⟩ | ⟨v1, h1, h2⟩
      · rw [h1, h2]
        simp only [pure_bind]
        rcases Bd.run (P := P) he hlo xs.length .sliceB (by omega) w with ⟨h3, h4⟩ | ⟨v3, h3, h4⟩
        · rw [h3, h4]; rfl
        · rw [h3]
          simp only [Option.isSome_none, Bool.false_eq_true, if_false]
          rw [bind_ok h4]; rfl
      · rw [h1]
        simp only [if_true]
        rw [bind_ok h2]
        rcases Bd.run (P := P) he hlo j .sliceB hij w with ⟨h3, h4⟩ | ⟨v3, h3, h4⟩
        · rw [h3, h4]; rfl
        · rw [h3]
          simp only [Option.isSome_none, Bool.false_eq_true, if_false]
          rw [bind_ok h4]; rfl
    rw [bind_ok hb]
    simp only
    rw [bind_ok (z.pf w)]
    rfl
  simp only [execOp, ev_rel he hx, Option.map_none]
  exact run_val hrun
end
end Go.X

/- Operations under a guard that is known to hold. No condition. -/
set_option linter.unusedSimpArgs false
set_option linter.unusedVariables false
namespace Go.X
section
variable {P : Program} {ops : Array Oper} {e : Env} {o r : List PHeap} {d : Option Tmp} {ty : TypeId} {pos : String} {aft : Array Edge}
theorem Stp.want {op : Op} {j gt : Nat} {want b : Bool} {Ψ : Value → List PHeap → Prop} (hj : (ops[j]?).bind (·.dst) = some gt) (hg : find e gt = some (.bool b)) (hb : b = want)
    (s : Stp P ops ⟨d, op, ty, pos, aft, none⟩ e o r Ψ) : Stp P ops ⟨d, op, ty, pos, aft, some (j, want)⟩ e o r Ψ := fun D a w he hs => by
  have h := s D a w he hs
  have hw := wanted_guard (d := d) (ty := ty) (pos := pos) (aft := aft) (want := want) (op := op) hj (he gt _ hg)
  have hx : execOp (evA a) (⟨d, op, ty, pos, aft, some (j, want)⟩ : Oper) = execOp (evA a) (⟨d, op, ty, pos, aft, none⟩ : Oper) := rfl
  unfold Does at h ⊢
  rw [hw, hx, if_pos (by simp [hb])]
  rwa [if_pos (by simp [Region.wanted])] at h
end
section
variable {c : Cx} {ops : Array Oper} {rest : List Oper} {k : List Item} {e : Env} {o r : List PHeap} {d : Nat} {ty : TypeId} {pos : String} {aft : Array Edge}
variable {α : Type} {enc : α → List Value} {sz : Nat} {h : PHeap} {xs : List α} {v : Value}
theorem XO.litG {t el : TypeId} [u : Und c.P t (.slice el)] [z : TySize c.P el sz] {zs : List Value} [zz : Zero c.P el zs] {n : Nat} {l : List (Nat × Operand)} {j gt : Nat} {want b : Bool} (zl cs : List Value) (xs : List α) (enc : α → List Value)
    (hj : (ops[j]?).bind (·.dst) = some gt) (hg : find e gt = some (.bool b)) (hb : b = want)
    (hzs : zs.length = sz) (hsz : Nat.blt 0 sz = true) (hn : Nat.ble (n * sz) 16777216 = true) (hzl : (List.replicate n zs).flatten = zl) (hf : Fill e (fun i => some (i * sz, sz)) l zl cs)
    (henc : ∀ x, (enc x).length = sz) (hcs : xs.flatMap enc = cs) (hxn : xs.length = n) (ho : Ones cs) (hle : Nat.ble n 16777216 = true)
    (hnx : ∀ v' h', OArr v' enc sz el h' xs → XO c ops rest k ((d, some v') :: e) (h' :: o) r) :
    XO c ops (⟨some d, .buildSlice t n l.toArray, ty, pos, aft, some (j, want)⟩ :: rest) k e o r :=
  XO.s (Stp.want hj hg hb ((Makes.lit cs hzs hsz hn (by rw [hzl]; exact hf)).stp _ _)) fun _ _ ⟨b, hv, ho'⟩ => by subst hv ho'; exact hnx _ _ (OArr.lit xs enc henc hcs hxn ho hle)
end
end Go.X

/- From the reading of arguments to slices that are read; what a call leaves as it was. No condition. -/
set_option linter.unusedSimpArgs false
set_option linter.unusedVariables false
namespace Go.X
open Go.ChangeShapes Go.WideShapes Go.Deep
def heapOf (w : World) : PHeap := ⟨fun b => w.heap[b]?, some (mt w)⟩
theorem heap_sep (w : World) : Sep [] [heapOf w] w where
  pw := List.Pairwise.nil
  dr := fun h hh => by cases hh
  so := fun h hh => by cases hh
  sr := fun g hg b ob hb => by
    simp only [List.mem_singleton] at hg; subst hg; exact hb
  no := fun h hh => by cases hh
  sm := fun g hg m hm => by
    simp only [List.mem_singleton] at hg; subst hg; exact Option.some.inj hm
structure Stays (W w' : World) : Prop where
  os : w'.os = W.os
  output : w'.output = W.output
  block : ∀ k, k < W.heap.size → w'.heap[k]? = W.heap[k]?
theorem stays_of {o : List PHeap} {W w' : World} (s : Sep o [heapOf W] w') : Stays W w' := by
  have h1 := s.sm _ List.mem_cons_self _ rfl
  simp only [mt, Prod.mk.injEq] at h1
  refine ⟨h1.1, h1.2, fun k hk => ?_⟩
  have h2 : W.heap[k]? = some (W.heap[k]'hk) := Array.getElem?_eq_getElem hk
  rw [h2]
  exact s.sr _ List.mem_cons_self k _ h2
theorem Stays.same {W w' : World} (h : Stays W w') {p : MemPlace} (hp : p.block < W.heap.size) : W.sameAt w' p := by
  cases p with
  | cell b o => exact World.cell?_of_block (w := W) (h.block b hp)
  | map b => exact h.block b hp
theorem Stays.frame {W w' : World} (h : Stays W w') (may : MemPlace → Prop) : W.keptBut w' may := by
  refine ⟨h.os, h.output, fun i hi => ?_⟩
  rw [h.block i hi]
  split <;> simp_all
theorem Stays.trod {H : Type} {enc : TypeId × Value → H} {P : Program} {t : TypeId} (hl : laidOutB P = true) (hr : P.readableRec t = true) (hrow : t < P.types.size) {W W' : World} {v : Value} {d : DataW H} {ps : List MemPlace}
    (h : DataW.Trod enc P W 0 (fun _ => true) true t v d ps) (hb : Stays W W') (hlt : ∀ x ∈ ps, x.block < W.heap.size) :
    DataW.Trod enc P W' 0 (fun b => decide (b < W.heap.size)) true t v d ps :=
  WideElems.Trod_stays hl hr hrow h (fun x hx => hb.same (hlt x hx)) (fun x hx => by simpa using hlt x hx)
theorem Stays.refl (W : World) : Stays W W := ⟨rfl, rfl, fun _ _ => rfl⟩
theorem calls_of_spec {P : Program} {f : FuncId} {args : Array Value} {hr : List PHeap} {W : World} {R : Value → List PHeap → Prop} (h : Spec P f args [] hr R) (hh : ∀ h ∈ hr, h = heapOf W) :
    Calls P f args W fun e w' => ∃ v hs, e = .returned v ∧ R v hs ∧ Stays W w' :=
  (h [] [heapOf W] W (heap_sep W) (fun x hx => .inr (by rw [hh x hx]; exact List.mem_cons_self))).mono fun e w' ⟨v, hs, he, hR, hS⟩ => ⟨v, hs, he, hR, stays_of (o := hs ++ []) hS⟩

theorem cell_heap {W : World} {a : Addr} {v : Value} (h : W.cell? a = some v) : ∃ cs T fr, a.spot = none ∧ W.heap[a.block]? = some (.cells cs T fr) ∧ cs[a.off]? = some v := by
  have hs := World.cell?_spot h
  unfold World.cell? at h
  split at h
  · rename_i c T fr hb
    rw [if_neg (by simp [hs])] at h
    exact ⟨c, T, fr, hs, hb, h⟩
  · cases h
theorem arr_one {α : Type} {W : World} {enc : α → List Value} (henc : ∀ x, ∃ u, enc x = [u] ∧ one u = true) {a : Addr} {len cap : Nat} {xs : List α} (hlen : xs.length = len) (hc : len ≤ cap) (h47 : len ≤ 140737488355328)
    (hcell : ∀ i (hi : i < xs.length), ∀ u, enc xs[i] = [u] → W.cell? (a.add i) = some u) : Arr (.slice (some a) len cap) enc 1 (heapOf W) xs := by
  subst hlen
  refine ⟨fun x => by obtain ⟨u, hu, _⟩ := henc x; rw [hu]; rfl, ⟨h47, fun x _ c hc => by obtain ⟨u, hu, ho⟩ := henc x; rw [hu] at hc; simp only [List.mem_singleton] at hc; subst hc; exact ho⟩, some a, cap, rfl, hc, (fun h => by cases h), fun hp => ?_⟩
  obtain ⟨u0, hu0, _⟩ := henc (xs[0]'hp)
  have h0 := hcell 0 hp u0 hu0
  obtain ⟨b, k, sp⟩ := a
  obtain ⟨cs, T, fr, hsp, hb, _⟩ := cell_heap h0
  have hsp' : sp = none := by simpa [Addr.add] using hsp
  subst hsp'
  have hb' : W.heap[b]? = some (.cells cs T fr) := by simpa [Addr.add] using hb
  refine ⟨b, k, cs, T, fr, rfl, hb', fun i j hi hj => ?_⟩
  obtain ⟨u, hu, _⟩ := henc (xs[i]'hi)
  have hi' := hcell i hi u hu
  rw [add_none] at hi'
  obtain ⟨cs2, T2, fr2, _, hb2, hc2⟩ := cell_heap hi'
  have hb2' : W.heap[b]? = some (.cells cs2 T2 fr2) := hb2
  rw [hb'] at hb2'
  simp only [Option.some.injEq, Obj.cells.injEq] at hb2'
  obtain ⟨rfl, rfl, rfl⟩ := hb2'
  have hj0 : j = 0 := by omega
  subst hj0
  rw [List.getElem?_eq_getElem hi, Option.bind_some, hu]
  simpa using hc2
section
variable {H : Type} {enc : TypeId × Value → H} {P : Program} {w : World} {held : Bool}
end
end Go.X

/- Arguments of rows opened: small numbers, slices of bytes. No condition. -/
set_option linter.unusedSimpArgs false
set_option linter.unusedVariables false
namespace Go.X
open Go.ChangeShapes Go.WideShapes Go.Deep
section
variable {H : Type} {enc : TypeId × Value → H} {P : Program} {W : World} {base : Nat} {v : Value} {d : DataW H} {ps : List MemPlace}
theorem open_u8 {t : TypeId} (ht : P.underlying t = some (.int .u8)) (hv : Value.okWide P W .any base t v) (h : DataW.Trod enc P W 0 (fun _ => true) true t v d ps) :
    ∃ n : Nat, n < 256 ∧ v = .int .u8 (n : Nat) ∧ d = .lit (.int .u8 (n : Nat)) ∧ ps = [] ∧ (Lit.int .u8 (n : Nat)).wf = true := by
  obtain ⟨m, rfl, rfl, rfl, hw⟩ := open_int ht hv h
  have := bounds_u8 hw
  obtain ⟨n, rfl⟩ := Int.eq_ofNat_of_zero_le this.1
  exact ⟨n, by omega, rfl, rfl, rfl, hw⟩
theorem arr_u8s {held : Bool} {t e : TypeId} {fuel : Nat} {cs : List Value} {x : DataW H × List MemPlace} (ht : P.underlying t = some (.slice e)) (he : P.underlying e = some (.int .u8)) (hc : P.cellsOf e = 1)
    (h : DataW.trod enc P W 0 (fun _ => true) held fuel t cs = some x) (hw : ∀ elems spare, x.1 = .slice elems spare → elems.length + spare.length ≤ 140737488355328) : ∃ v xs, cs = [v] ∧ Arr v encU8 1 (heapOf W) xs := by
  rcases open_ints ht he hc h with ⟨rfl, _⟩ | ⟨a, len, cap, zs, rfl, _, hl, hm, hz, hx, hcell, hwz⟩
  · exact ⟨_, [], rfl, Arr.nil (fun _ => rfl)⟩
  · have hz' : zs.length = cap := by simpa using hz
    have hb : len ≤ 140737488355328 := by
      have := hw _ _ (by rw [hx])
      simp [lits] at this
      omega
    refine ⟨_, (zs.take len).map fun n => UInt8.ofNat n.toNat, rfl, arr_one (fun x => ⟨_, rfl, rfl⟩) (by simp; omega) hl hb fun i hi u hu => ?_⟩
    have hi2 : i < zs.length := by simp at hi; omega
    rw [hcell i hi2]
    simp only [encU8, List.cons.injEq, and_true] at hu
    rw [← hu]
    have hb := range_u8 hwz i
    have e : zs[i]?.getD 0 = zs[i] := by simp [hi2]
    rw [e] at hb
    simp only [List.getElem_map, List.getElem_take, List.getD_eq_getElem?_getD, e, UInt8.toNat_ofNat']
    congr 2
    omega
theorem slice_weight {t e : TypeId} (ht : P.underlying t = some (.slice e)) (hb : 0 < P.bytesOf e) (hw : ∀ n ∈ d.weights P t, n ≤ reachBytes) : ∀ elems spare, d = .slice elems spare → elems.length + spare.length ≤ 140737488355328 := by
  rintro elems spare rfl
  have h := hw ((elems.length + spare.length) * P.bytesOf e) (by simp [DataW.weights, ht])
  have h1 : (elems.length + spare.length) * 1 ≤ (elems.length + spare.length) * P.bytesOf e := Nat.mul_le_mul_left _ hb
  have h2 : reachBytes = 140737488351232 := rfl
  omega
theorem slice_cells {t e : TypeId} (ht : P.underlying t = some (.slice e)) (hv : Value.okWide P W .any base t v) : v.cells.toList = [v] := by
  obtain ⟨a, len, cap, rfl⟩ := okWide_slice ht hv
  rfl
theorem open_u8s {t e : TypeId} (ht : P.underlying t = some (.slice e)) (he : P.underlying e = some (.int .u8)) (hc : P.cellsOf e = 1) (hb : 0 < P.bytesOf e) (hv : Value.okWide P W .any base t v)
    (h : DataW.Trod enc P W 0 (fun _ => true) true t v d ps) (hw : ∀ n ∈ d.weights P t, n ≤ reachBytes) : ∃ xs : List UInt8, Arr v encU8 1 (heapOf W) xs := by
  obtain ⟨fuel, hf⟩ := h
  rw [slice_cells ht hv] at hf
  obtain ⟨v', xs, hcs, hA⟩ := arr_u8s ht he hc hf (slice_weight ht hb hw)
  simp only [List.cons.injEq, and_true] at hcs
  subst hcs
  exact ⟨xs, hA⟩
end
end Go.X

/- An argument that is a list of lists of bytes, opened. No condition. -/
set_option linter.unusedSimpArgs false
set_option linter.unusedVariables false
namespace Go.X
open Go.ChangeShapes Go.WideShapes Go.Deep
section
variable {H : Type} {enc : TypeId × Value → H} {P : Program} {W : World} {base : Nat} {v : Value} {d : DataW H} {ps : List MemPlace}
end
end Go.X

/- Guards within guards. No condition. -/
set_option linter.unusedSimpArgs false
set_option linter.unusedVariables false
namespace Go.X
theorem bpT {b : Bool} {p : Prop} [t : BoolP b p] (h : b = true) : p := t.pf.1 h
theorem bpF {b : Bool} {p : Prop} [t : BoolP b p] (h : b = false) : ¬ p := fun hp => by rw [t.pf.2 hp] at h; cases h
theorem wanted_val {ops : Array Oper} {d : Option Tmp} {op : Op} {ty : TypeId} {pos : String} {aft : Array Edge} {j : Nat} {want : Bool} {g : Nat} {a : Array Value} {v : Value} (hj : (ops[j]?).bind (·.dst) = some g) (hv : a.getD g undef = v) (hn : v ≠ .bool want) :
    Region.wanted ⟨d, op, ty, pos, aft, some (j, want)⟩ (yielded ops a) = false := by
  have hy : yielded ops a j ≠ some want := by
    unfold yielded
    rw [hj]
    simp only [Option.bind_some]
    rcases Nat.lt_or_ge g a.size with hlt | hge
    · have e1 : a[g]? = some a[g] := Array.getElem?_eq_getElem hlt
      have e2 : a[g] = v := by simpa [hlt] using hv
      rw [e1, e2]
      intro h
      cases v <;> simp_all
    · rw [Array.getElem?_eq_none hge]
      simp
  simp only [Region.wanted]
  simpa using hy
/-- What the value at g tells: φ, or not. -/
def Tells (e : Env) (g : Nat) (want : Bool) (φ : Prop) : Prop := ∃ v, find e g = some v ∧ (φ → v = .bool want) ∧ (¬ φ → v ≠ .bool want)
theorem undef_ne {b : Bool} : undef ≠ .bool b := by simp [undef]
theorem Tells.d1 {e : Env} {g : Nat} {want b : Bool} (h : find e g = some (.bool b)) : Tells e g want (b = want) :=
  ⟨_, h, fun hb => by rw [hb], fun hb hv => hb (by simpa using hv)⟩
theorem Tells.d2 {e : Env} {g : Nat} {want b b1 w1 : Bool} (h : find e g = some (lz b1 w1 (.bool b))) : Tells e g want (b1 = w1 ∧ b = want) :=
  ⟨_, h, fun ⟨h1, h2⟩ => by simp [lz, h1, h2], fun hn hv => by
    unfold lz at hv
    split at hv
    · exact hn ⟨‹_›, by simpa using hv⟩
    · exact undef_ne hv⟩
theorem Tells.d3 {e : Env} {g : Nat} {want b b1 w1 b2 w2 : Bool} (h : find e g = some (lz b1 w1 (lz b2 w2 (.bool b)))) : Tells e g want (b1 = w1 ∧ b2 = w2 ∧ b = want) :=
  ⟨_, h, fun ⟨h1, h2, h3⟩ => by simp [lz, h1, h2, h3], fun hn hv => by
    unfold lz at hv
    split at hv
    · split at hv
      · exact hn ⟨‹_›, ‹_›, by simpa using hv⟩
      · exact undef_ne hv
    · exact undef_ne hv⟩
section
variable {P : Program} {ops : Array Oper} {e : Env} {o r : List PHeap} {d : Option Tmp} {ty : TypeId} {pos : String} {aft : Array Edge}
theorem Tells.no {φ : Prop} {j : Nat} {want : Bool} {g : Nat} {op : Op} {a : Array Value} (hj : (ops[j]?).bind (·.dst) = some g) (t : Tells e g want φ) (he : ERel e a) (hn : ¬ φ) :
    Region.wanted ⟨d, op, ty, pos, aft, some (j, want)⟩ (yielded ops a) = false := by
  obtain ⟨v, h1, _, h3⟩ := t
  exact wanted_val hj (he _ _ h1) (h3 hn)
theorem Tells.yes {φ : Prop} {j : Nat} {want : Bool} {g : Nat} {op : Op} {a : Array Value} (hj : (ops[j]?).bind (·.dst) = some g) (t : Tells e g want φ) (he : ERel e a) (hn : φ) :
    Region.wanted ⟨d, op, ty, pos, aft, some (j, want)⟩ (yielded ops a) = true := by
  obtain ⟨v, h1, h2, _⟩ := t
  have := he _ _ h1
  rw [h2 hn] at this
  rw [wanted_guard hj this]
  simp
theorem Quiet.tells {φ : Prop} {op : Op} {v v' : Value} {j : Nat} {want : Bool} {g : Nat} (hj : (ops[j]?).bind (·.dst) = some g) (t : Tells e g want φ) (h1 : φ → v' = v) (h2 : ¬ φ → v' = undef)
    (h : φ → Quiet P ops ⟨d, op, ty, pos, aft, none⟩ e o r v) : Quiet P ops ⟨d, op, ty, pos, aft, some (j, want)⟩ e o r v' := by
  intro a w he hr
  by_cases hp : φ
  · rcases h hp a w he hr with ⟨_, h3⟩ | ⟨h3, _⟩
    · left
      refine ⟨t.yes hj he hp, ?_⟩
      rw [h1 hp]
      exact h3
    · simp [Region.wanted] at h3
  · exact .inr ⟨t.no hj he hp, h2 hp⟩
theorem Quiet.guard2 {op : Op} {v : Value} {j : Nat} {want b b1 w1 : Bool} {g : Nat} (hj : (ops[j]?).bind (·.dst) = some g) (hg : find e g = some (lz b1 w1 (.bool b)))
    (h : b1 = w1 → b = want → Quiet P ops ⟨d, op, ty, pos, aft, none⟩ e o r v) : Quiet P ops ⟨d, op, ty, pos, aft, some (j, want)⟩ e o r (lz b1 w1 (lz b want v)) :=
  Quiet.tells hj (.d2 hg) (fun ⟨h1, h2⟩ => by simp [lz, h1, h2]) (fun hn => by
    unfold lz
    split
    · split
      · exact absurd ⟨‹_›, ‹_›⟩ hn
      · rfl
    · rfl) (fun ⟨h1, h2⟩ => h h1 h2)
theorem Quiet.guard3 {op : Op} {v : Value} {j : Nat} {want b b1 w1 b2 w2 : Bool} {g : Nat} (hj : (ops[j]?).bind (·.dst) = some g) (hg : find e g = some (lz b1 w1 (lz b2 w2 (.bool b))))
    (h : b1 = w1 → b2 = w2 → b = want → Quiet P ops ⟨d, op, ty, pos, aft, none⟩ e o r v) : Quiet P ops ⟨d, op, ty, pos, aft, some (j, want)⟩ e o r (lz b1 w1 (lz b2 w2 (lz b want v))) :=
  Quiet.tells hj (.d3 hg) (fun ⟨h1, h2, h3⟩ => by simp [lz, h1, h2, h3]) (fun hn => by
    unfold lz
    split
    · split
      · split
        · exact absurd ⟨‹_›, ‹_›, ‹_›⟩ hn
        · rfl
      · rfl
    · rfl) (fun ⟨h1, h2, h3⟩ => h h1 h2 h3)
end
section
variable {c : Cx} {ops : Array Oper} {rest : List Oper} {k : List Item} {e : Env} {o r : List PHeap} {d : Nat} {ty : TypeId} {pos : String} {aft : Array Edge}
variable {fl : List Nat} {f : List PHeap} {i0 : Nat} {bb : Bool} {tt uu : Plan}
section
variable {x : Operand} {l : List Operand} {tys : Array TypeId} {y : Value} {vs : List Value} {Hr : List PHeap} {u : Value} {j g : Nat} {want b b1 w1 b2 w2 : Bool}
end
end
end Go.X

/- Shifts and bits, whatever they give. No condition. -/
set_option linter.unusedSimpArgs false
set_option linter.unusedVariables false
namespace Go.X
section
variable {P : Program} {ops : Array Oper} {e : Env} {o r : List PHeap} {d : Option Tmp} {ty : TypeId} {pos : String} {aft : Array Edge}
end
end Go.X

/- Calls under a guard that is known to hold. No condition. -/
set_option linter.unusedSimpArgs false
set_option linter.unusedVariables false
namespace Go.X
section
variable {c : Cx} {ops : Array Oper} {rest : List Oper} {k : List Item} {e : Env} {o r : List PHeap} {d : Nat} {ty : TypeId} {pos : String} {aft : Array Edge}
variable {fl : List Nat} {f : List PHeap} {i0 : Nat} {bb : Bool} {tt uu : Plan}
theorem EvL.evs {e : Env} : ∀ {l : List Operand} {vs : List Value}, EvL e l vs → evs e l = some vs
  | [], _, .n => rfl
  | x :: l, _, .c h r => by simp only [X.evs, h, EvL.evs r]
theorem XO.callS {g : FuncId} {x : Operand} {l : List Operand} {tys : Array TypeId} {fst vs cap A : List Value} {Hm Hr : List PHeap} {R : Value → List PHeap → Prop} {o1 : List PHeap} {j gt : Nat} {want b : Bool}
    (hj : (ops[j]?).bind (·.dst) = some gt) (hg : find e gt = some (.bool b)) (hb : b = want)
    (hc : ∀ args w, (callFunc g args).run c.P w = .ok (.enter g args) w) (hx : ev e x = some (.func (.func g) fst.toArray cap.toArray)) (hl : EvL e l vs) (hA : fst ++ vs ++ cap = A)
    (hS : Spec c.P g A.toArray Hm Hr R) [t : Takes Hm o o1] [al : AllIn Hr o1 (c.B :: r)] (h : ∀ v hs, R v hs → XO c ops rest k ((d, some v) :: e) (hs ++ o1) r) :
    XO c ops (⟨some d, .call ⟨.value x, l.toArray, tys⟩, ty, pos, aft, some (j, want)⟩ :: rest) k e o r :=
  XO.s (Stp.want hj hg hb (Stp.call hc hx hl.evs hA hS)) fun v o2 ⟨hs, hR, h2⟩ => by subst h2; exact h v hs hR
theorem XT.callS {g : FuncId} {x : Operand} {l : List Operand} {tys : Array TypeId} {fst vs cap A : List Value} {Hm Hr : List PHeap} {R : Value → List PHeap → Prop} {o1 : List PHeap} {j gt : Nat} {want b : Bool}
    (hi : ops[i0]? = some ⟨some d, .call ⟨.value x, l.toArray, tys⟩, ty, pos, aft, some (j, want)⟩) (hok : okOper c.N ⟨some d, .call ⟨.value x, l.toArray, tys⟩, ty, pos, aft, some (j, want)⟩ = true)
    (hj : (ops[j]?).bind (·.dst) = some gt) (hg : find e gt = some (.bool b)) (hb : b = want)
    (hc : ∀ args w, (callFunc g args).run c.P w = .ok (.enter g args) w) (hx : ev e x = some (.func (.func g) fst.toArray cap.toArray)) (hl : EvL e l vs) (hA : fst ++ vs ++ cap = A)
    (hS : Spec c.P g A.toArray Hm Hr R) [tk : Takes Hm o o1] [al : AllIn Hr o1 (c.B :: r)] (h : ∀ v hs, R v hs → Keeps bb f (hs ++ o1) ∧ XT c ops fl f k r tt ((d, some v) :: e) (hs ++ o1)) (hu : XT c ops fl f k r uu e o) :
    XT c ops fl f k r (.br i0 bb tt uu) e o :=
  XT.s hi hok (Stp.want hj hg hb (Stp.call hc hx hl.evs hA hS)) (fun v o2 ⟨hs, hR, h2⟩ => by subst h2; exact h v hs hR) hu
end
end Go.X

/- The place of a field of an element. No condition. -/
namespace Go.X
variable {P : Program} {ops : Array Oper} {e : Env} {o r : List PHeap} {d : Option Tmp} {ty : TypeId} {pos : String} {aft : Array Edge}
variable {α : Type} {enc : α → List Value} {sz : Nat} {h : PHeap} {xs : List α} {v : Value}
theorem Q.fieldQ {s' f off : Nat} [fl : Fld P s' f off] {x : Operand} {i k : Nat} (hx : ev e x = some (pat v sz i k)) [s : Arr v enc sz h xs] (hi : i < xs.length) :
    Quiet P ops ⟨d, .fieldAddr s' x f, ty, pos, aft, none⟩ e o r (pat v sz i (k + off)) := Q.fieldP (n := 0) hx hi
end Go.X

/- An element of an array value: elements of one cell. No condition. -/
set_option linter.unusedVariables false
namespace Go.X
variable {P : Program} {ops : Array Oper} {e : Env} {o r : List PHeap} {d : Option Tmp} {ty : TypeId} {pos : String} {aft : Array Edge}
end Go.X

/- A store to the first field. -/
namespace Go.X
instance (priority := high) Upd.first {b : Nat} {vs : List Value} {o o' : List PHeap} [t : Upd b 0 vs o o'] : Upd b (0 + 0) vs o o' := ⟨t.pf⟩
end Go.X

/- min and max of whole numbers of any width. -/
set_option linter.unusedVariables false
namespace Go.X
section
variable {P : Program} {ops : Array Oper} {e : Env} {o r : List PHeap} {d : Option Tmp} {ty : TypeId} {pos : String} {aft : Array Edge}
end
end Go.X

/- Iterators that yield fresh values: what was yielded stays readable; loops over them. No condition. -/
set_option linter.unusedSimpArgs false
set_option linter.unusedVariables false
namespace Go.X

/-! ### two heaps as one -/
def cat (a b : PHeap) : PHeap := join [a, b]
theorem cat_left (a b : PHeap) : leH a (cat a b) := fun x ob h => by
  show ((a x).or _) = _
  rw [h]; rfl
theorem cat_right {a b : PHeap} (hd : Disj a b) : leH b (cat a b) := fun x ob h => by
  show ((a x).or ((b x).or none)) = _
  rcases hd x with h1 | h1
  · rw [h1, h]; rfl
  · rw [h] at h1; cases h1
theorem leH.trans {a b c : PHeap} (h1 : leH a b) (h2 : leH b c) : leH a c := fun x ob h => h2 x ob (h1 x ob h)
theorem leH.emp (h : PHeap) : leH emp h := fun x ob h => by cases h
section
variable {c : Cx} {ops : Array Oper} {rest : List Oper} {k : List Item} {e : Env} {o o1 o2 r : List PHeap} {fl : List Nat} {f : List PHeap} {t : Plan}
/-- Two owned heaps become one. -/
theorem XK.cat (a b : PHeap) [ta : Take a o o1] [tb : Take b o1 o2] (h : leH a (cat a b) → leH b (cat a b) → XK c k e (cat a b :: o2) r) : XK c k e o r := fun D ds w0 w cs ha he hD hm => by
  have hp : (D :: o).Perm ([a, b] ++ (D :: o2)) := ((ta.pf.trans (tb.pf.cons a)).cons D).trans (by
    show (D :: a :: b :: o2).Perm (a :: b :: D :: o2)
    exact (List.Perm.swap _ _ _).trans ((List.Perm.swap _ _ _).cons _))
  have hs := hm.perm hp
  have hd : Disj a b := (List.pairwise_cons.1 hs.pw).1 b (by simp)
  exact h (cat_left a b) (cat_right hd) D ds w0 w cs ha he hD ((Sep.join hs).perm (List.Perm.swap _ _ _))
theorem XO.cat (a b : PHeap) [ta : Take a o o1] [tb : Take b o1 o2] (h : leH a (cat a b) → leH b (cat a b) → XO c ops rest k e (cat a b :: o2) r) : XO c ops rest k e o r := fun j hj hok D ds w0 w cs ha he hD hm => by
  have hp : (D :: o).Perm ([a, b] ++ (D :: o2)) := ((ta.pf.trans (tb.pf.cons a)).cons D).trans (by
    show (D :: a :: b :: o2).Perm (a :: b :: D :: o2)
    exact (List.Perm.swap _ _ _).trans ((List.Perm.swap _ _ _).cons _))
  have hs := hm.perm hp
  have hd : Disj a b := (List.pairwise_cons.1 hs.pw).1 b (by simp)
  exact h (cat_left a b) (cat_right hd) j hj hok D ds w0 w cs ha he hD ((Sep.join hs).perm (List.Perm.swap _ _ _))
end
/-- Under a guard that is known not to hold, nothing is done. -/
theorem Quiet.off {P : Program} {ops : Array Oper} {e : Env} {o r : List PHeap} {d : Option Tmp} {ty : TypeId} {pos : String} {aft : Array Edge} {op : Op} {j g : Nat} {want b : Bool}
    (hj : (ops[j]?).bind (·.dst) = some g) (hg : find e g = some (.bool b)) (hb : b ≠ want) : Quiet P ops ⟨d, op, ty, pos, aft, some (j, want)⟩ e o r undef := fun a w he _ => by
  refine .inr ⟨?_, rfl⟩
  rw [wanted_guard hj (he g _ hg)]
  simp [hb]
theorem XT.vcall {c : Cx} {ops : Array Oper} {fl : List Nat} {f : List PHeap} {k : List Item} {e : Env} {o r : List PHeap} {i0 d : Nat} {ty : TypeId} {pos : String} {aft : Array Edge} {bb : Bool} {tt uu : Plan}
    {x : Operand} {l : List Operand} {tys : Array TypeId} {y : Value} {vs : List Value} {Hm Hr : List PHeap} {R : Value → List PHeap → Prop} {o1 : List PHeap}
    (hi : ops[i0]? = some ⟨some d, .call ⟨.value x, l.toArray, tys⟩, ty, pos, aft, none⟩) (hok : okOper c.N ⟨some d, .call ⟨.value x, l.toArray, tys⟩, ty, pos, aft, none⟩ = true)
    (hx : ev e x = some y) (hl : evs e l = some vs) (hS : VSpec c.P y vs Hm Hr R) [t : Takes Hm o o1] [al : AllIn Hr o1 (c.B :: r)]
    (h : ∀ v hs, R v hs → Keeps bb f (hs ++ o1) ∧ XT c ops fl f k r tt ((d, some v) :: e) (hs ++ o1)) (hu : XT c ops fl f k r uu e o) :
    XT c ops fl f k r (.br i0 bb tt uu) e o := XT.s hi hok (Stp.vcall hx hl hS) (fun v o2 ⟨hs, hR, h2⟩ => by subst h2; exact h v hs hR) hu

/-- A heap that is one of two that are read. -/
class Either (x : PHeap) (a b : outParam PHeap) : Prop where
  pf : x = a ∨ x = b
instance (priority := low) InM.either (x a b : PHeap) (o r : List PHeap) [t : Either x a b] [ia : InM a o r] [ib : InM b o r] : InM x o r := ⟨t.pf.elim (fun h => h ▸ ia.pf) (fun h => h ▸ ib.pf)⟩
/-! ### iterators with fresh values -/
/-- It yields n times; K: all that it has yielded, to be read in the rounds, owned at the end; Hs: what the iterator itself holds. -/
def ItK (P : Program) (y : Value) (n : Nat) (Y : Nat → PHeap → List Value → Prop) (Hs Hg : List PHeap) : Prop :=
  ∀ (f : Value) (Hr : List PHeap) (Q : Nat → PHeap → PHeap → Prop) (X : PHeap → PHeap → Prop),
    (∀ i K K' q, leH K K' → Q i K q → Q i K' q) →
    (∀ i, i < n → ∀ K vs q, Y i K vs → Q i K q → VSpec P f vs [q] (K :: Hr) (fun v hs => ∃ b q', v = .bool b ∧ hs = [q'] ∧ (b = true → Q (i + 1) K q') ∧ (b = false → X K q'))) →
    ∀ q, Q 0 emp q → VSpec P y [f] (q :: Hs) (Hg ++ Hr) (fun _ hs => ∃ q' K, hs = [q', K] ∧ (Q n K q' ∨ X K q'))
theorem XK.rangeK {P : Program} {f : FuncId} {N : Nat} {B : PHeap} {E : Frame → World → Prop} {X : Type} {k : List Item} {e : Env} {o o1 ok r : List PHeap} {x : Operand} {y : Value} {ps : List Tmp} {asn bd : Code} {Hs Hg : List PHeap} {n : Nat} {Y : Nat → PHeap → List Value → Prop}
    (oc : X → List PHeap) (I : Nat → X → PHeap → Prop) (J : Code → X → PHeap → Prop) (x0 : X) (o0 : List PHeap) (hx : ev e x = some y) (hit : ItK P y n Y Hs Hg)
    [rst : Rest o0 o o1] [tk : Takes Hs o1 ok] (ho0 : oc x0 = o0) (hmono : ∀ i x K K', leH K K' → I i x K → I i x K') (h0 : I 0 x0 emp)
    [al : AllIn Hg ok (B :: r)] (hps : ps.all (fun p => Nat.blt p N) = true) (hlen : ∀ i K vs, Y i K vs → vs.length = ps.length)
    (round : ∀ l rec B' i x K vs, i < n → Y i K vs → I i x K → XK (rcx P f N l rec B' (RoundR oc (fun x => I (i + 1) x K) (fun j x => J j x K))) [.code asn, .beginRound, .code bd] (pars ps vs e) (rdy l rec :: oc x) (K :: (ok ++ r)))
    (cont : ∀ x K, I n x K → XK ⟨P, f, none, N, B, E⟩ k e (oc x ++ K :: ok) r)
    (jump : ∀ j x K, J j x K → XK ⟨P, f, none, N, B, E⟩ (.code j :: k) e (oc x ++ K :: ok) r) :
    XK ⟨P, f, none, N, B, E⟩ (.code (.rangeFunc x ps.toArray asn bd) :: k) e o r := fun D ds a w cs ha he hD hm => by
  have hm0 : Sep (D :: (o0 ++ o1)) (B :: r) w := rst.wk.sepD hm
  have hm1 : Sep (D :: (o0 ++ (Hs ++ ok))) (B :: r) w := hm0.perm ((tk.pf.append_left o0).cons D)
  let rec' : Loop := { state := .ready, pending := none, fn := f, tmps := a, params := ps.toArray, assign := asn, body := bd, defers := w.heap.size }
  let l := w.heap.size + 1
  let w1 := (w.alloc (.deferred (some []))).alloc (.loop rec')
  have henter : (Instr.enterLoop f a ps.toArray asn bd none).run P w = .ok (l, [{ target := .collected w.heap.size, args := #[] }]) w1 := run_enterLoop_outer f a ps.toArray asn bd
  have hs1 : Sep (rdy l rec' :: sing w.heap.size (.deferred (some [])) :: D :: (o0 ++ (Hs ++ ok))) (B :: r) w1 := by
    have := (hm1.push (.deferred (some []))).push (.loop rec')
    simp only [Array.size_push] at this
    exact this
  let D' := Go.X.join [sing w.heap.size (.deferred (some [])), D]
  have hs2 : Sep (D' :: rdy l rec' :: (o0 ++ (Hs ++ ok))) (B :: r) w1 := by
    refine Sep.join (hs := [sing w.heap.size (.deferred (some [])), D]) (hs1.perm ?_)
    exact (List.Perm.swap _ _ _).trans ((List.Perm.swap _ _ _).cons _)
  have hD' : Marked D' (w.heap.size :: ds) := by
    refine ⟨List.nodup_cons.2 ⟨fun hmem => ?_, hD.1⟩, fun b => ?_⟩
    · have := sub_lt (hm.so D List.mem_cons_self) (b := w.heap.size) (o := .deferred (some [])) (by rw [hD.2, if_pos hmem])
      omega
    · simp only [D', Go.X.join, sing, emp, Option.or_none, hD.2 b, List.mem_cons]
      by_cases hb : b = w.heap.size
      · simp [hb]
      · simp [hb]
  have hs3 : Sep ((Go.X.join (rdy l rec' :: o0) :: Hs) ++ (D' :: ok)) (B :: r) w1 := by
    refine (Sep.join (hs := rdy l rec' :: o0) (o := D' :: (Hs ++ ok)) (hs2.perm ?_)).perm ?_
    · show (D' :: ((rdy l rec' :: o0) ++ (Hs ++ ok))).Perm ((rdy l rec' :: o0) ++ D' :: (Hs ++ ok))
      exact List.perm_middle.symm
    · show (_ :: D' :: (Hs ++ ok)).Perm (_ :: (Hs ++ D' :: ok))
      exact List.perm_middle.symm.cons _
  have hp0 : PD (rdy l rec' :: oc x0) := by
    rw [ho0]
    have hsub : (rdy l rec' :: o0).Sublist (rdy l rec' :: (o0 ++ (Hs ++ ok))) := List.Sublist.cons_cons _ (List.sublist_append_left _ _)
    exact ⟨hs2.tail.pw.sublist hsub, fun h hh => hs2.tail.no h (hsub.mem hh)⟩
  have hpsN : ∀ p ∈ ps, p < N := fun p hp => by
    have := List.all_eq_true.1 hps p hp
    rwa [Nat.blt_eq] at this
  have hyield : ∀ i, i < n → ∀ K vs q, Y i K vs → (∃ x, I i x K ∧ PD (rdy l rec' :: oc x) ∧ q = Go.X.join (rdy l rec' :: oc x)) →
      VSpec P (.func (.yield l) #[] #[]) vs [q] (K :: (ok ++ r)) (fun v hs => ∃ b q', v = .bool b ∧ hs = [q'] ∧
        (b = true → ∃ x, I (i + 1) x K ∧ PD (rdy l rec' :: oc x) ∧ q' = Go.X.join (rdy l rec' :: oc x)) ∧
        (b = false → ∃ j x, J j x K ∧ PD (ovr l rec' (some j) :: oc x) ∧ q' = Go.X.join (ovr l rec' (some j) :: oc x))) := by
    rintro i hi K vs q hY ⟨x, hI, hp, rfl⟩
    refine ((VSpec.round (rec := rec') (N := N) (e := e) rfl ha he hpsN (hlen i K vs hY) (fun B' => round l rec' B' i x K vs hi hY hI)).joined hp).mono ?_
    rintro v hs ⟨hs', ⟨j, hs'', rfl, rfl, hR⟩, hpw, rfl⟩
    refine ⟨_, _, rfl, rfl, ?_, ?_⟩
    · intro hj
      cases j with
      | some j => cases hj
      | none =>
        obtain ⟨x', h1, rfl⟩ := hR
        exact ⟨x', h1, hpw, rfl⟩
    · intro hj
      cases j with
      | none => cases hj
      | some j =>
        obtain ⟨x', h1, rfl⟩ := hR
        exact ⟨j, x', h1, hpw, rfl⟩
  have hN := hit _ (ok ++ r) (fun i K q => ∃ x, I i x K ∧ PD (rdy l rec' :: oc x) ∧ q = Go.X.join (rdy l rec' :: oc x)) _ (fun i K K' q hle ⟨x, hI, h1⟩ => ⟨x, hmono i x K K' hle hI, h1⟩) hyield (Go.X.join (rdy l rec' :: o0)) ⟨x0, h0, hp0, by rw [ho0]⟩ (D' :: ok) (B :: r) w1 hs3 (fun h hh => by
    rcases List.mem_append.1 hh with hh | hh
    · exact orMap (al.pf h hh) (List.mem_cons_of_mem _) id
    · rcases List.mem_append.1 hh with hh | hh
      · exact .inl (List.mem_cons_of_mem _ hh)
      · exact .inr (List.mem_cons_of_mem _ hh))
  obtain ⟨v, w', ⟨hs', ⟨q', K, rfl, hq⟩, hS⟩, st⟩ := step_range (ds := marks ds) (k := k) (cs := cs) henter (ev_rel he hx) hN
  have hperm : ∀ g : List PHeap, (g ++ ([K] ++ (D' :: ok))).Perm (D' :: (g ++ K :: ok)) := fun g => by
    refine ((List.Perm.swap D' K ok).append_left g).trans ?_
    exact List.perm_middle
  rcases hq with ⟨x', hI, hpw, rfl⟩ | ⟨j, x', hJ, hpw, rfl⟩
  · obtain ⟨hS2, hb⟩ := Sep.turn (y := .loop { rec' with state := .exhausted, pending := none }) (Sep.split hpw hS)
    obtain ⟨fr, w2, hE, st2⟩ := cont x' K hI D' (w.heap.size :: ds) a _ cs ha he hD' (hS2.tail.perm (hperm _))
    exact ⟨fr, w2, hE, Steps.trans st (.head (step_endRange (run_endLoop hb (by simp))) st2)⟩
  · obtain ⟨hS2, hb⟩ := Sep.turn (y := .loop { rec' with state := .exhausted, pending := some j }) (Sep.split hpw hS)
    obtain ⟨fr, w2, hE, st2⟩ := jump j x' K hJ D' (w.heap.size :: ds) a _ cs ha he hD' (hS2.tail.perm (hperm _))
    exact ⟨fr, w2, hE, Steps.trans st (.head (step_endRange (run_endLoop hb (by simp))) st2)⟩
end Go.X

/- Literals under guards: made, or not. No condition. -/
set_option linter.unusedSimpArgs false
set_option linter.unusedVariables false
namespace Go.X
section
variable {P : Program} {ops : Array Oper} {e : Env} {o r : List PHeap} {d : Option Tmp} {ty : TypeId} {pos : String} {aft : Array Edge}
theorem Stp.tells {op : Op} {φ : Prop} {j g : Nat} {want : Bool} {Ψ : Value → List PHeap → Prop} (hj : (ops[j]?).bind (·.dst) = some g) (t : Tells e g want φ) (hp : φ)
    (s : Stp P ops ⟨d, op, ty, pos, aft, none⟩ e o r Ψ) : Stp P ops ⟨d, op, ty, pos, aft, some (j, want)⟩ e o r Ψ := fun D a w he hs => by
  have h := s D a w he hs
  have hw := t.yes (d := d) (ty := ty) (pos := pos) (aft := aft) (op := op) hj he hp
  have hx : execOp (evA a) (⟨d, op, ty, pos, aft, some (j, want)⟩ : Oper) = execOp (evA a) (⟨d, op, ty, pos, aft, none⟩ : Oper) := rfl
  unfold Does at h ⊢
  rw [hw, hx, if_pos rfl]
  rwa [if_pos (by simp [Region.wanted])] at h
theorem Stp.mono {x : Oper} {Ψ Ψ' : Value → List PHeap → Prop} (s : Stp P ops x e o r Ψ) (m : ∀ v o', Ψ v o' → Ψ' v o') : Stp P ops x e o r Ψ' := fun D a w he hs =>
  (s D a w he hs).mono fun v w' ⟨o2, ⟨o', h1, h2⟩, h3⟩ => ⟨o2, ⟨o', m _ _ h1, h2⟩, h3⟩
theorem Stp.litT {α : Type} {sz : Nat} {φ : Prop} {j g : Nat} {want : Bool}
    {t el : TypeId} [u : Und P t (.slice el)] [z : TySize P el sz] {zs : List Value} [zz : Zero P el zs] {n : Nat} {l : List (Nat × Operand)} (zl cs : List Value) (xs : List α) (enc : α → List Value)
    (hj : (ops[j]?).bind (·.dst) = some g) (t2 : Tells e g want φ)
    (hzs : zs.length = sz) (hsz : Nat.blt 0 sz = true) (hn : Nat.ble (n * sz) 16777216 = true) (hzl : (List.replicate n zs).flatten = zl) (hf : φ → Fill e (fun i => some (i * sz, sz)) l zl cs)
    (henc : ∀ x, (enc x).length = sz) (hcs : xs.flatMap enc = cs) (hxn : xs.length = n) (ho : φ → Ones cs) (hle : Nat.ble n 16777216 = true) :
    Stp P ops ⟨d, .buildSlice t n l.toArray, ty, pos, aft, some (j, want)⟩ e o r (fun v o2 => ∃ h, o2 = h :: o ∧ (φ → OArr v enc sz el h xs) ∧ (¬ φ → v = undef)) := by
  by_cases hp : φ
  · exact (Stp.tells hj t2 hp ((Makes.lit (t := t) (el := el) (zs := zs) cs hzs hsz hn (by rw [hzl]; exact hf hp)).stp _ _)).mono fun v o' ⟨b, hv, ho'⟩ =>
      ⟨_, ho', fun _ => by subst hv; exact OArr.lit xs enc henc hcs hxn (ho hp) hle, fun hn => absurd hp hn⟩
  · intro D a w he hs
    unfold Does
    rw [t2.no hj he hp, if_neg (by decide)]
    exact ⟨emp :: D :: o, ⟨emp :: o, ⟨emp, rfl, fun h => absurd h hp, fun _ => rfl⟩, List.Perm.swap _ _ _⟩, hs.emp 1⟩
end
section
variable {c : Cx} {ops : Array Oper} {rest : List Oper} {k : List Item} {e : Env} {o r : List PHeap} {d : Nat} {ty : TypeId} {pos : String} {aft : Array Edge}
variable {fl : List Nat} {f : List PHeap} {i0 : Nat} {bb : Bool} {tt uu : Plan}
variable {α : Type} {sz : Nat} {j g : Nat} {want b b1 w1 : Bool} {t el : TypeId} [u : Und c.P t (.slice el)] [z : TySize c.P el sz] {zs : List Value} [zz : Zero c.P el zs] {n : Nat} {l : List (Nat × Operand)} (zl cs : List Value) (xs : List α) (enc : α → List Value)
theorem lz_of {b w : Bool} {v : Value} (h : ¬ b = w → v = undef) : v = lz b w v := by
  unfold lz
  split
  · rfl
  · exact h ‹_›
theorem XO.lit1 (hj : (ops[j]?).bind (·.dst) = some g) (hg : find e g = some (.bool b))
    (hzs : zs.length = sz) (hsz : Nat.blt 0 sz = true) (hn : Nat.ble (n * sz) 16777216 = true) (hzl : (List.replicate n zs).flatten = zl) (hf : b = want → Fill e (fun i => some (i * sz, sz)) l zl cs)
    (henc : ∀ x, (enc x).length = sz) (hcs : xs.flatMap enc = cs) (hxn : xs.length = n) (ho : b = want → Ones cs) (hle : Nat.ble n 16777216 = true)
    (hnx : ∀ v' h', (b = want → OArr v' enc sz el h' xs) → XO c ops rest k ((d, some (lz b want v')) :: e) (h' :: o) r) :
    XO c ops (⟨some d, .buildSlice t n l.toArray, ty, pos, aft, some (j, want)⟩ :: rest) k e o r :=
  XO.s (Stp.litT zl cs xs enc hj (.d1 hg) hzs hsz hn hzl hf henc hcs hxn ho hle) fun v o2 ⟨h, h1, h2, h3⟩ => by
    subst h1
    have := hnx v h h2
    rwa [← lz_of h3] at this
theorem XT.lit1 (hi : ops[i0]? = some ⟨some d, .buildSlice t n l.toArray, ty, pos, aft, some (j, want)⟩) (hok : okOper c.N ⟨some d, .buildSlice t n l.toArray, ty, pos, aft, some (j, want)⟩ = true)
    (hj : (ops[j]?).bind (·.dst) = some g) (hg : find e g = some (.bool b))
    (hzs : zs.length = sz) (hsz : Nat.blt 0 sz = true) (hn : Nat.ble (n * sz) 16777216 = true) (hzl : (List.replicate n zs).flatten = zl) (hf : b = want → Fill e (fun i => some (i * sz, sz)) l zl cs)
    (henc : ∀ x, (enc x).length = sz) (hcs : xs.flatMap enc = cs) (hxn : xs.length = n) (ho : b = want → Ones cs) (hle : Nat.ble n 16777216 = true)
    (hnx : ∀ v' h', (b = want → OArr v' enc sz el h' xs) → Keeps bb f (h' :: o) ∧ XT c ops fl f k r tt ((d, some (lz b want v')) :: e) (h' :: o)) (hu : XT c ops fl f k r uu e o) : XT c ops fl f k r (.br i0 bb tt uu) e o :=
  XT.s hi hok (Stp.litT zl cs xs enc hj (.d1 hg) hzs hsz hn hzl hf henc hcs hxn ho hle) (fun v o2 ⟨h, h1, h2, h3⟩ => by
    subst h1
    have := hnx v h h2
    rwa [← lz_of h3] at this) hu
end
end Go.X

/- Slices of slices in one heap. No condition. -/
set_option linter.unusedVariables false
namespace Go.X
/-- Slices that lie in one heap, a row each. -/
def RowsK (us : List Value) (K : PHeap) (rows : List (List Int)) : Prop := us.length = rows.length ∧ ∀ i, i < us.length → Arr (us.getD i default) encI 1 K (rows.getD i default)
theorem RowsK.nil {K : PHeap} : RowsK [] K [] := ⟨rfl, fun i hi => absurd hi (Nat.not_lt_zero i)⟩
theorem RowsK.mono {us : List Value} {K K' : PHeap} {rows : List (List Int)} (hl : leH K K') (r : RowsK us K rows) : RowsK us K' rows := ⟨r.1, fun i hi => Arr.le_heap (r.2 i hi) hl⟩
end Go.X

/- x[:len(x):len(x)]. No condition. -/
set_option linter.unusedSimpArgs false
set_option linter.unusedVariables false
namespace Go.X
section
variable {P : Program} {ops : Array Oper} {e : Env} {o r : List PHeap} {d : Option Tmp} {ty : TypeId} {pos : String} {aft : Array Edge}
variable {α : Type} {enc : α → List Value} {sz : Nat} {h : PHeap} {xs : List α} {v : Value}
end
end Go.X

/- Structs of numbers, compared. No condition. -/
set_option linter.unusedSimpArgs false
set_option linter.unusedVariables false
namespace Go.X
/-- The fields of a struct, each with the values that are compared, and what comes of it. -/
inductive EqF (P : Program) (d : Nat) (xs ys : Array Value) : List Field → Bool → Prop
  | n : EqF P d xs ys [] true
  | c {f : Field} {fs : List Field} {k k' : IntKind} {m n : Int} {r : Bool} (hn : (f.name == "_") = false) (ht : IsAgg P f.type false) (u : Und P f.type (.int k')) (hx : xs[f.offset]? = some (.int k m)) (hy : ys[f.offset]? = some (.int k n)) (hr : EqF P d xs ys fs r) : EqF P d xs ys (f :: fs) (decide (m = n) && r)
section
variable {P : Program} {ops : Array Oper} {e : Env} {o r : List PHeap} {d : Option Tmp} {ty : TypeId} {pos : String} {aft : Array Edge}
end
end Go.X

/- copy into a part of a slice. No condition. -/
set_option linter.unusedSimpArgs false
set_option linter.unusedVariables false
namespace Go.X
section
variable {P : Program} {ops : Array Oper} {e : Env} {o r : List PHeap} {d : Option Tmp} {ty : TypeId} {pos : String} {aft : Array Edge}
variable {α : Type} {enc : α → List Value} {sz : Nat} {h : PHeap} {xs : List α} {v : Value}
end
section
variable {c : Cx} {ops : Array Oper} {rest : List Oper} {k : List Item} {e : Env} {o r : List PHeap} {d : Nat} {ty : TypeId} {pos : String} {aft : Array Edge}
variable {α : Type} {enc : α → List Value} {sz : Nat} {h : PHeap} {xs : List α} {v : Value}
variable {fl : List Nat} {f : List PHeap} {i0 : Nat} {bb : Bool} {tt uu : Plan}
end
end Go.X

/- Slices of 16-bit numbers. No condition. -/
set_option linter.unusedSimpArgs false
set_option linter.unusedVariables false
namespace Go.X
open Go.ChangeShapes Go.WideShapes Go.Deep
section
variable {H : Type} {enc : TypeId × Value → H} {P : Program} {W : World} {base : Nat} {v : Value} {d : DataW H} {ps : List MemPlace}
end
end Go.X

/- min of three. No condition. -/
set_option linter.unusedVariables false
namespace Go.X
section
variable {P : Program} {ops : Array Oper} {e : Env} {o r : List PHeap} {d : Option Tmp} {ty : TypeId} {pos : String} {aft : Array Edge}
theorem run_min3 {l m n : Int} {k : IntKind} {ty' : Array TypeId} {w : World} {cs : Array Bool} :
    (builtin .min ty' ty cs #[.int k l, .int k m, .int k n]).run P w = .ok (.value (.int k (min (min l m) n))) w := by
  simp only [builtin]
  refine run_val ?_
  have h1 : Builtin.min_ ty' ty #[.int k l, .int k m, .int k n] = (pure (.int k (if n < (if m < l then m else l) then n else (if m < l then m else l))) : Sem Value) := by
    simp [Builtin.min_, Builtin.min2]
  rw [h1]
  have h2 : (if n < (if m < l then m else l) then n else (if m < l then m else l)) = min (min l m) n := by omega
  rw [h2]; rfl
theorem Q.min3 {x y z : Operand} {tys : Array TypeId} {k : IntKind} {l m n : Int} (hx : ev e x = some (.int k l)) (hy : ev e y = some (.int k m)) (hz : ev e z = some (.int k n)) :
    Quiet P ops ⟨d, .call ⟨.builtin .min, #[x, y, z], tys⟩, ty, pos, aft, none⟩ e o r (.int k (Min.min (Min.min l m) n)) := .mk fun a w he _ => by
  simp only [execOp, resolve, List.map_toArray, List.map_cons, List.map_nil, ev_rel he hx, ev_rel he hy, ev_rel he hz]
  rw [bind_ok (a := _) (w1 := w) rfl]
  simp only [invoke]
  exact run_min3
end
end Go.X

/- A byte of a string. No condition. -/
set_option linter.unusedVariables false
namespace Go.X
section
variable {P : Program} {ops : Array Oper} {e : Env} {o r : List PHeap} {d : Option Tmp} {ty : TypeId} {pos : String} {aft : Array Edge}
end
end Go.X

/- Pointers to elements, functions compared with nil. No condition. -/
set_option linter.unusedVariables false
namespace Go.X
section
variable {α : Type} {P : Program} {ops : Array Oper} {e : Env} {o r : List PHeap} {d : Option Tmp} {ty : TypeId} {pos : String} {aft : Array Edge} {v : Value} {enc : α → List Value} {sz : Nat} {h : PHeap} {xs : List α}
theorem Q.nilCheckE {x : Operand} {i k : Nat} (hx : ev e x = some (pat v sz i k)) [s : Arr v enc sz h xs] (hi : i < xs.length) : Quiet P ops ⟨d, .nilCheck x, ty, pos, aft, none⟩ e o r (pat v sz i k) :=
  .mk fun a w he _ => by
    obtain ⟨b, kk, cs, T, fr, c, hv, hb, hp, hc⟩ := s.at' (i := i) hi
    have hx' := ev_rel he hx
    rw [hp] at hx' ⊢
    simp only [execOp, hx']; rfl
theorem run_neqFn {t : TypeId} {a : Bool} {x y : Value} {q : Array TypeId} {q2 : Array TypeId} {q3 : Bool} [u : Und P t (.func q q2 q3)] (hxy : (x = .nilFunc ∧ y = .nilFunc ∧ a = true) ∨ ((∃ f vs us, x = .func f vs us) ∧ y = .nilFunc ∧ a = false)) (w : World) :
    (Op.equal t x y).run P w = .ok a w := by
  unfold Op.equal Op.maxDepth
  unfold Op.equalIn
  rw [bind_ok (u.pf w)]
  rcases hxy with ⟨rfl, rfl, rfl⟩ | ⟨⟨f, vs, us, rfl⟩, rfl, rfl⟩ <;> rfl
theorem Q.neqNilN {t t' : TypeId} {q : Array TypeId} {q2 : Array TypeId} {q3 : Bool} [u : Und P t (.func q q2 q3)] {x : Operand} (hx : ev e x = some .nilFunc) :
    Quiet P ops ⟨d, .binOp .neq t x (.const .nilFunc) t', ty, pos, aft, none⟩ e o r (.bool false) :=
  .mk fun a w he _ => by
    have e1 : evA a (.const .nilFunc) = .nilFunc := rfl
    simp only [execOp, ev_rel he hx, e1]
    refine run_val ?_
    have h1 : (eqGuard .neq t x (.const .nilFunc) .nilFunc .nilFunc).run P w = .ok () w := rfl
    rw [bind_ok h1]
    unfold binOp
    simp only
    rw [bind_ok (run_neqFn (a := true) (.inl ⟨rfl, rfl, rfl⟩) w)]
    rfl
end
end Go.X

/- Plain facts on lists. No condition. -/
set_option linter.unusedVariables false
namespace Go.X
theorem take_step {α : Type} [Inhabited α] {xs ys : List α} {i : Nat} (h : xs.take i = ys.take i) (hx : i < xs.length) (hy : i < ys.length) (he : xs.getD i default = ys.getD i default) : xs.take (i + 1) = ys.take (i + 1) := by
  rw [List.take_succ_eq_append_getElem hx, List.take_succ_eq_append_getElem hy, h]
  simp [hx, hy] at he
  rw [he]
theorem take_all {α : Type} {xs ys : List α} {i : Nat} (h : xs.take i = ys.take i) (hx : ¬ (i : Int) < xs.length) (hl : xs.length = ys.length) : xs = ys := by
  rw [List.take_of_length_le (by omega), List.take_of_length_le (by omega)] at h
  exact h
theorem getD_mem {α : Type} [Inhabited α] {xs : List α} {i : Nat} (h : i < xs.length) : xs.getD i default ∈ xs := by
  simp [h]
/-- The first place that a test takes; -1 if there is none. -/
def findFirst {α : Type} (p : α → Bool) (xs : List α) : Int := match xs.findIdx? p with
  | some i => i
  | none => -1
theorem any_step {α : Type} [Inhabited α] {p : α → Bool} {xs : List α} {i : Nat} (h : (xs.take i).any p = false) (hx : i < xs.length) (hp : p (xs.getD i default) = false) : (xs.take (i + 1)).any p = false := by
  rw [List.take_succ_eq_append_getElem hx, List.any_append, h]
  simp [hx] at hp
  simp [hp]
theorem findFirst_here {α : Type} [Inhabited α] {p : α → Bool} {xs : List α} {i : Nat} (h : (xs.take i).any p = false) (hx : i < xs.length) (hp : p (xs.getD i default) = true) : findFirst p xs = i := by
  unfold findFirst
  have : xs.findIdx? p = some i := by
    rw [List.findIdx?_eq_some_iff_getElem]
    simp [hx] at hp
    refine ⟨hx, hp, fun j hj => ?_⟩
    have := List.any_eq_false.1 h xs[j] (by rw [List.mem_take_iff_getElem]; exact ⟨j, by omega, rfl⟩)
    simpa using this
  rw [this]
theorem findFirst_none {α : Type} {p : α → Bool} {xs : List α} {i : Nat} (h : (xs.take i).any p = false) (hx : ¬ (i : Int) < xs.length) : findFirst p xs = -1 := by
  rw [List.take_of_length_le (by omega)] at h
  unfold findFirst
  have : xs.findIdx? p = none := by
    rw [List.findIdx?_eq_none_iff]
    intro x hx
    have := List.any_eq_false.1 h x hx
    simpa using this
  rw [this]
theorem findFirst_any {α : Type} {p : α → Bool} {xs : List α} : decide ((0 : Int) ≤ findFirst p xs) = xs.any p := by
  unfold findFirst
  cases h : xs.findIdx? p with
  | none =>
    rw [List.findIdx?_eq_none_iff] at h
    have : xs.any p = false := List.any_eq_false.2 (fun x hx => by simp [h x hx])
    simp [this]
  | some i =>
    rw [List.findIdx?_eq_some_iff_getElem] at h
    obtain ⟨hi, hp, _⟩ := h
    have : xs.any p = true := List.any_eq_true.2 ⟨xs[i], List.getElem_mem hi, hp⟩
    simp only [this, decide_eq_true_eq]
    omega
end Go.X

/- Halls, in plain numbers and lists. No condition. -/
set_option linter.unusedVariables false
namespace Go.X
structure HRoom where
  store : Int
  limit : Int
structure HWall where
  a : Int
  b : Int
  pass : Int
structure HBranch where
  up : Int
  opn : Int
  leak : Int
structure HCooler where
  room : Int
  br : Int
  gain : Int
  carry : Int
  supply : Int
instance : Inhabited HRoom := ⟨⟨0, 0⟩⟩
instance : Inhabited HWall := ⟨⟨0, 0, 0⟩⟩
instance : Inhabited HBranch := ⟨⟨0, 0, 0⟩⟩
instance : Inhabited HCooler := ⟨⟨0, 0, 0, 0, 0⟩⟩
structure Hall where
  rooms : List HRoom
  walls : List HWall
  branches : List HBranch
  coolers : List HCooler
structure HCase where
  load : List Int
  out : Int
  pump : Int
def sumTo (f : Nat → Int) : Nat → Int
  | 0 => 0
  | n + 1 => sumTo f n + f n
/-- All of the first n. -/
def allTo (p : Nat → Bool) (n : Nat) : Bool := (List.range n).all p
theorem allTo_succ {p : Nat → Bool} {n : Nat} : allTo p (n + 1) = (allTo p n && p n) := by
  unfold allTo; rw [List.range_succ, List.all_append]; simp
theorem allTo_false {p : Nat → Bool} {n s : Nat} (hs : s < n) (h : p s = false) : allTo p n = false := by
  unfold allTo
  rw [List.all_eq_false]
  exact ⟨s, List.mem_range.2 hs, by simp [h]⟩
theorem allTo_at {p : Nat → Bool} {n s : Nat} (h : allTo p n = true) (hs : s < n) : p s = true := by
  unfold allTo at h
  rw [List.all_eq_true] at h
  exact h s (List.mem_range.2 hs)
def wslope (h : Hall) (i : Nat) (k : Nat) : Int := if (h.walls.getD k default).a = i ∨ (h.walls.getD k default).b = i then (h.walls.getD k default).pass else 0
def cslope (h : Hall) (i : Nat) (k : Nat) : Int := if (h.coolers.getD k default).room = i then (h.coolers.getD k default).gain else 0
def slope (h : Hall) (i : Nat) : Int := sumTo (wslope h i) h.walls.length + sumTo (cslope h i) h.coolers.length
/-- What is known of a valid hall. -/
structure HOk (h : Hall) : Prop where
  r1 : 1 ≤ h.rooms.length
  r2 : h.rooms.length ≤ 8
  w2 : h.walls.length ≤ 16
  b2 : h.branches.length ≤ 16
  c2 : h.coolers.length ≤ 16
  room : ∀ i, i < h.rooms.length → 1 ≤ (h.rooms.getD i default).store ∧ (h.rooms.getD i default).store ≤ 1000000 ∧ 0 ≤ (h.rooms.getD i default).limit ∧ (h.rooms.getD i default).limit ≤ 1000000
  wall : ∀ i, i < h.walls.length → (0 ≤ (h.walls.getD i default).a ∧ (h.walls.getD i default).a < h.rooms.length) ∧ ((h.walls.getD i default).b = -1 ∨ (0 ≤ (h.walls.getD i default).b ∧ (h.walls.getD i default).b < h.rooms.length)) ∧
    (h.walls.getD i default).a ≠ (h.walls.getD i default).b ∧ 0 ≤ (h.walls.getD i default).pass ∧ (h.walls.getD i default).pass ≤ 100000
  branch : ∀ i, i < h.branches.length → (if i = 0 then (h.branches.getD i default).up = -1 else 0 ≤ (h.branches.getD i default).up ∧ (h.branches.getD i default).up < i) ∧ (0 ≤ (h.branches.getD i default).opn ∧ (h.branches.getD i default).opn ≤ 100) ∧
    0 ≤ (h.branches.getD i default).leak ∧ (h.branches.getD i default).leak ≤ 100000
  cooler : ∀ i, i < h.coolers.length → (0 ≤ (h.coolers.getD i default).room ∧ (h.coolers.getD i default).room < h.rooms.length) ∧ (0 ≤ (h.coolers.getD i default).br ∧ (h.coolers.getD i default).br < h.branches.length) ∧
    (0 ≤ (h.coolers.getD i default).gain ∧ (h.coolers.getD i default).gain ≤ 100000) ∧ (0 ≤ (h.coolers.getD i default).carry ∧ (h.coolers.getD i default).carry ≤ 1000) ∧ 0 ≤ (h.coolers.getD i default).supply ∧ (h.coolers.getD i default).supply ≤ 1000000
  slope : ∀ i, i < h.rooms.length → X.slope h i ≤ (h.rooms.getD i default).store
structure TOk (h : Hall) (t : List Int) : Prop where
  len : t.length = h.rooms.length
  rng : ∀ i, i < t.length → 0 ≤ t.getD i 0 ∧ t.getD i 0 ≤ 1000000
structure COk (h : Hall) (c : HCase) : Prop where
  len : c.load.length = h.rooms.length
  rng : ∀ i, i < c.load.length → 0 ≤ c.load.getD i 0 ∧ c.load.getD i 0 ≤ 10000000
  out : 0 ≤ c.out ∧ c.out ≤ 1000000
  pump : 0 ≤ c.pump ∧ c.pump ≤ 100000
end Go.X

/- Banks: what the functions compute, and that all stays small. No condition. -/
set_option linter.unusedVariables false
namespace Go.X
structure BBat where
  energy : Int
  full : Int
  power : Int
  charge : Int
deriving DecidableEq, Inhabited
structure BGen where
  power : Int
  ramp : Int
  delay : Int
  pause : Int
  tries : Int
deriving DecidableEq, Inhabited
structure BSpan where
  seconds : Int
  power : Int
deriving DecidableEq, Inhabited
structure BCell where
  bat : BBat
  now : Int
deriving DecidableEq, Inhabited
structure BBank where
  bats : List BBat
  gens : List BGen
deriving DecidableEq, Inhabited
structure BRes where
  dark : Int
  energy : List Int
  burnt : List Int
  served : Int
deriving DecidableEq, Inhabited
structure BSt where
  cells : List BCell
  burnt : List Int
  served : Int
deriving DecidableEq, Inhabited
def outP (m n : Int) : Bool := decide (n < 0) || decide (m < n)
def inA (m : Int) (l : List Int) : Bool := !(l.any (outP m))
theorem outP_false {m n : Int} : outP m n = false ↔ 0 ≤ n ∧ n ≤ m := by
  unfold outP
  rw [Bool.or_eq_false_iff, decide_eq_false_iff_not, decide_eq_false_iff_not]; omega
theorem inA_one {m n : Int} : inA m [n] = true ↔ 0 ≤ n ∧ n ≤ m := by
  unfold inA
  rw [Bool.not_eq_true', List.any_cons, List.any_nil, Bool.or_false, outP_false]
theorem inA_two {m a b : Int} : inA m [a, b] = true ↔ (0 ≤ a ∧ a ≤ m) ∧ (0 ≤ b ∧ b ≤ m) := by
  unfold inA
  rw [Bool.not_eq_true', List.any_cons, List.any_cons, List.any_nil, Bool.or_false, Bool.or_eq_false_iff, outP_false, outP_false]
def batOk (x : BBat) : Bool := (inA 100000000000 [x.energy, x.full] && decide (x.energy ≤ x.full)) && inA 1000000 [x.power, x.charge]
def genOk (g : BGen) : Bool := ((inA 1000000 [g.power, g.ramp] && inA 3600 [g.delay, g.pause]) && decide (1 ≤ g.tries)) && decide (g.tries ≤ 5)
structure BatOk (x : BBat) : Prop where
  e0 : 0 ≤ x.energy
  ef : x.energy ≤ x.full
  f1 : x.full ≤ 100000000000
  p0 : 0 ≤ x.power
  p1 : x.power ≤ 1000000
  c0 : 0 ≤ x.charge
  c1 : x.charge ≤ 1000000
structure GenOk (g : BGen) : Prop where
  p0 : 0 ≤ g.power
  p1 : g.power ≤ 1000000
  r0 : 0 ≤ g.ramp
  r1 : g.ramp ≤ 1000000
  d0 : 0 ≤ g.delay
  d1 : g.delay ≤ 3600
  q0 : 0 ≤ g.pause
  q1 : g.pause ≤ 3600
  t0 : 1 ≤ g.tries
  t1 : g.tries ≤ 5
theorem batOk_iff {x : BBat} : batOk x = true ↔ BatOk x := by
  unfold batOk
  rw [Bool.and_eq_true, Bool.and_eq_true, inA_two, inA_two, decide_eq_true_eq]
  exact ⟨fun h => ⟨by omega, by omega, by omega, by omega, by omega, by omega, by omega⟩, fun ⟨a, b, c, d, e, f, g⟩ => by omega⟩
theorem genOk_iff {x : BGen} : genOk x = true ↔ GenOk x := by
  unfold genOk
  rw [Bool.and_eq_true, Bool.and_eq_true, Bool.and_eq_true, inA_two, inA_two, decide_eq_true_eq, decide_eq_true_eq]
  exact ⟨fun h => ⟨by omega, by omega, by omega, by omega, by omega, by omega, by omega, by omega, by omega, by omega⟩, fun ⟨a, b, c, d, e, f, g, h, i, j⟩ => by omega⟩
def bcheck (b : BBank) : Int :=
  if 8 < b.bats.length ∨ 6 < b.gens.length then 2
  else if b.bats.any (fun x => !batOk x) = true ∨ b.gens.any (fun x => !genOk x) = true then 6 else 0
structure BOk (b : BBank) : Prop where
  nb : b.bats.length ≤ 8
  ng : b.gens.length ≤ 6
  bat : ∀ x ∈ b.bats, BatOk x
  gen : ∀ x ∈ b.gens, GenOk x
theorem bcheck_iff {b : BBank} : bcheck b = 0 ↔ BOk b := by
  unfold bcheck
  constructor
  · intro h
    split at h
    · cases h
    · split at h
      · cases h
      · rename_i h1 h2
        rw [not_or, List.any_eq_true, List.any_eq_true] at h2
        refine ⟨by omega, by omega, fun x hx => ?_, fun x hx => ?_⟩
        · rw [← batOk_iff]
          cases hb : batOk x with
          | true => rfl
          | false => exact absurd ⟨x, hx, by rw [hb]; rfl⟩ h2.1
        · rw [← genOk_iff]
          cases hb : genOk x with
          | true => rfl
          | false => exact absurd ⟨x, hx, by rw [hb]; rfl⟩ h2.2
  · intro h
    rw [if_neg (by have := h.nb; have := h.ng; omega), if_neg]
    rw [not_or, List.any_eq_true, List.any_eq_true]
    constructor
    · rintro ⟨x, hx, h1⟩
      rw [batOk_iff.2 (h.bat x hx)] at h1; cases h1
    · rintro ⟨x, hx, h1⟩
      rw [genOk_iff.2 (h.gen x hx)] at h1; cases h1
def startP (g : BGen) (f : Int) : Int := if f = g.tries then -1 else (f + 1) * g.delay + f * g.pause
def badSpan (s : BSpan) : Bool := (decide (s.seconds < 1) || decide (3600 < s.seconds)) || !(inA 1000000 [s.power])
def secs : List BSpan → Nat → Int
  | l, 0 => 0
  | l, i + 1 => secs l i + (l.getD i default).seconds
def loadedP (l : List BSpan) : Int × Int :=
  if 64 < l.length then (0, 2) else if l.any badSpan = true then (0, 6) else if 20000 < secs l l.length then (0, 60) else (secs l l.length, 0)
structure LOk (l : List BSpan) : Prop where
  n : l.length ≤ 64
  s : ∀ x ∈ l, (1 ≤ x.seconds ∧ x.seconds ≤ 3600) ∧ 0 ≤ x.power ∧ x.power ≤ 1000000
  t : secs l l.length ≤ 20000
theorem badSpan_false {x : BSpan} : badSpan x = false ↔ (1 ≤ x.seconds ∧ x.seconds ≤ 3600) ∧ 0 ≤ x.power ∧ x.power ≤ 1000000 := by
  unfold badSpan
  rw [Bool.or_eq_false_iff, Bool.or_eq_false_iff, decide_eq_false_iff_not, decide_eq_false_iff_not, Bool.not_eq_false', inA_one]
  omega
theorem loadedP_iff {l : List BSpan} : (loadedP l).2 = 0 ↔ LOk l := by
  unfold loadedP
  constructor
  · intro h
    split at h
    · cases h
    · split at h
      · cases h
      · split at h
        · cases h
        · rename_i h1 h2 h3
          rw [List.any_eq_true] at h2
          refine ⟨by omega, fun x hx => ?_, by omega⟩
          rw [← badSpan_false]
          cases hb : badSpan x with
          | false => rfl
          | true => exact absurd ⟨x, hx, hb⟩ h2
  · intro h
    rw [if_neg (by have := h.n; omega), if_neg, if_neg (by have := h.t; omega)]
    rw [List.any_eq_true]
    rintro ⟨x, hx, h1⟩
    rw [badSpan_false.2 (h.s x hx)] at h1; cases h1
theorem loadedP_one {l : List BSpan} (h : LOk l) : loadedP l = (secs l l.length, 0) := by
  have := loadedP_iff.2 h
  unfold loadedP at this ⊢
  split at this
  · cases this
  · split at this
    · cases this
    · split at this
      · cases this
      · rename_i h1 h2 h3; rw [if_neg h1, if_neg h2, if_neg h3]
def badFail (b : BBank) (fs : List Int) (i : Nat) : Bool := decide (fs.getD i default < 0) || decide ((b.gens.getD i default).tries < fs.getD i default)
def fitP (b : BBank) (fs : List Int) : Bool := decide (fs.length = b.gens.length) && allTo (fun i => !badFail b fs i) b.gens.length
structure FOk (b : BBank) (fs : List Int) : Prop where
  n : fs.length = b.gens.length
  f : ∀ i, i < b.gens.length → 0 ≤ fs.getD i default ∧ fs.getD i default ≤ (b.gens.getD i default).tries
theorem allTo_all {p : Nat → Bool} {n : Nat} (h : ∀ i, i < n → p i = true) : allTo p n = true := by
  unfold allTo
  rw [List.all_eq_true]
  exact fun i hi => h i (List.mem_range.1 hi)
theorem fitP_iff {b : BBank} {fs : List Int} : fitP b fs = true ↔ FOk b fs := by
  unfold fitP
  rw [Bool.and_eq_true, decide_eq_true_eq]
  constructor
  · rintro ⟨h1, h2⟩
    refine ⟨h1, fun i hi => ?_⟩
    have := allTo_at h2 hi
    rw [Bool.not_eq_true', badFail, Bool.or_eq_false_iff, decide_eq_false_iff_not, decide_eq_false_iff_not] at this
    omega
  · rintro ⟨h1, h2⟩
    refine ⟨h1, allTo_all fun i hi => ?_⟩
    have := h2 i hi
    rw [Bool.not_eq_true', badFail, Bool.or_eq_false_iff, decide_eq_false_iff_not, decide_eq_false_iff_not]
    omega
def readyP (b : BBank) (l : List BSpan) (fs : List Int) : Int :=
  if bcheck b ≠ 0 then bcheck b else if (loadedP l).2 ≠ 0 then (loadedP l).2 else if ¬ fitP b fs = true then 1 else 0
structure ROk (b : BBank) (l : List BSpan) (fs : List Int) : Prop where
  ob : BOk b
  ol : LOk l
  of : FOk b fs
theorem readyP_iff {b : BBank} {l : List BSpan} {fs : List Int} : readyP b l fs = 0 ↔ ROk b l fs := by
  unfold readyP
  constructor
  · intro h
    split at h
    · contradiction
    · split at h
      · contradiction
      · split at h
        · cases h
        · rename_i h1 h2 h3
          exact ⟨bcheck_iff.1 (Decidable.of_not_not h1), loadedP_iff.1 (Decidable.of_not_not h2), fitP_iff.1 (Decidable.of_not_not h3)⟩
  · rintro ⟨h1, h2, h3⟩
    rw [if_neg (by rw [bcheck_iff.2 h1]; decide), if_neg (by rw [loadedP_iff.2 h2]; decide), if_neg (by rw [fitP_iff.2 h3]; decide)]
/-! ### a second -/
def canP (g : BGen) (fr t : Int) : Int := if fr < 0 ∨ t < fr then 0 else min g.power (g.ramp * (t - fr + 1))
def canAt (gens : List BGen) (sts : List Int) (t : Int) (i : Nat) : Int := canP (gens.getD i default) (sts.getD i default) t
def genTo (c : Nat → Int) (used : List Int) (need : Int) : Nat → List Int × Int
  | 0 => (used, need)
  | i + 1 => ((genTo c used need i).1.set i ((genTo c used need i).1.getD i default + min (genTo c used need i).2 (c i - (genTo c used need i).1.getD i default)), (genTo c used need i).2 - min (genTo c used need i).2 (c i - (genTo c used need i).1.getD i default))
def giveC (x : BCell) (need : Int) : Int := min (min x.bat.power x.now) need
def takeC (x : BCell) (most : Int) : Int := min (min x.bat.charge (x.bat.full - x.now)) most
def giveTo (cs : List BCell) (need : Int) : Nat → List BCell × Int
  | 0 => (cs, need)
  | i + 1 => ((giveTo cs need i).1.set i { bat := ((giveTo cs need i).1.getD i default).bat, now := ((giveTo cs need i).1.getD i default).now - giveC ((giveTo cs need i).1.getD i default) (giveTo cs need i).2 }, (giveTo cs need i).2 - giveC ((giveTo cs need i).1.getD i default) (giveTo cs need i).2)
def spareTo (c : Nat → Int) (used : List Int) : Nat → Int
  | 0 => 0
  | i + 1 => spareTo c used i + (c i - used.getD i default)
def takeTo (cs : List BCell) (spare : Int) : Nat → List BCell × Int
  | 0 => (cs, 0)
  | i + 1 => ((takeTo cs spare i).1.set i { bat := ((takeTo cs spare i).1.getD i default).bat, now := ((takeTo cs spare i).1.getD i default).now + takeC ((takeTo cs spare i).1.getD i default) (spare - (takeTo cs spare i).2) }, (takeTo cs spare i).2 + takeC ((takeTo cs spare i).1.getD i default) (spare - (takeTo cs spare i).2))
def addTo (bs us : List Int) : Nat → List Int
  | 0 => bs
  | i + 1 => (addTo bs us i).set i ((addTo bs us i).getD i default + us.getD i default)
def gen0 (gens : List BGen) (sts : List Int) (t load : Int) : List Int × Int := genTo (canAt gens sts t) (List.replicate sts.length 0) load sts.length
def spare0 (gens : List BGen) (sts : List Int) (t load : Int) : Int := spareTo (canAt gens sts t) (gen0 gens sts t load).1 sts.length
def give0 (gens : List BGen) (sts : List Int) (t load : Int) (s : BSt) : List BCell × Int := giveTo s.cells (gen0 gens sts t load).2 s.cells.length
def take0 (gens : List BGen) (sts : List Int) (t load : Int) (s : BSt) : List BCell × Int := takeTo s.cells (spare0 gens sts t load) s.cells.length
def gen1 (gens : List BGen) (sts : List Int) (t load : Int) (s : BSt) : List Int × Int := genTo (canAt gens sts t) (gen0 gens sts t load).1 (take0 gens sts t load s).2 sts.length
def secondP (gens : List BGen) (sts : List Int) (t load : Int) (strict : Bool) (s : BSt) : Int × BSt :=
  if 0 < (gen0 gens sts t load).2 then
    if 0 < (give0 gens sts t load s).2 ∧ strict = true then ((give0 gens sts t load s).2, s)
    else ((give0 gens sts t load s).2, ⟨(give0 gens sts t load s).1, addTo s.burnt (gen0 gens sts t load).1 sts.length, s.served + (load - (give0 gens sts t load s).2)⟩)
  else ((gen0 gens sts t load).2, ⟨(take0 gens sts t load s).1, addTo s.burnt (gen1 gens sts t load s).1 sts.length, s.served + (load - (gen0 gens sts t load).2)⟩)
/-! ### plays -/
def playTo (gens : List BGen) (sts : List Int) (strict : Bool) (pw : List Int) (s0 : BSt) : Nat → BSt
  | 0 => s0
  | i + 1 => (secondP gens sts (i : Nat) (pw.getD i default) strict (playTo gens sts strict pw s0 i)).2
def lackAt (gens : List BGen) (sts : List Int) (strict : Bool) (pw : List Int) (s0 : BSt) (i : Nat) : Int :=
  (secondP gens sts (i : Nat) (pw.getD i default) strict (playTo gens sts strict pw s0 i)).1
def powers : List BSpan → List Int
  | [] => []
  | s :: l => List.replicate s.seconds.toNat s.power ++ powers l
def begun (b : BBank) : BSt := ⟨b.bats.map fun x => ⟨x, x.energy⟩, List.replicate b.gens.length 0, 0⟩
def startsTo (gens : List BGen) (fs : List Int) : Nat → List Int
  | 0 => []
  | i + 1 => startsTo gens fs i ++ [startP (gens.getD i default) (fs.getD i default)]
def startsP (b : BBank) (fs : List Int) : List Int := startsTo b.gens fs b.gens.length
def energiesP (cs : List BCell) : List Int := cs.map (·.now)
def isDark (b : BBank) (pw fs : List Int) (i : Nat) : Bool := decide (0 < lackAt b.gens (startsP b fs) true pw (begun b) i)
def darkP (b : BBank) (pw fs : List Int) : Int := findFirst (isDark b pw fs) (List.range pw.length)
def endP (b : BBank) (pw fs : List Int) : Nat := if darkP b pw fs < 0 then pw.length else (darkP b pw fs).toNat
def stateP (b : BBank) (pw fs : List Int) (strict : Bool) (i : Nat) : BSt := playTo b.gens (startsP b fs) strict pw (begun b) i
def resOf (d : Int) (s : BSt) : BRes := ⟨d, energiesP s.cells, s.burnt, s.served⟩
def runP (b : BBank) (pw fs : List Int) : BRes := resOf (darkP b pw fs) (stateP b pw fs true (endP b pw fs))
def lackTo (b : BBank) (pw fs : List Int) : Nat → Int
  | 0 => 0
  | i + 1 => lackTo b pw fs i + lackAt b.gens (startsP b fs) false pw (begun b) i
def lackP (b : BBank) (pw fs : List Int) : Int := lackTo b pw fs pw.length
end Go.X

/- Banks: a second keeps all small. No condition. -/
set_option linter.unusedVariables false
namespace Go.X
theorem getD_set' {α : Type} [Inhabited α] {l : List α} {i : Nat} {x : α} (hi : i < l.length) (j : Nat) : (l.set i x).getD j default = if i = j then x else l.getD j default := by
  rw [List.getD_eq_getElem?_getD, List.getElem?_set, List.getD_eq_getElem?_getD]
  by_cases h : i = j
  · rw [if_pos h, if_pos h, if_pos hi]; rfl
  · rw [if_neg h, if_neg h]
theorem mulLe {a b m n : Int} (h1 : 0 ≤ a) (h2 : a ≤ m) (h3 : 0 ≤ b) (h4 : b ≤ n) : 0 ≤ a * b ∧ a * b ≤ m * n :=
  ⟨Int.mul_nonneg h1 h3, Int.mul_le_mul h2 h4 h3 (by omega)⟩
theorem canP_ok {g : BGen} (gk : GenOk g) {fr t : Int} (h1 : -1 ≤ fr) (h2 : t ≤ 20000) : 0 ≤ canP g fr t ∧ canP g fr t ≤ 1000000 := by
  unfold canP
  have := gk.p0; have := gk.p1
  split
  · omega
  · have m := mulLe (a := g.ramp) (b := t - fr + 1) (m := 1000000) (n := 20002) gk.r0 gk.r1 (by omega) (by omega)
    omega
structure PlayOk (gens : List BGen) (sts : List Int) : Prop where
  n : sts.length = gens.length
  ng : gens.length ≤ 6
  g : ∀ x ∈ gens, GenOk x
  s : ∀ i, i < sts.length → -1 ≤ sts.getD i default ∧ sts.getD i default ≤ 40000
theorem getD_memB {α : Type} [Inhabited α] {l : List α} {i : Nat} (h : i < l.length) : l.getD i default ∈ l := by
  rw [List.getD_eq_getElem?_getD, List.getElem?_eq_getElem h]; exact List.getElem_mem h
theorem canAt_ok {gens : List BGen} {sts : List Int} (p : PlayOk gens sts) {t : Int} (h2 : t ≤ 20000) {i : Nat} (hi : i < sts.length) : 0 ≤ canAt gens sts t i ∧ canAt gens sts t i ≤ 1000000 :=
  canP_ok (p.g _ (getD_memB (by have := p.n; omega))) (p.s i hi).1 h2
structure UsedOk (c : Nat → Int) (n : Nat) (u : List Int) : Prop where
  len : u.length = n
  b : ∀ j, j < n → 0 ≤ u.getD j default ∧ u.getD j default ≤ c j
theorem genTo_ok {c : Nat → Int} {n : Nat} {u : List Int} {need : Int} (h : UsedOk c n u) (hn : 0 ≤ need) : ∀ i, i ≤ n → UsedOk c n (genTo c u need i).1 ∧ 0 ≤ (genTo c u need i).2 ∧ (genTo c u need i).2 ≤ need
  | 0, _ => ⟨h, hn, Int.le_refl _⟩
  | i + 1, hi => by
    obtain ⟨h1, h2, h3⟩ := genTo_ok h hn i (by omega)
    have hb := h1.b i (by omega)
    refine ⟨⟨by rw [genTo]; simp [h1.len], fun j hj => ?_⟩, ?_, ?_⟩
    · rw [genTo]
      dsimp only
      rw [getD_set' (by rw [h1.len]; omega)]
      split
      · rename_i he; subst he; omega
      · exact h1.b j hj
    · rw [genTo]; dsimp only; omega
    · rw [genTo]; dsimp only; omega
theorem zero_used {c : Nat → Int} {n : Nat} (h : ∀ j, j < n → 0 ≤ c j) : UsedOk c n (List.replicate n 0) :=
  ⟨by simp, fun j hj => by rw [List.getD_eq_getElem?_getD, List.getElem?_replicate, if_pos hj]; exact ⟨by simp, by simpa using h j hj⟩⟩
theorem spareTo_ok {c : Nat → Int} {n : Nat} {u : List Int} (h : UsedOk c n u) (hc : ∀ j, j < n → c j ≤ 1000000) : ∀ i, i ≤ n → 0 ≤ spareTo c u i ∧ spareTo c u i ≤ 1000000 * i
  | 0, _ => ⟨Int.le_refl _, by simp [spareTo]⟩
  | i + 1, hi => by
    obtain ⟨h1, h2⟩ := spareTo_ok h hc i (by omega)
    have := h.b i (by omega)
    have := hc i (by omega)
    rw [spareTo]
    omega
structure CellOk (x : BCell) : Prop where
  n0 : 0 ≤ x.now
  nf : x.now ≤ x.bat.full
  f1 : x.bat.full ≤ 100000000000
  p0 : 0 ≤ x.bat.power
  p1 : x.bat.power ≤ 1000000
  c0 : 0 ≤ x.bat.charge
  c1 : x.bat.charge ≤ 1000000
structure CellsOk (n : Nat) (cs : List BCell) : Prop where
  len : cs.length = n
  ok : ∀ j, j < n → CellOk (cs.getD j default)
theorem giveC_ok {x : BCell} (h : CellOk x) {need : Int} (hn : 0 ≤ need) : 0 ≤ giveC x need ∧ giveC x need ≤ need ∧ giveC x need ≤ x.now := by
  have := h.n0; have := h.p0
  unfold giveC; omega
theorem takeC_ok {x : BCell} (h : CellOk x) {need : Int} (hn : 0 ≤ need) : 0 ≤ takeC x need ∧ takeC x need ≤ need ∧ x.now + takeC x need ≤ x.bat.full := by
  have := h.nf; have := h.c0
  unfold takeC; omega
theorem CellsOk.set {n : Nat} {cs : List BCell} (h : CellsOk n cs) {i : Nat} (hi : i < n) {m : Int} (h0 : 0 ≤ m) (h1 : m ≤ (cs.getD i default).bat.full) : CellsOk n (cs.set i { bat := (cs.getD i default).bat, now := m }) := by
  refine ⟨by simp [h.len], fun j hj => ?_⟩
  rw [getD_set' (by rw [h.len]; exact hi)]
  split
  · have := h.ok i hi
    exact ⟨h0, h1, this.f1, this.p0, this.p1, this.c0, this.c1⟩
  · exact h.ok j hj
theorem giveTo_ok {cs : List BCell} {n : Nat} (h : CellsOk n cs) {need : Int} (hn : 0 ≤ need) : ∀ i, i ≤ n → CellsOk n (giveTo cs need i).1 ∧ 0 ≤ (giveTo cs need i).2 ∧ (giveTo cs need i).2 ≤ need
  | 0, _ => ⟨h, hn, Int.le_refl _⟩
  | i + 1, hi => by
    obtain ⟨h1, h2, h3⟩ := giveTo_ok h hn i (by omega)
    have ck := h1.ok i (by omega)
    have g := giveC_ok ck h2
    have := ck.nf
    rw [giveTo]
    exact ⟨h1.set (by omega) (by omega) (by omega), by dsimp only; omega, by dsimp only; omega⟩
theorem takeTo_ok {cs : List BCell} {n : Nat} (h : CellsOk n cs) {sp : Int} (hn : 0 ≤ sp) : ∀ i, i ≤ n → CellsOk n (takeTo cs sp i).1 ∧ 0 ≤ (takeTo cs sp i).2 ∧ (takeTo cs sp i).2 ≤ sp
  | 0, _ => ⟨h, Int.le_refl _, hn⟩
  | i + 1, hi => by
    obtain ⟨h1, h2, h3⟩ := takeTo_ok h hn i (by omega)
    have ck := h1.ok i (by omega)
    have g := takeC_ok ck (need := sp - (takeTo cs sp i).2) (by omega)
    have := ck.n0
    rw [takeTo]
    exact ⟨h1.set (by omega) (by omega) (by omega), by dsimp only; omega, by dsimp only; omega⟩
structure BurntOk (n k : Nat) (bs : List Int) : Prop where
  len : bs.length = n
  b : ∀ j, j < n → 0 ≤ bs.getD j default ∧ bs.getD j default ≤ 1000000 * k
theorem addTo_at {bs us : List Int} : ∀ i, i ≤ bs.length → (addTo bs us i).length = bs.length ∧ ∀ j, (addTo bs us i).getD j default = if j < i then bs.getD j default + us.getD j default else bs.getD j default
  | 0, _ => ⟨rfl, fun j => by rw [if_neg (by omega)]; rfl⟩
  | i + 1, hi => by
    obtain ⟨h1, h2⟩ := addTo_at (bs := bs) (us := us) i (by omega)
    refine ⟨by rw [addTo]; simp [h1], fun j => ?_⟩
    rw [addTo, getD_set' (by rw [h1]; omega)]
    split
    · rename_i he; subst he
      rw [if_pos (by omega), h2, if_neg (by omega)]
    · rw [h2]
      by_cases hj : j < i
      · rw [if_pos hj, if_pos (by omega)]
      · rw [if_neg hj, if_neg (by omega)]
structure StOk (sts : List Int) (nc k : Nat) (s : BSt) : Prop where
  c : CellsOk nc s.cells
  nc8 : nc ≤ 8
  b : BurntOk sts.length k s.burnt
  s0 : 0 ≤ s.served
  s1 : s.served ≤ 1000000 * k
theorem burnt_add {n k : Nat} {bs us : List Int} {c : Nat → Int} (h : BurntOk n k bs) (hu : UsedOk c n us) (hc : ∀ j, j < n → c j ≤ 1000000) : BurntOk n (k + 1) (addTo bs us n) := by
  obtain ⟨h1, h2⟩ := addTo_at (bs := bs) (us := us) n (by rw [h.len]; omega)
  refine ⟨by rw [h1, h.len], fun j hj => ?_⟩
  rw [h2, if_pos hj]
  have := h.b j hj; have := hu.b j hj; have := hc j hj
  omega
theorem gen0_ok {gens : List BGen} {sts : List Int} (p : PlayOk gens sts) {t load : Int} (h2 : t ≤ 20000) (h3 : 0 ≤ load) :
    UsedOk (canAt gens sts t) sts.length (gen0 gens sts t load).1 ∧ 0 ≤ (gen0 gens sts t load).2 ∧ (gen0 gens sts t load).2 ≤ load :=
  genTo_ok (zero_used fun j hj => (canAt_ok p h2 hj).1) h3 _ (Nat.le_refl _)
theorem spare0_ok {gens : List BGen} {sts : List Int} (p : PlayOk gens sts) {t load : Int} (h2 : t ≤ 20000) (h3 : 0 ≤ load) : 0 ≤ spare0 gens sts t load ∧ spare0 gens sts t load ≤ 6000000 := by
  have := spareTo_ok (gen0_ok p h2 h3).1 (fun j hj => (canAt_ok p h2 hj).2) sts.length (Nat.le_refl _)
  have h6 := p.ng; have hn := p.n
  unfold spare0
  omega
theorem take0_ok {gens : List BGen} {sts : List Int} (p : PlayOk gens sts) {t load : Int} (h2 : t ≤ 20000) (h3 : 0 ≤ load) {nc k : Nat} {s : BSt} (h : StOk sts nc k s) : CellsOk nc (take0 gens sts t load s).1 ∧ 0 ≤ (take0 gens sts t load s).2 ∧ (take0 gens sts t load s).2 ≤ 6000000 := by
  have hs := spare0_ok p h2 h3
  obtain ⟨h1, h4, h5⟩ := takeTo_ok h.c hs.1 nc (Nat.le_refl _)
  unfold take0
  rw [h.c.len]
  exact ⟨h1, h4, by omega⟩
theorem gen1_ok {gens : List BGen} {sts : List Int} (p : PlayOk gens sts) {t load : Int} (h2 : t ≤ 20000) (h3 : 0 ≤ load) {nc k : Nat} {s : BSt} (h : StOk sts nc k s) :
    UsedOk (canAt gens sts t) sts.length (gen1 gens sts t load s).1 := (genTo_ok (gen0_ok p h2 h3).1 (take0_ok p h2 h3 h).2.1 _ (Nat.le_refl _)).1
theorem give0_ok {gens : List BGen} {sts : List Int} (p : PlayOk gens sts) {t load : Int} (h2 : t ≤ 20000) (h3 : 0 ≤ load) {nc k : Nat} {s : BSt} (h : StOk sts nc k s) :
    CellsOk nc (give0 gens sts t load s).1 ∧ 0 ≤ (give0 gens sts t load s).2 ∧ (give0 gens sts t load s).2 ≤ load := by
  have hg := gen0_ok p h2 h3
  obtain ⟨h1, h4, h5⟩ := giveTo_ok h.c hg.2.1 nc (Nat.le_refl _)
  unfold give0
  rw [h.c.len]
  exact ⟨h1, h4, by omega⟩
theorem second_ok {gens : List BGen} {sts : List Int} (p : PlayOk gens sts) {t load : Int} (h2 : t ≤ 20000) (h3 : 0 ≤ load) (h4 : load ≤ 1000000) {nc k : Nat} {s : BSt} (h : StOk sts nc k s) (strict : Bool) :
    StOk sts nc (k + 1) (secondP gens sts t load strict s).2 ∧ 0 ≤ (secondP gens sts t load strict s).1 ∧ (secondP gens sts t load strict s).1 ≤ load := by
  have hg := gen0_ok p h2 h3
  have hv := give0_ok p h2 h3 h
  have ht := take0_ok p h2 h3 h
  have h1 := gen1_ok p h2 h3 h
  have hc : ∀ j, j < sts.length → canAt gens sts t j ≤ 1000000 := fun j hj => (canAt_ok p h2 hj).2
  have s0 := h.s0; have s1 := h.s1
  unfold secondP
  split
  · split
    · refine ⟨⟨h.c, h.nc8, ⟨h.b.len, fun j hj => ?_⟩, h.s0, by dsimp only; omega⟩, hv.2.1, hv.2.2⟩
      have := h.b.b j hj; dsimp only; omega
    · exact ⟨⟨hv.1, h.nc8, burnt_add h.b hg.1 hc, by dsimp only; omega, by dsimp only; omega⟩, hv.2.1, hv.2.2⟩
  · exact ⟨⟨ht.1, h.nc8, burnt_add h.b h1 hc, by dsimp only; omega, by dsimp only; omega⟩, hg.2.1, hg.2.2⟩
theorem take_map_snoc {α β : Type} [Inhabited α] (f : α → β) {xs : List α} {i : Nat} (hi : i < xs.length) : (xs.take (i + 1)).map f = (xs.take i).map f ++ [f (xs.getD i default)] := by
  rw [List.take_add_one, List.map_append, List.getElem?_eq_getElem hi, List.getD_eq_getElem?_getD, List.getElem?_eq_getElem hi]; rfl
theorem energies_snoc {cs : List BCell} {i : Nat} (hi : i < cs.length) : energiesP (cs.take (i + 1)) = energiesP (cs.take i) ++ [(cs.getD i default).now] := take_map_snoc _ hi
end Go.X

/- Loads, second by second. No condition. -/
set_option linter.unusedVariables false
namespace Go.X
def cnt (l : List BSpan) : Nat → Nat
  | 0 => 0
  | i + 1 => cnt l i + (l.getD i default).seconds.toNat
theorem powers_append (a b : List BSpan) : powers (a ++ b) = powers a ++ powers b := by
  induction a with
  | nil => rfl
  | cons x t ih => rw [List.cons_append, powers, powers, ih, List.append_assoc]
theorem take_snocB {α : Type} [Inhabited α] {xs : List α} {i : Nat} (hi : i < xs.length) : xs.take (i + 1) = xs.take i ++ [xs.getD i default] := by
  rw [List.take_add_one, List.getElem?_eq_getElem hi, List.getD_eq_getElem?_getD, List.getElem?_eq_getElem hi]; rfl
theorem cnt_take (l : List BSpan) : ∀ i, i ≤ l.length → (powers (l.take i)).length = cnt l i
  | 0, _ => rfl
  | i + 1, hi => by
    rw [take_snocB (by omega), powers_append, List.length_append, cnt_take l i (by omega), cnt]
    simp [powers]
theorem split_at {α : Type} [Inhabited α] (xs : List α) {i : Nat} (hi : i < xs.length) : xs = xs.take i ++ xs.getD i default :: xs.drop (i + 1) := by
  conv => lhs; rw [← List.take_append_drop i xs, List.drop_eq_getElem_cons hi]
  rw [List.getD_eq_getElem?_getD, List.getElem?_eq_getElem hi]; rfl
theorem powers_at (l : List BSpan) {i j : Nat} (hi : i < l.length) (hj : (j : Int) < (l.getD i default).seconds) :
    cnt l i + j < (powers l).length ∧ (powers l).getD (cnt l i + j) default = (l.getD i default).power := by
  have e : powers l = powers (l.take i) ++ (List.replicate (l.getD i default).seconds.toNat (l.getD i default).power ++ powers (l.drop (i + 1))) := by
    conv => lhs; rw [split_at l hi, powers_append, powers]
  have hc := cnt_take l i (by omega)
  rw [e]
  constructor
  · simp only [List.length_append, hc, List.length_replicate]; omega
  · rw [List.getD_eq_getElem?_getD, List.getElem?_append_right (by omega), hc, Nat.add_sub_cancel_left, List.getElem?_append_left (by rw [List.length_replicate]; omega), List.getElem?_replicate, if_pos (by omega)]; rfl
theorem cnt_all (l : List BSpan) : cnt l l.length = (powers l).length := by
  rw [← cnt_take l l.length (Nat.le_refl _), List.take_length]
theorem cnt_secs {l : List BSpan} (h : ∀ x ∈ l, 0 ≤ x.seconds) : ∀ i, i ≤ l.length → (cnt l i : Int) = secs l i
  | 0, _ => by simp [cnt, secs]
  | i + 1, hi => by
    have := h _ (getD_memB (show i < l.length by omega))
    rw [cnt, secs, ← cnt_secs h i (by omega)]
    omega
theorem powers_len {l : List BSpan} (h : LOk l) : (powers l).length ≤ 20000 := by
  have h1 := cnt_secs (l := l) (fun x hx => by have := (h.s x hx).1; omega) l.length (Nat.le_refl _)
  have := h.t
  rw [cnt_all] at h1
  omega
theorem powers_mem {l : List BSpan} {x : Int} (h : x ∈ powers l) : ∃ s ∈ l, x = s.power := by
  induction l with
  | nil => cases h
  | cons s t ih =>
    rw [powers, List.mem_append] at h
    rcases h with h | h
    · exact ⟨s, List.mem_cons_self, List.eq_of_mem_replicate h⟩
    · obtain ⟨u, h1, h2⟩ := ih h
      exact ⟨u, List.mem_cons_of_mem _ h1, h2⟩
structure PwOk (pw : List Int) : Prop where
  n : pw.length ≤ 20000
  p : ∀ i, i < pw.length → 0 ≤ pw.getD i default ∧ pw.getD i default ≤ 1000000
theorem pwOk {l : List BSpan} (h : LOk l) : PwOk (powers l) := ⟨powers_len h, fun i hi => by
  obtain ⟨s, h1, h2⟩ := powers_mem (getD_memB hi)
  rw [h2]; exact (h.s s h1).2⟩
theorem startsTo_len (gens : List BGen) (fs : List Int) : ∀ i, (startsTo gens fs i).length = i
  | 0 => rfl
  | i + 1 => by rw [startsTo, List.length_append, startsTo_len gens fs i]; rfl
theorem startsTo_at (gens : List BGen) (fs : List Int) {j : Nat} : ∀ i, j < i → (startsTo gens fs i).getD j default = startP (gens.getD j default) (fs.getD j default)
  | 0, h => by omega
  | i + 1, h => by
    have hl := startsTo_len gens fs i
    rw [startsTo, List.getD_eq_getElem?_getD, List.getElem?_append]
    split
    · rw [← List.getD_eq_getElem?_getD]; exact startsTo_at gens fs i (by omega)
    · have : j = i := by omega
      subst this
      simp [hl]
theorem startP_ok {g : BGen} (gk : GenOk g) {f : Int} (h0 : 0 ≤ f) (h1 : f ≤ g.tries) : -1 ≤ startP g f ∧ startP g f ≤ 40000 := by
  have := gk.t1
  unfold startP
  split
  · omega
  · have m1 := mulLe (a := f + 1) (b := g.delay) (m := 6) (n := 3600) (by omega) (by omega) gk.d0 gk.d1
    have m2 := mulLe (a := f) (b := g.pause) (m := 5) (n := 3600) (by omega) (by omega) gk.q0 gk.q1
    omega
theorem playOk {b : BBank} {fs : List Int} (h : BOk b) (hf : FOk b fs) : PlayOk b.gens (startsP b fs) := ⟨startsTo_len _ _ _, h.ng, h.gen, fun i hi => by
  rw [startsP, startsTo_len] at hi
  rw [startsP, startsTo_at _ _ _ hi]
  exact startP_ok (h.gen _ (getD_memB hi)) (hf.f i hi).1 (hf.f i hi).2⟩
theorem cellOk_of {x : BBat} (h : BatOk x) : CellOk ⟨x, x.energy⟩ := ⟨h.e0, h.ef, h.f1, h.p0, h.p1, h.c0, h.c1⟩
theorem begun_ok {b : BBank} {fs : List Int} (h : BOk b) (hf : FOk b fs) : StOk (startsP b fs) b.bats.length 0 (begun b) := by
  refine ⟨⟨by simp [begun], fun j hj => ?_⟩, h.nb, ⟨by rw [startsP, startsTo_len]; simp [begun], fun j hj => ?_⟩, Int.le_refl _, by simp [begun]⟩
  · have e : (begun b).cells.getD j default = ⟨b.bats.getD j default, (b.bats.getD j default).energy⟩ := by
      simp [begun, List.getD_eq_getElem?_getD, List.getElem?_map, List.getElem?_eq_getElem hj]
    rw [e]
    exact cellOk_of (h.bat _ (getD_memB hj))
  · rw [startsP, startsTo_len] at hj
    simp [begun, List.getD_eq_getElem?_getD, List.getElem?_replicate, hj]
theorem playTo_ok {gens : List BGen} {sts : List Int} (p : PlayOk gens sts) {pw : List Int} (hw : PwOk pw) {nc : Nat} {s0 : BSt} (h : StOk sts nc 0 s0) (strict : Bool) : ∀ i, i ≤ pw.length → StOk sts nc i (playTo gens sts strict pw s0 i)
  | 0, _ => h
  | i + 1, hi => (second_ok p (by have := hw.n; omega) (hw.p i (by omega)).1 (hw.p i (by omega)).2 (playTo_ok p hw h strict i (by omega)) strict).1
theorem lackAt_ok {gens : List BGen} {sts : List Int} (p : PlayOk gens sts) {pw : List Int} (hw : PwOk pw) {nc : Nat} {s0 : BSt} (h : StOk sts nc 0 s0) (strict : Bool) {i : Nat} (hi : i < pw.length) : 0 ≤ lackAt gens sts strict pw s0 i ∧ lackAt gens sts strict pw s0 i ≤ 1000000 := by
  have := (second_ok p (t := (i : Nat)) (load := pw.getD i default) (by have := hw.n; omega) (hw.p i (by omega)).1 (hw.p i (by omega)).2 (playTo_ok p hw h strict i (by omega)) strict).2
  have := hw.p i hi
  unfold lackAt
  omega
theorem lackTo_ok {b : BBank} {fs : List Int} (h : BOk b) (hf : FOk b fs) {pw : List Int} (hw : PwOk pw) : ∀ i, i ≤ pw.length → 0 ≤ lackTo b pw fs i ∧ lackTo b pw fs i ≤ 1000000 * i
  | 0, _ => ⟨Int.le_refl _, by simp [lackTo]⟩
  | i + 1, hi => by
    have := lackTo_ok h hf hw i (by omega)
    have := lackAt_ok (playOk h hf) hw (begun_ok h hf) false (i := i) (by omega)
    rw [lackTo]
    omega
theorem cells_snoc {l : List BBat} {i : Nat} (hi : i < l.length) : (l.take (i + 1)).map (fun x => (⟨x, x.energy⟩ : BCell)) = (l.take i).map (fun x => ⟨x, x.energy⟩) ++ [⟨l.getD i default, (l.getD i default).energy⟩] := take_map_snoc _ hi
theorem dark_here {b : BBank} {pw fs : List Int} {m : Nat} (hm : m < pw.length) (hb : ∀ j, j < m → isDark b pw fs j = false) (hd : isDark b pw fs m = true) : darkP b pw fs = m := by
  refine findFirst_here (i := m) ?_ (by simpa using hm) (by rw [List.getD_eq_getElem?_getD, List.getElem?_range hm]; exact hd)
  rw [List.any_eq_false]
  intro x hx
  rw [List.take_range, List.mem_range] at hx
  rw [hb x (by omega)]; decide
theorem dark_never {b : BBank} {pw fs : List Int} (hb : ∀ j, j < pw.length → isDark b pw fs j = false) : darkP b pw fs = -1 := by
  refine findFirst_none (i := pw.length) ?_ (by simp)
  rw [List.any_eq_false]
  intro x hx
  rw [List.take_range, List.mem_range] at hx
  rw [hb x (by omega)]; decide
theorem run_here {b : BBank} {pw fs : List Int} {m : Nat} (hm : m < pw.length) (hb : ∀ j, j < m → isDark b pw fs j = false) (hd : isDark b pw fs m = true) : runP b pw fs = resOf (m : Nat) (stateP b pw fs true m) ∧ endP b pw fs = m := by
  have h := dark_here hm hb hd
  have e : endP b pw fs = m := by unfold endP; rw [h, if_neg (by omega)]; rfl
  unfold runP
  rw [e, h]; exact ⟨rfl, rfl⟩
theorem run_never {b : BBank} {pw fs : List Int} (hb : ∀ j, j < pw.length → isDark b pw fs j = false) : runP b pw fs = resOf (-1) (stateP b pw fs true pw.length) ∧ endP b pw fs = pw.length := by
  have h := dark_never hb
  have e : endP b pw fs = pw.length := by unfold endP; rw [h, if_pos (by omega)]
  unfold runP
  rw [e, h]; exact ⟨rfl, rfl⟩
theorem first_or (p : Nat → Bool) : ∀ n, (∀ j, j < n → p j = false) ∨ ∃ m, m < n ∧ p m = true ∧ ∀ j, j < m → p j = false
  | 0 => .inl fun j hj => absurd hj (Nat.not_lt_zero j)
  | n + 1 => by
    rcases first_or p n with h | ⟨m, h1, h2, h3⟩
    · cases hp : p n with
      | false =>
        refine .inl fun j hj => ?_
        rcases Nat.lt_or_ge j n with h4 | h4
        · exact h j h4
        · rw [show j = n by omega]; exact hp
      | true => exact .inr ⟨n, by omega, hp, h⟩
    · exact .inr ⟨m, by omega, h2, h3⟩
theorem dark_cases (b : BBank) (pw fs : List Int) : (darkP b pw fs = -1 ∧ ∀ j, j < pw.length → isDark b pw fs j = false) ∨ ∃ m, m < pw.length ∧ darkP b pw fs = (m : Nat) ∧ isDark b pw fs m = true ∧ ∀ j, j < m → isDark b pw fs j = false := by
  rcases first_or (isDark b pw fs) pw.length with h | ⟨m, h1, h2, h3⟩
  · exact .inl ⟨dark_never h, h⟩
  · exact .inr ⟨m, h1, dark_here h1 h3 h2, h2, h3⟩
theorem dark_after {b : BBank} {pw fs : List Int} {n : Nat} (h : ∀ j, j < n → isDark b pw fs j = false) : darkP b pw fs < 0 ∨ (n : Int) ≤ darkP b pw fs := by
  rcases dark_cases b pw fs with ⟨h1, _⟩ | ⟨m, h1, h2, h3, _⟩
  · rw [h1]; exact .inl (by decide)
  · rw [h2]
    right
    rcases Nat.lt_or_ge m n with h4 | h4
    · rw [h m h4] at h3; cases h3
    · omega
end Go.X

/- Lists of fails, in their order. No condition. -/
set_option linter.unusedVariables false
namespace Go.X
def block (L : Int → List (List Int)) (n : Nat) : List (List Int) := (L (n : Int)).map (fun x => (n : Int) :: x)
def blocks (L : Int → List (List Int)) : Nat → List (List Int)
  | 0 => []
  | k + 1 => blocks L k ++ block L k
def listsL : List Int → Int → List (List Int)
  | [], _ => [[]]
  | t :: ts, m => blocks (fun n => listsL ts (m - n)) (min t m + 1).toNat
def zerosL (ts : List Int) : List Int := List.replicate ts.length 0
def stepL : List Int → Int → List Int → Option (List Int)
  | t :: ts, m, n :: x => match stepL ts (m - n) x with
    | some y => some (n :: y)
    | none => if n < t ∧ 0 < m - n then some ((n + 1) :: zerosL ts) else none
  | _, _, _ => none
def Good (step : List Int → Option (List Int)) (z : List Int) (L : List (List Int)) (last : Option (List Int)) : Prop :=
  L[0]? = some z ∧ ∀ i x, L[i]? = some x → step x = if i + 1 < L.length then L[i + 1]? else last
theorem Good.glue {step : List Int → Option (List Int)} {z y : List Int} {L M : List (List Int)} {last : Option (List Int)} (h : Good step z L (some y)) (g : Good step y M last) : Good step z (L ++ M) last := by
  obtain ⟨h0, h1⟩ := h
  obtain ⟨g0, g1⟩ := g
  have hl : 0 < L.length := by
    rcases Nat.eq_zero_or_pos L.length with e | e
    · rw [List.getElem?_eq_none (by omega)] at h0; cases h0
    · exact e
  have gl : 0 < M.length := by
    rcases Nat.eq_zero_or_pos M.length with e | e
    · rw [List.getElem?_eq_none (by omega)] at g0; cases g0
    · exact e
  refine ⟨by rw [List.getElem?_append_left hl]; exact h0, fun i x hx => ?_⟩
  rw [List.length_append]
  rcases Nat.lt_or_ge i L.length with hi | hi
  · rw [List.getElem?_append_left hi] at hx
    rw [h1 i x hx, if_pos (show i + 1 < L.length + M.length by omega)]
    by_cases h2 : i + 1 < L.length
    · rw [if_pos h2, List.getElem?_append_left h2]
    · rw [if_neg h2, List.getElem?_append_right (by omega), show i + 1 - L.length = 0 by omega, g0]
  · rw [List.getElem?_append_right hi] at hx
    rw [g1 _ x hx]
    by_cases h2 : i - L.length + 1 < M.length
    · rw [if_pos h2, if_pos (by omega), List.getElem?_append_right (by omega)]
      congr 1; omega
    · rw [if_neg h2, if_neg (by omega)]
theorem Good.block {t m : Int} {ts : List Int} {n : Nat} {L : Int → List (List Int)} (h : Good (stepL ts (m - n)) (zerosL ts) (L n) none) :
    Good (stepL (t :: ts) m) ((n : Int) :: zerosL ts) (block L n) (if (n : Int) < t ∧ 0 < m - n then some (((n : Int) + 1) :: zerosL ts) else none) := by
  obtain ⟨h0, h1⟩ := h
  refine ⟨by rw [X.block, List.getElem?_map, h0]; rfl, fun i x hx => ?_⟩
  rw [X.block, List.getElem?_map] at hx
  cases hy : (L n)[i]? with
  | none => rw [hy] at hx; cases hx
  | some y =>
    rw [hy] at hx
    obtain rfl : (n : Int) :: y = x := by simpa using hx
    rw [stepL, h1 i y hy, X.block, List.length_map, List.getElem?_map]
    by_cases h2 : i + 1 < (L n).length
    · rw [if_pos h2, if_pos h2, List.getElem?_eq_getElem h2]; rfl
    · rw [if_neg h2, if_neg h2]
theorem Good.blocks {t m : Int} {ts : List Int} {L : Int → List (List Int)} (ht : 0 ≤ t) (hm : 0 ≤ m) (h : ∀ n : Nat, (n : Int) ≤ t → (n : Int) ≤ m → Good (stepL ts (m - n)) (zerosL ts) (L n) none) :
    ∀ k : Nat, (k : Int) < min t m + 1 → Good (stepL (t :: ts) m) (zerosL (t :: ts)) (blocks L (k + 1)) (if (k : Int) < t ∧ 0 < m - k then some (((k : Int) + 1) :: zerosL ts) else none)
  | 0, _ => by
    have := Good.block (t := t) (h 0 (by omega) (by omega))
    rw [X.blocks, X.blocks, List.nil_append]
    exact this
  | k + 1, hk => by
    have h1 := Good.blocks ht hm h k (by omega)
    rw [if_pos (by omega)] at h1
    have h2 := Good.block (t := t) (h (k + 1) (by omega) (by omega))
    rw [X.blocks]
    exact h1.glue h2
theorem lists_good : ∀ (ts : List Int) (m : Int), (∀ t ∈ ts, 0 ≤ t) → 0 ≤ m → Good (stepL ts m) (zerosL ts) (listsL ts m) none
  | [], m, _, _ => ⟨rfl, fun i x hx => by
    rw [listsL] at hx ⊢
    have : i = 0 := by
      rcases Nat.eq_zero_or_pos i with h | h
      · exact h
      · rw [List.getElem?_eq_none (by simp; omega)] at hx; cases hx
    subst this
    obtain rfl : [] = x := by simpa using hx
    rfl⟩
  | t :: ts, m, ht, hm => by
    have h0 := ht t List.mem_cons_self
    have := Good.blocks (t := t) (m := m) (ts := ts) (L := fun n => listsL ts (m - n)) h0 hm (fun n _ h2 => lists_good ts (m - n) (fun x hx => ht x (List.mem_cons_of_mem _ hx)) (by omega)) (min t m).toNat (by omega)
    rw [if_neg (by omega)] at this
    rw [listsL, show (min t m + 1).toNat = (min t m).toNat + 1 by omega]
    exact this
def sumL (l : List Int) : Int := l.foldr (· + ·) 0
theorem sumL_cons (a : Int) (l : List Int) : sumL (a :: l) = a + sumL l := rfl
theorem sumL_append (a b : List Int) : sumL (a ++ b) = sumL a + sumL b := by
  induction a with
  | nil => simp [sumL]
  | cons x t ih => rw [List.cons_append, sumL_cons, sumL_cons, ih]; omega
def FailsL : List Int → Int → List Int → Prop
  | [], m, x => x = [] ∧ 0 ≤ m
  | t :: ts, m, x => ∃ n y, x = n :: y ∧ 0 ≤ n ∧ n ≤ t ∧ n ≤ m ∧ FailsL ts (m - n) y
theorem mem_blocks {L : Int → List (List Int)} {x : List Int} : ∀ k, x ∈ blocks L k ↔ ∃ n : Nat, n < k ∧ ∃ y ∈ L (n : Int), x = (n : Int) :: y
  | 0 => by simp [blocks]
  | k + 1 => by
    rw [blocks, List.mem_append, mem_blocks k, block, List.mem_map]
    constructor
    · rintro (⟨n, hn, y, hy, rfl⟩ | ⟨y, hy, rfl⟩)
      · exact ⟨n, by omega, y, hy, rfl⟩
      · exact ⟨k, by omega, y, hy, rfl⟩
    · rintro ⟨n, hn, y, hy, rfl⟩
      rcases Nat.lt_or_ge n k with h | h
      · exact .inl ⟨n, h, y, hy, rfl⟩
      · obtain rfl : n = k := by omega
        exact .inr ⟨y, hy, rfl⟩
theorem mem_lists : ∀ (ts : List Int) (m : Int) (x : List Int), (∀ t ∈ ts, 0 ≤ t) → 0 ≤ m → (x ∈ listsL ts m ↔ FailsL ts m x)
  | [], m, x, _, hm => by simp [listsL, FailsL, hm]
  | t :: ts, m, x, ht, hm => by
    rw [listsL, mem_blocks, FailsL]
    constructor
    · rintro ⟨n, hn, y, hy, rfl⟩
      exact ⟨n, y, rfl, by omega, by omega, by omega, (mem_lists ts (m - n) y (fun t h => ht t (List.mem_cons_of_mem _ h)) (by omega)).1 hy⟩
    · rintro ⟨n, y, rfl, h0, h1, h2, hy⟩
      refine ⟨n.toNat, by omega, y, ?_, by rw [show ((n.toNat : Nat) : Int) = n by omega]⟩
      rw [show ((n.toNat : Nat) : Int) = n by omega]
      exact (mem_lists ts (m - n) y (fun t h => ht t (List.mem_cons_of_mem _ h)) (by omega)).2 hy
theorem FailsL_iff : ∀ (ts : List Int) (m : Int) (x : List Int), 0 ≤ m → (FailsL ts m x ↔ x.length = ts.length ∧ (∀ i, i < ts.length → 0 ≤ x.getD i default ∧ x.getD i default ≤ ts.getD i default) ∧ sumL x ≤ m)
  | [], m, x, hm => by
    rw [FailsL]
    constructor
    · rintro ⟨rfl, h⟩
      exact ⟨rfl, fun i hi => absurd hi (Nat.not_lt_zero i), h⟩
    · rintro ⟨h, _, h2⟩
      exact ⟨List.length_eq_zero_iff.1 h, hm⟩
  | t :: ts, m, x, hm => by
    rw [FailsL]
    constructor
    · rintro ⟨n, y, rfl, h0, h1, h2, hy⟩
      obtain ⟨a, b, c⟩ := (FailsL_iff ts (m - n) y (by omega)).1 hy
      refine ⟨by simp [a], fun i hi => ?_, by rw [sumL_cons]; omega⟩
      cases i with
      | zero => exact ⟨h0, h1⟩
      | succ i => exact b i (by simpa using hi)
    · rintro ⟨hl, hb, hs⟩
      cases x with
      | nil => cases hl
      | cons n y =>
        have h0 := hb 0 (by simp)
        have hp : ∀ i, i < ts.length → 0 ≤ y.getD i default ∧ y.getD i default ≤ ts.getD i default := fun i hi => hb (i + 1) (by simpa using hi)
        have hy0 : 0 ≤ sumL y := by
          have : ∀ z : List Int, (∀ a ∈ z, 0 ≤ a) → 0 ≤ sumL z := by
            intro z
            induction z with
            | nil => intro _; exact Int.le_refl _
            | cons a z ih => intro h; rw [sumL_cons]; have := h a List.mem_cons_self; have := ih (fun b hb => h b (List.mem_cons_of_mem _ hb)); omega
          refine this y fun a ha => ?_
          obtain ⟨i, hi, rfl⟩ := List.mem_iff_getElem.1 ha
          have := (hp i (by simp at hl; omega)).1
          rwa [List.getD_eq_getElem?_getD, List.getElem?_eq_getElem hi] at this
        rw [sumL_cons] at hs
        have h0' : 0 ≤ n ∧ n ≤ t := h0
        exact ⟨n, y, rfl, h0'.1, h0'.2, by omega, (FailsL_iff ts (m - n) y (by omega)).2 ⟨by simpa using hl, hp, by omega⟩⟩
theorem step_none {ts x : List Int} {i : Nat} {m : Int} (hl : x.length = ts.length) (hi : i < ts.length) (hn : stepL (ts.drop (i + 1)) (m - x.getD i default) (x.drop (i + 1)) = none) (hc : ¬ (x.getD i default < ts.getD i default ∧ 0 < m - x.getD i default)) :
    stepL (ts.drop i) m (x.drop i) = none := by
  have e1 : ts.drop i = ts.getD i default :: ts.drop (i + 1) := by
    rw [List.drop_eq_getElem_cons hi, List.getD_eq_getElem?_getD, List.getElem?_eq_getElem hi]; rfl
  have e2 : x.drop i = x.getD i default :: x.drop (i + 1) := by
    rw [List.drop_eq_getElem_cons (by omega), List.getD_eq_getElem?_getD, List.getElem?_eq_getElem (by omega)]; rfl
  rw [e1, e2, stepL, hn]
  dsimp only
  rw [if_neg hc]
theorem step_some {ts x : List Int} {i : Nat} {m : Int} (hl : x.length = ts.length) (hi : i < ts.length) (hn : stepL (ts.drop (i + 1)) (m - x.getD i default) (x.drop (i + 1)) = none) (hc : x.getD i default < ts.getD i default ∧ 0 < m - x.getD i default) :
    stepL (ts.drop i) m (x.drop i) = some ((x.getD i default + 1) :: List.replicate (ts.length - (i + 1)) 0) := by
  have e1 : ts.drop i = ts.getD i default :: ts.drop (i + 1) := by
    rw [List.drop_eq_getElem_cons hi, List.getD_eq_getElem?_getD, List.getElem?_eq_getElem hi]; rfl
  have e2 : x.drop i = x.getD i default :: x.drop (i + 1) := by
    rw [List.drop_eq_getElem_cons (by omega), List.getD_eq_getElem?_getD, List.getElem?_eq_getElem (by omega)]; rfl
  rw [e1, e2, stepL, hn]
  dsimp only
  rw [if_pos hc, zerosL, List.length_drop]
theorem step_pre : ∀ (i : Nat) (ts x : List Int) (m : Int) (y : List Int), i ≤ ts.length → x.length = ts.length → stepL (ts.drop i) (m - sumL (x.take i)) (x.drop i) = some y → stepL ts m x = some (x.take i ++ y)
  | 0, ts, x, m, y, _, _, h => by
    rw [List.take_zero] at h
    simpa [sumL] using h
  | i + 1, [], x, m, y, hi, hl, h => by simp at hi
  | i + 1, t :: ts, [], m, y, hi, hl, h => by simp at hl
  | i + 1, t :: ts, n :: x, m, y, hi, hl, h => by
    rw [List.take_succ_cons, List.drop_succ_cons, List.drop_succ_cons, sumL_cons] at h
    have := step_pre i ts x (m - n) y (by simpa using hi) (by simpa using hl) (by rwa [show m - n - sumL (x.take i) = m - (n + sumL (x.take i)) by omega])
    rw [stepL, this, List.take_succ_cons]; rfl
theorem sumL_take_succ {x : List Int} {i : Nat} (hi : i < x.length) : sumL (x.take (i + 1)) = sumL (x.take i) + x.getD i default := by
  rw [take_snocB hi, sumL_append]; simp [sumL]
/-! ### the worst -/
def better (k : Nat) (r out : BRes) : Bool := decide (k = 0) || (decide (0 ≤ r.dark) && (decide (out.dark < 0) || decide (r.dark < out.dark)))
def worstTo (b : BBank) (pw : List Int) (ls : List (List Int)) : Nat → List Int × BRes
  | 0 => ([], ⟨0, [], [], 0⟩)
  | k + 1 => if better k (runP b pw (ls.getD k default)) (worstTo b pw ls k).2 = true then (ls.getD k default, runP b pw (ls.getD k default)) else worstTo b pw ls k
def triesP (b : BBank) : List Int := b.gens.map (·.tries)
def listsP (b : BBank) (most : Int) : List (List Int) := listsL (triesP b) most
def worstP (b : BBank) (pw : List Int) (most : Int) : List Int × BRes := worstTo b pw (listsP b most) (listsP b most).length
def leastTo (b : BBank) (pw : List Int) (ls : List (List Int)) : Nat → Int
  | 0 => 0
  | k + 1 => max (leastTo b pw ls k) (lackP b pw (ls.getD k default))
def leastP (b : BBank) (pw : List Int) (most : Int) : Int := leastTo b pw (listsP b most) (listsP b most).length
def casesTo (b : BBank) (n : Int) : Nat → Int
  | 0 => n
  | i + 1 => casesTo b n i * ((b.gens.getD i default).tries + 1)
def searchP (b : BBank) (l : List BSpan) (most : Int) : Int :=
  if bcheck b ≠ 0 then bcheck b else if (loadedP l).2 ≠ 0 then (loadedP l).2 else if most < 0 then 1 else if 4194304 < casesTo b (loadedP l).1 b.gens.length then 8 else 0
theorem triesP_at {b : BBank} {i : Nat} (hi : i < b.gens.length) : (triesP b).getD i default = (b.gens.getD i default).tries := by
  rw [triesP, List.getD_eq_getElem?_getD, List.getElem?_map, List.getD_eq_getElem?_getD, List.getElem?_eq_getElem hi]; rfl
theorem tries_ok {b : BBank} (h : BOk b) : ∀ t ∈ triesP b, 0 ≤ t := fun t ht => by
  obtain ⟨g, hg, rfl⟩ := List.mem_map.1 ht
  have := (h.gen g hg).t0; omega
theorem mem_listsP {b : BBank} (h : BOk b) {m : Int} (hm : 0 ≤ m) {x : List Int} : x ∈ listsP b m ↔ FOk b x ∧ sumL x ≤ m := by
  rw [listsP, mem_lists _ _ _ (tries_ok h) hm, FailsL_iff _ _ _ hm]
  have hl : (triesP b).length = b.gens.length := by simp [triesP]
  constructor
  · rintro ⟨h1, h2, h3⟩
    refine ⟨⟨by omega, fun i hi => ?_⟩, h3⟩
    rw [← triesP_at hi]; exact h2 i (by omega)
  · rintro ⟨h1, h3⟩
    refine ⟨by rw [h1.n, hl], fun i hi => ?_, h3⟩
    rw [triesP_at (by omega)]; exact h1.f i (by omega)
theorem listsP_ne {b : BBank} (h : BOk b) {m : Int} (hm : 0 ≤ m) : 0 < (listsP b m).length := by
  have := (lists_good _ m (tries_ok h) hm).1
  rcases Nat.eq_zero_or_pos (listsP b m).length with e | e
  · rw [List.getElem?_eq_none (by rw [listsP] at e; omega)] at this; cases this
  · exact e
def capTo : Nat → Int
  | 0 => 20000
  | i + 1 => capTo i * 6
theorem capTo_le : ∀ i, i ≤ 6 → 0 ≤ capTo i ∧ capTo i ≤ 933120000 := fun i hi => by
  match i, hi with
  | 0, _ => decide
  | 1, _ => decide
  | 2, _ => decide
  | 3, _ => decide
  | 4, _ => decide
  | 5, _ => decide
  | 6, _ => decide
  | n + 7, h => omega
theorem casesTo_ok {b : BBank} (h : BOk b) {n : Int} (h0 : 0 ≤ n) (h1 : n ≤ 20000) : ∀ i, i ≤ b.gens.length → 0 ≤ casesTo b n i ∧ casesTo b n i ≤ capTo i
  | 0, _ => ⟨h0, h1⟩
  | i + 1, hi => by
    obtain ⟨a, c⟩ := casesTo_ok h h0 h1 i (by omega)
    have g := h.gen _ (getD_memB (show i < b.gens.length by omega))
    have := g.t0; have := g.t1
    exact mulLe a c (by omega) (by omega)
theorem casesTo_bound {b : BBank} (h : BOk b) {n : Int} (h0 : 0 ≤ n) (h1 : n ≤ 20000) (i : Nat) (hi : i ≤ b.gens.length) : 0 ≤ casesTo b n i ∧ casesTo b n i ≤ 933120000 := by
  have := casesTo_ok h h0 h1 i hi
  have := capTo_le i (by have := h.ng; omega)
  omega
theorem loaded_bound {l : List BSpan} (h : LOk l) : 0 ≤ (loadedP l).1 ∧ (loadedP l).1 ≤ 20000 := by
  rw [loadedP_one h]
  have := h.t
  have h2 := cnt_secs (l := l) (fun x hx => by have := (h.s x hx).1; omega) l.length (Nat.le_refl _)
  dsimp only
  omega
end Go.X

/- The odometer of fails. No condition. -/
set_option linter.unusedVariables false
namespace Go.X
theorem now_at {x : List Int} {i : Nat} (hi : i < x.length) : (x.take (i + 1) ++ List.replicate (x.length - (i + 1)) 0).getD i default = x.getD i default := by
  rw [List.getD_eq_getElem?_getD, List.getElem?_append_left (by rw [List.length_take]; omega), List.getElem?_take, if_pos (by omega), ← List.getD_eq_getElem?_getD]
theorem now_len {x : List Int} {i : Nat} (hi : i ≤ x.length) : (x.take i ++ List.replicate (x.length - i) 0).length = x.length := by
  rw [List.length_append, List.length_take, List.length_replicate]; omega
theorem now_set {x : List Int} {i : Nat} (hi : i < x.length) (y : Int) : (x.take (i + 1) ++ List.replicate (x.length - (i + 1)) 0).set i y = x.take i ++ y :: List.replicate (x.length - (i + 1)) 0 := by
  have hl : (x.take i).length = i := by rw [List.length_take]; omega
  rw [take_snocB hi, List.append_assoc, List.set_append_right _ _ (by omega), hl, Nat.sub_self]
  rfl
theorem now_zero {x : List Int} {i : Nat} (hi : i < x.length) : (x.take (i + 1) ++ List.replicate (x.length - (i + 1)) 0).set i 0 = x.take i ++ List.replicate (x.length - i) 0 := by
  rw [now_set hi, show x.length - i = (x.length - (i + 1)) + 1 by omega, List.replicate_succ]
def leftK (most : Int) (items : List (List Int)) : Nat → Int
  | 0 => most
  | k + 1 => most - sumL (items.getD (k + 1) default)
theorem sumL_rep (n : Nat) : sumL (List.replicate n 0) = 0 := by
  induction n with
  | zero => rfl
  | succ n ih => rw [List.replicate_succ, sumL_cons, ih]; rfl
theorem lists_first {b : BBank} (h : BOk b) {m : Int} (hm : 0 ≤ m) : (listsP b m).getD 0 default = List.replicate b.gens.length 0 := by
  have := (lists_good _ m (tries_ok h) hm).1
  rw [List.getD_eq_getElem?_getD, listsP, this]
  simp [zerosL, triesP]
theorem lists_step {b : BBank} (h : BOk b) {m : Int} (hm : 0 ≤ m) {k : Nat} (hk : k < (listsP b m).length) : stepL (triesP b) m ((listsP b m).getD k default) = (listsP b m)[k + 1]? := by
  have := (lists_good _ m (tries_ok h) hm).2 k ((listsP b m).getD k default) (by rw [List.getD_eq_getElem?_getD, List.getElem?_eq_getElem hk]; exact List.getElem?_eq_getElem hk)
  rw [this]
  split
  · rfl
  · rename_i h2; rw [List.getElem?_eq_none (by rw [listsP]; omega)]
theorem lists_in {b : BBank} (h : BOk b) {m : Int} (hm : 0 ≤ m) {k : Nat} (hk : k < (listsP b m).length) : FOk b ((listsP b m).getD k default) ∧ sumL ((listsP b m).getD k default) ≤ m :=
  (mem_listsP h hm).1 (getD_memB hk)
theorem leftK_eq {b : BBank} (h : BOk b) {m : Int} (hm : 0 ≤ m) {k : Nat} : leftK m (listsP b m) k = m - sumL (((listsP b m).getD k default).take ((listsP b m).getD k default).length) := by
  cases k with
  | zero => rw [lists_first h hm, List.take_length, sumL_rep, leftK]; omega
  | succ k => rw [leftK, List.take_length]
theorem some_getD {L : List (List Int)} {k : Nat} {y : List Int} (h : L[k]? = some y) : k < L.length ∧ L.getD k default = y := by
  have hk : k < L.length := by
    rcases Nat.lt_or_ge k L.length with h1 | h1
    · exact h1
    · rw [List.getElem?_eq_none h1] at h; cases h
  exact ⟨hk, by rw [List.getD_eq_getElem?_getD, h]; rfl⟩
theorem sumL_nonneg {x : List Int} (h : ∀ i, i < x.length → 0 ≤ x.getD i default) : ∀ i, i ≤ x.length → 0 ≤ sumL (x.take i) ∧ sumL (x.take i) ≤ sumL x
  | i, hi => by
    have pos : ∀ z : List Int, (∀ a ∈ z, 0 ≤ a) → 0 ≤ sumL z := by
      intro z
      induction z with
      | nil => intro _; exact Int.le_refl _
      | cons a z ih => intro h; rw [sumL_cons]; have := h a List.mem_cons_self; have := ih (fun b hb => h b (List.mem_cons_of_mem _ hb)); omega
    have all : ∀ a ∈ x, 0 ≤ a := fun a ha => by
      obtain ⟨j, hj, rfl⟩ := List.mem_iff_getElem.1 ha
      have := h j hj
      rwa [List.getD_eq_getElem?_getD, List.getElem?_eq_getElem hj] at this
    have h1 := pos (x.take i) (fun a ha => all a (List.mem_of_mem_take ha))
    have h2 := pos (x.drop i) (fun a ha => all a (List.mem_of_mem_drop ha))
    have h3 : sumL x = sumL (x.take i) + sumL (x.drop i) := by rw [← sumL_append, List.take_append_drop]
    omega
/-- The next list is found at i. -/
theorem next_found {b : BBank} (h : BOk b) {m : Int} (hm : 0 ≤ m) {k : Nat} (hk : k < (listsP b m).length) {i : Nat} (hi : i < b.gens.length)
    (hn : stepL ((triesP b).drop (i + 1)) (m - sumL (((listsP b m).getD k default).take (i + 1))) (((listsP b m).getD k default).drop (i + 1)) = none)
    (h1 : ((listsP b m).getD k default).getD i default < (b.gens.getD i default).tries) (h2 : 0 < m - sumL (((listsP b m).getD k default).take (i + 1))) :
    k + 1 < (listsP b m).length ∧ (listsP b m).getD (k + 1) default = ((listsP b m).getD k default).take i ++ (((listsP b m).getD k default).getD i default + 1) :: List.replicate (((listsP b m).getD k default).length - (i + 1)) 0 ∧
    m - sumL (((listsP b m).getD k default).take (i + 1)) - 1 = leftK m (listsP b m) (k + 1) := by
  have hl := (lists_in h hm hk).1.n
  have ht : (triesP b).length = b.gens.length := by simp [triesP]
  have hs := sumL_take_succ (x := (listsP b m).getD k default) (i := i) (by omega)
  have e := step_some (ts := triesP b) (x := (listsP b m).getD k default) (i := i) (m := m - sumL (((listsP b m).getD k default).take i)) (by omega) (by omega) (by rwa [show m - sumL (((listsP b m).getD k default).take i) - ((listsP b m).getD k default).getD i default = m - sumL (((listsP b m).getD k default).take (i + 1)) by omega]) ⟨by rw [triesP_at hi]; exact h1, by omega⟩
  have e2 := step_pre i _ _ _ _ (by omega) (by omega) e
  rw [lists_step h hm hk] at e2
  obtain ⟨h3, h4⟩ := some_getD e2
  rw [ht, ← hl] at h4
  refine ⟨h3, h4, ?_⟩
  rw [leftK, h4, sumL_append, sumL_cons, sumL_rep]
  omega
theorem next_not {b : BBank} (h : BOk b) {m : Int} (hm : 0 ≤ m) {k : Nat} (hk : k < (listsP b m).length) {i : Nat} (hi : i < b.gens.length)
    (hn : stepL ((triesP b).drop (i + 1)) (m - sumL (((listsP b m).getD k default).take (i + 1))) (((listsP b m).getD k default).drop (i + 1)) = none)
    (hc : ¬ (((listsP b m).getD k default).getD i default < (b.gens.getD i default).tries ∧ 0 < m - sumL (((listsP b m).getD k default).take (i + 1)))) :
    stepL ((triesP b).drop i) (m - sumL (((listsP b m).getD k default).take i)) (((listsP b m).getD k default).drop i) = none ∧
    m - sumL (((listsP b m).getD k default).take (i + 1)) + ((listsP b m).getD k default).getD i default = m - sumL (((listsP b m).getD k default).take i) := by
  have hl := (lists_in h hm hk).1.n
  have ht : (triesP b).length = b.gens.length := by simp [triesP]
  have hs := sumL_take_succ (x := (listsP b m).getD k default) (i := i) (by omega)
  refine ⟨step_none (by omega) (by omega) (by rwa [show m - sumL (((listsP b m).getD k default).take i) - ((listsP b m).getD k default).getD i default = m - sumL (((listsP b m).getD k default).take (i + 1)) by omega]) (fun hh => hc ⟨by rw [← triesP_at hi]; exact hh.1, by omega⟩), by omega⟩
theorem next_end {b : BBank} (h : BOk b) {m : Int} (hm : 0 ≤ m) {k : Nat} (hk : k < (listsP b m).length) (hn : stepL ((triesP b).drop 0) (m - sumL (((listsP b m).getD k default).take 0)) (((listsP b m).getD k default).drop 0) = none) : k + 1 = (listsP b m).length := by
  rw [List.drop_zero, List.drop_zero, List.take_zero, show m - sumL [] = m by simp [sumL], lists_step h hm hk] at hn
  have := List.getElem?_eq_none_iff.1 hn
  omega
def flagP : Nat → Bool
  | 0 => true
  | _ + 1 => false
theorem better_iff {k : Nat} {r out : BRes} : better k r out = true ↔ flagP k = true ∨ (0 ≤ r.dark ∧ (out.dark < 0 ∨ r.dark < out.dark)) := by
  unfold better
  cases k with
  | zero => simp [flagP]
  | succ k => simp [flagP]
theorem step_start {ts x : List Int} (h : x.length = ts.length) (m : Int) : stepL (ts.drop x.length) m (x.drop x.length) = none := by
  rw [h, List.drop_length, ← h, List.drop_length]; rfl
theorem worstTo_succ (b : BBank) (pw : List Int) (ls : List (List Int)) (k : Nat) : worstTo b pw ls (k + 1) = if better k (runP b pw (ls.getD k default)) (worstTo b pw ls k).2 = true then (ls.getD k default, runP b pw (ls.getD k default)) else worstTo b pw ls k := rfl
end Go.X

/- Holding; the chapter's example. No condition. -/
set_option linter.unusedVariables false
set_option maxRecDepth 100000
namespace Go.X
def holdLoad (p : Int) : List BSpan := [⟨3600, p⟩, ⟨400, p⟩]
def holdP (b : BBank) (p most : Int) : Int × Int :=
  if bcheck b ≠ 0 then (0, bcheck b) else if ¬ inA 1000000 [p] = true then (0, 6)
  else if searchP b (holdLoad p) most ≠ 0 then (0, searchP b (holdLoad p) most)
  else if (worstP b (powers (holdLoad p)) most).2.dark < 0 then (4000, 0) else ((worstP b (powers (holdLoad p)) most).2.dark, 0)
structure SOk (b : BBank) (l : List BSpan) (most : Int) : Prop where
  ob : BOk b
  ol : LOk l
  m0 : 0 ≤ most
  c : casesTo b (loadedP l).1 b.gens.length ≤ 4194304
theorem searchP_iff {b : BBank} {l : List BSpan} {most : Int} : searchP b l most = 0 ↔ SOk b l most := by
  unfold searchP
  constructor
  · intro h
    split at h
    · contradiction
    · split at h
      · contradiction
      · split at h
        · cases h
        · split at h
          · cases h
          · rename_i h1 h2 h3 h4
            exact ⟨bcheck_iff.1 (Decidable.of_not_not h1), loadedP_iff.1 (Decidable.of_not_not h2), by omega, by omega⟩
  · rintro ⟨h1, h2, h3, h4⟩
    rw [if_neg (by rw [bcheck_iff.2 h1]; decide), if_neg (by rw [loadedP_iff.2 h2]; decide), if_neg (by omega), if_neg (by omega)]
def exB : BBank := ⟨[⟨1000, 1000, 100, 10⟩], [⟨100, 20, 5, 2, 2⟩]⟩
def exL : List BSpan := [⟨60, 100⟩]
theorem ex_ready : readyP exB exL [0] = 0 := by kernel_rfl
theorem ex_dark : darkP exB (powers exL) [0] = -1 := by kernel_rfl
theorem ex_energy : (runP exB (powers exL) [0]).energy = [300] := by
  unfold runP endP
  rw [ex_dark]
  kernel_rfl
theorem ex_dark1 : darkP exB (powers exL) [1] = 10 := by kernel_rfl
theorem ex_search : searchP exB exL 1 = 0 := by kernel_rfl
theorem ex_lists : listsP exB 1 = [[0], [1]] := by kernel_rfl
theorem ex_worst : (worstP exB (powers exL) 1).1 = [1] ∧ (worstP exB (powers exL) 1).2.dark = 10 := by
  unfold worstP
  rw [ex_lists]
  have h0 : worstTo exB (powers exL) [[0], [1]] 1 = ([0], runP exB (powers exL) [0]) := by
    rw [worstTo_succ, if_pos (by rw [better_iff]; exact .inl rfl)]; rfl
  have h1 : worstTo exB (powers exL) [[0], [1]] 2 = ([1], runP exB (powers exL) [1]) := by
    rw [worstTo_succ, h0, if_pos]
    · rfl
    · rw [better_iff]
      have e0 : (runP exB (powers exL) [0]).dark = -1 := ex_dark
      have e1 : (runP exB (powers exL) ([[0], [1]].getD 1 default)).dark = 10 := ex_dark1
      dsimp only
      rw [e0, e1]; decide
  show (worstTo exB (powers exL) [[0], [1]] 2).1 = [1] ∧ (worstTo exB (powers exL) [[0], [1]] 2).2.dark = 10
  rw [h1]; exact ⟨rfl, ex_dark1⟩
theorem ex_lack0 : lackP exB (powers exL) [0] = 0 := by kernel_rfl
theorem ex_lack1 : lackP exB (powers exL) [1] = 400 := by kernel_rfl
theorem ex_least : leastP exB (powers exL) 1 = 400 := by
  unfold leastP
  rw [ex_lists]
  show max (max 0 (lackP exB (powers exL) [0])) (lackP exB (powers exL) [1]) = 400
  rw [ex_lack0, ex_lack1]; decide
theorem ex_hold_search : searchP exB (holdLoad 100) 1 = 0 := by kernel_rfl
theorem all_not {b : BBank} {pw fs : List Int} {n : Nat} (h : allTo (fun j => !isDark b pw fs j) n = true) : ∀ j, j < n → isDark b pw fs j = false := fun j hj => by
  have := allTo_at h hj
  simpa using this
theorem ex_hold1 : darkP exB (powers (holdLoad 100)) [1] = 10 := by
  have h1 : Nat.ble 11 (powers (holdLoad 100)).length = true := by kernel_rfl
  have h2 : allTo (fun j => !isDark exB (powers (holdLoad 100)) [1] j) 10 = true := by kernel_rfl
  have h3 : isDark exB (powers (holdLoad 100)) [1] 10 = true := by kernel_rfl
  generalize powers (holdLoad 100) = pw at *
  exact dark_here (m := 10) (by have := Nat.le_of_ble_eq_true h1; omega) (all_not h2) h3
theorem ex_hold0 : darkP exB (powers (holdLoad 100)) [0] < 0 ∨ 11 ≤ darkP exB (powers (holdLoad 100)) [0] := by
  have h2 : allTo (fun j => !isDark exB (powers (holdLoad 100)) [0] j) 11 = true := by kernel_rfl
  generalize powers (holdLoad 100) = pw at *
  exact dark_after (n := 11) (all_not h2)
theorem worst_pair {b : BBank} {pw x y : List Int} (h0 : 0 ≤ darkP b pw y) (h : darkP b pw x < 0 ∨ darkP b pw y < darkP b pw x) : (worstTo b pw [x, y] 2) = (y, runP b pw y) := by
  have e0 : worstTo b pw [x, y] 1 = (x, runP b pw x) := by
    rw [worstTo_succ, if_pos (by rw [better_iff]; exact .inl rfl)]; rfl
  rw [worstTo_succ, e0, if_pos (by rw [better_iff]; exact .inr ⟨h0, h⟩)]; rfl
theorem holdP_of {b : BBank} {p most : Int} (h1 : bcheck b = 0) (h2 : inA 1000000 [p] = true) (h3 : searchP b (holdLoad p) most = 0) : holdP b p most = (if (worstP b (powers (holdLoad p)) most).2.dark < 0 then 4000 else (worstP b (powers (holdLoad p)) most).2.dark, 0) := by
  unfold holdP
  rw [if_neg (by rw [h1]; decide), if_neg (by rw [h2]; decide), h3, if_neg (by decide)]
  split <;> rfl
theorem ex_hold_dark : (worstP exB (powers (holdLoad 100)) 1).2.dark = 10 := by
  have h1 := ex_hold1
  have h0 := ex_hold0
  generalize powers (holdLoad 100) = pw at *
  unfold worstP
  rw [ex_lists]
  show (worstTo exB pw [[0], [1]] 2).2.dark = 10
  rw [worst_pair (by rw [h1]; decide) (by rw [h1]; omega)]
  exact h1
theorem ex_hold : holdP exB 100 1 = (10, 0) := by
  rw [holdP_of (by decide) (by decide) ex_hold_search, ex_hold_dark]; rfl
end Go.X

/- What the law makes of numbers. No condition. -/
set_option linter.unusedVariables false
namespace Go.X
def byt (l : List UInt8) (i : Nat) : Int := ((l.getD i default).toNat : Nat)
theorem byt_ok (l : List UInt8) (i : Nat) : 0 ≤ byt l i ∧ byt l i ≤ 255 := by
  have := (l.getD i default).toNat_lt
  unfold byt
  omega
def batAt (l : List UInt8) (i : Nat) : BBat := ⟨40 * byt l i * byt l (i + 1) / 255, 40 * byt l i, byt l (i + 2), byt l (i + 3) % 40⟩
def genAt (l : List UInt8) (i : Nat) : BGen := ⟨byt l i, 1 + byt l (i + 1) % 60, byt l (i + 2) % 30, byt l (i + 3) % 20, 1 + byt l (i + 4) % 4⟩
def madeTo (l : List UInt8) : Nat → BBank
  | 0 => ⟨[], []⟩
  | k + 1 => if (5 * k) % 2 = 0 then ⟨(madeTo l k).bats ++ [batAt l (5 * k)], (madeTo l k).gens⟩ else ⟨(madeTo l k).bats, (madeTo l k).gens ++ [genAt l (5 * k)]⟩
def madeP (l : List UInt8) : BBank := madeTo l (min 7 (l.length / 5))
theorem batAt_ok (l : List UInt8) (i : Nat) : BatOk (batAt l i) := by
  have h0 := byt_ok l i; have h1 := byt_ok l (i + 1); have h2 := byt_ok l (i + 2); have h3 := byt_ok l (i + 3)
  have m := mulLe (a := 40 * byt l i) (b := byt l (i + 1)) (m := 10200) (n := 255) (by omega) (by omega) h1.1 h1.2
  have m2 : 40 * byt l i * byt l (i + 1) ≤ 40 * byt l i * 255 := Int.mul_le_mul_of_nonneg_left h1.2 (by omega)
  unfold batAt
  exact ⟨by dsimp only; omega, by dsimp only; omega, by dsimp only; omega, by dsimp only; omega, by dsimp only; omega, by dsimp only; omega, by dsimp only; omega⟩
theorem genAt_ok (l : List UInt8) (i : Nat) : GenOk (genAt l i) := by
  have h0 := byt_ok l i; have h1 := byt_ok l (i + 1); have h2 := byt_ok l (i + 2); have h3 := byt_ok l (i + 3); have h4 := byt_ok l (i + 4)
  unfold genAt
  exact ⟨by dsimp only; omega, by dsimp only; omega, by dsimp only; omega, by dsimp only; omega, by dsimp only; omega, by dsimp only; omega, by dsimp only; omega, by dsimp only; omega, by dsimp only; omega, by dsimp only; omega⟩
theorem snoc_mem {α : Type} {p : α → Prop} {l : List α} {x : α} (h : ∀ y ∈ l, p y) (hx : p x) : ∀ y ∈ l ++ [x], p y := fun y hy => by
  rcases List.mem_append.1 hy with hy | hy
  · exact h y hy
  · rw [List.mem_singleton] at hy; subst hy; exact hx
theorem madeTo_ok (l : List UInt8) : ∀ k, (∀ x ∈ (madeTo l k).bats, BatOk x) ∧ (∀ x ∈ (madeTo l k).gens, GenOk x) ∧ (madeTo l k).bats.length ≤ (k + 1) / 2 ∧ (madeTo l k).gens.length ≤ k / 2
  | 0 => ⟨fun x hx => absurd hx List.not_mem_nil, fun x hx => absurd hx List.not_mem_nil, Nat.le_refl _, Nat.le_refl _⟩
  | k + 1 => by
    obtain ⟨h1, h2, h3, h4⟩ := madeTo_ok l k
    rw [madeTo]
    split
    · refine ⟨snoc_mem h1 (batAt_ok l _), h2, ?_, ?_⟩
      · rw [List.length_append, List.length_singleton]; omega
      · dsimp only; omega
    · refine ⟨h1, snoc_mem h2 (genAt_ok l _), ?_, ?_⟩
      · dsimp only; omega
      · rw [List.length_append, List.length_singleton]; omega
theorem made_ok (l : List UInt8) : BOk (madeP l) ∧ (madeP l).bats.length ≤ 4 ∧ (madeP l).gens.length ≤ 3 := by
  obtain ⟨h1, h2, h3, h4⟩ := madeTo_ok l (min 7 (l.length / 5))
  have : (madeP l).bats.length ≤ 4 := by unfold madeP; omega
  have : (madeP l).gens.length ≤ 3 := by unfold madeP; omega
  exact ⟨⟨by omega, by omega, h1, h2⟩, by omega, by omega⟩
def spanAt (l : List UInt8) (i : Nat) : BSpan := ⟨1 + byt l i % 40, byt l (i + 1)⟩
def loadTo (l : List UInt8) : Nat → List BSpan
  | 0 => []
  | k + 1 => loadTo l k ++ [spanAt l (2 * k)]
def loadP (l : List UInt8) : List BSpan := loadTo l (min 8 (l.length / 2))
theorem loadTo_ok (l : List UInt8) : ∀ k, (∀ x ∈ loadTo l k, (1 ≤ x.seconds ∧ x.seconds ≤ 40) ∧ 0 ≤ x.power ∧ x.power ≤ 255) ∧ (loadTo l k).length = k
  | 0 => ⟨fun x hx => absurd hx List.not_mem_nil, rfl⟩
  | k + 1 => by
    obtain ⟨h1, h2⟩ := loadTo_ok l k
    have h3 := byt_ok l (2 * k); have h4 := byt_ok l (2 * k + 1)
    rw [loadTo]
    exact ⟨snoc_mem h1 (by unfold spanAt; dsimp only; omega), by rw [List.length_append, h2]; rfl⟩
theorem secs_le {l : List BSpan} (h : ∀ x ∈ l, x.seconds ≤ 40) : ∀ i, i ≤ l.length → secs l i ≤ 40 * i
  | 0, _ => by simp [secs]
  | i + 1, hi => by
    have := secs_le h i (by omega)
    have := h _ (getD_memB (show i < l.length by omega))
    rw [secs]; omega
theorem load_ok (l : List UInt8) : LOk (loadP l) ∧ (∀ x ∈ loadP l, (1 ≤ x.seconds ∧ x.seconds ≤ 40) ∧ 0 ≤ x.power ∧ x.power ≤ 255) ∧ (loadP l).length ≤ 8 ∧ (powers (loadP l)).length ≤ 320 := by
  obtain ⟨h1, h2⟩ := loadTo_ok l (min 8 (l.length / 2))
  have hl : (loadP l).length ≤ 8 := by unfold loadP; omega
  have hs := secs_le (l := loadP l) (fun x hx => (h1 x hx).1.2) _ (Nat.le_refl _)
  have hc := cnt_secs (l := loadP l) (fun x hx => by have := (h1 x hx).1; omega) _ (Nat.le_refl _)
  rw [cnt_all] at hc
  refine ⟨⟨by omega, fun x hx => ?_, by omega⟩, h1, hl, by omega⟩
  have := h1 x hx
  omega
def failAt (b : BBank) (l : List UInt8) (i : Nat) : Int := if i < l.length then byt l i % ((b.gens.getD i default).tries + 1) else 0
def failTo (b : BBank) (l : List UInt8) : Nat → List Int
  | 0 => []
  | i + 1 => failTo b l i ++ [failAt b l i]
def failP (b : BBank) (l : List UInt8) : List Int := failTo b l b.gens.length
theorem failTo_len (b : BBank) (l : List UInt8) : ∀ i, (failTo b l i).length = i
  | 0 => rfl
  | i + 1 => by rw [failTo, List.length_append, failTo_len b l i]; rfl
theorem failTo_at (b : BBank) (l : List UInt8) {j : Nat} : ∀ i, j < i → (failTo b l i).getD j default = failAt b l j
  | 0, h => by omega
  | i + 1, h => by
    have hl := failTo_len b l i
    rw [failTo, List.getD_eq_getElem?_getD, List.getElem?_append]
    split
    · rw [← List.getD_eq_getElem?_getD]; exact failTo_at b l i (by omega)
    · have : j = i := by omega
      subst this
      simp [hl]
theorem fail_ok {b : BBank} (h : BOk b) (l : List UInt8) : FOk b (failP b l) := ⟨failTo_len _ _ _, fun i hi => by
  have g := h.gen _ (getD_memB hi)
  have := g.t0
  have hb := byt_ok l i
  rw [failP, failTo_at _ _ _ hi, failAt]
  split
  · exact ⟨Int.emod_nonneg _ (by omega), by have := Int.emod_lt_of_pos (byt l i) (show 0 < (b.gens.getD i default).tries + 1 by omega); omega⟩
  · omega⟩
end Go.X

/- Arguments that are slices of bools, opened. No condition. -/
set_option linter.unusedVariables false
namespace Go.X
open Go.ChangeShapes Go.WideShapes Go.Deep
end Go.X

/- append of a make onto nothing; an owned slice cut at its end; capacity. No condition. -/
set_option linter.unusedVariables false
namespace Go.X
section
variable {P : Program} {ops : Array Oper} {e : Env} {o r : List PHeap} {d : Option Tmp} {ty : TypeId} {pos : String} {aft : Array Edge}
variable {α : Type} {enc : α → List Value} {sz : Nat} {h : PHeap} {xs : List α} {v : Value}
theorem zero_list {zs : List Value} {n : Nat} (h : 0 < zs.length) : (Builtin.zeroCells zs.toArray n).toList = (List.replicate n zs).flatten := by
  have hr := range_map_const (n := n) (zs := zs) (by omega)
  unfold Builtin.zeroCells
  rw [show zs.toArray.size = zs.length from List.size_toArray ..] at hr ⊢
  rw [hr]
theorem Q.capN {t el : TypeId} [u : Und P t (.slice el)] {x : Operand} {ad : Option Addr} {n c : Nat} (hx : ev e x = some (.slice ad n c)) :
    Quiet P ops ⟨d, .call ⟨.builtin .cap, #[x], #[t]⟩, ty, pos, aft, none⟩ e o r (.int .i64 c) := .mk fun a w he _ => by
  have hx' := ev_rel he hx
  simp only [execOp, resolve, List.map_toArray, List.map_cons, List.map_nil, hx']
  rw [bind_ok (a := _) (w1 := w) rfl]
  simp only [invoke, builtin]
  refine run_val ?_
  unfold Builtin.cap_
  simp only [List.getElem?_toArray, List.getElem?_cons_zero]
  rw [bind_ok (u.pf w)]
  rfl
end
section
variable {c : Cx} {ops : Array Oper} {rest : List Oper} {k : List Item} {e : Env} {o r : List PHeap} {d : Nat} {ty : TypeId} {pos : String} {aft : Array Edge} {α : Type} {sz : Nat}
end
end Go.X

/- What slices.Insert does to an owned slice: parts of a plain slice value, append of a make onto a part without room, a shift within one block, overlaps of two blocks. No condition. -/
set_option linter.unusedSimpArgs false
set_option linter.unusedVariables false
namespace Go.X
/-- cells from the i-th element to the j-th one of a block that has room for c elements -/
def rawv (b sz i j c : Nat) : Value := .slice (if c = i then some ⟨b, 0, none⟩ else (some (⟨b, 0, none⟩ : Addr)).map (·.add (i * sz))) (j - i) (c - i)
section
variable {P : Program} {ops : Array Oper} {e : Env} {o r : List PHeap} {d : Option Tmp} {ty : TypeId} {pos : String} {aft : Array Edge}
variable {α : Type} {enc : α → List Value} {sz : Nat} {h : PHeap} {xs : List α} {v : Value}
theorem Q.raw {t el : TypeId} [u : Und P t (.slice el)] [z : TySize P el sz] {x : Operand} {lo hi : Option Operand} {b n c i j : Nat} (hx : ev e x = some (.slice (some ⟨b, 0, none⟩) n c)) (hlo : Bd e 0 lo i) (hhi : Bd e n hi j) (hij : i ≤ j) (hj : j ≤ c) :
    Quiet P ops ⟨d, .slice t x lo hi none, ty, pos, aft, none⟩ e o r (rawv b sz i j c) := .mk fun a w he _ => by
  have hx' := ev_rel he hx
  have hrun : (Instr.sliceAt t (.slice (some ⟨b, 0, none⟩) n c) (lo.map (evA a)) (hi.map (evA a)) none).run P w = .ok (rawv b sz i j c) w := by
    unfold Instr.sliceAt
    rw [bind_ok (u.pf w)]
    simp only
    unfold Instr.slice
    rw [bind_ok (u.pf w)]
    simp only
    have hb : (Instr.sliceBounds true n c (lo.map (evA a)) (hi.map (evA a)) none).run P w = .ok (i, j, c) w := by
      unfold Instr.sliceBounds
      simp only [pure_bind, if_true, Option.isSome_none, Bool.false_eq_true, if_false]
      rcases Bd.run (P := P) he hhi c .sliceAcap hj w with ⟨h1, rfl⟩ | ⟨v1, h1, h2⟩
      · rcases Bd.run (P := P) he hlo j .sliceB hij w with ⟨h3, rfl⟩ | ⟨v3, h3, h4⟩
        · rw [h1, h3]; rfl
        · rw [h1, h3]
          simp only [pure_bind]
          rw [bind_ok h4]; rfl
      · rcases Bd.run (P := P) he hlo j .sliceB hij w with ⟨h3, rfl⟩ | ⟨v3, h3, h4⟩
        · rw [h1, h3]
          simp only
          rw [bind_ok h2]; rfl
        · rw [h1, h3]
          simp only
          rw [bind_ok h2, bind_ok h4]; rfl
    rw [bind_ok hb]
    simp only
    rw [bind_ok (z.pf w)]
    rfl
  simp only [execOp, hx', Option.map_none]
  exact run_val hrun
/-- append(s[:i], make([]T, q)...) where there is no room. -/
theorem Stp.appendG {t tn el : TypeId} {ti : TypeInfo} {z : Value} {zs : List Value} {kn k : IntKind} {x y : Operand} {v1 : Value} {h1 : PHeap} {ys : List α} {q c : Nat} {ad : Option Addr} {m : Int} (x0 : α) (ht : P.underlying t = some (.slice el)) (htn : P.underlying tn = some (.int kn)) (hi : P.info? el = some ti) (hz : ti.zero = some z) (hzs : z.cells = zs.toArray)
    (hx : ev e x = some v1) (hv : v1 = .slice ad ys.length c) [s : Arr v1 enc sz h1 ys] [mm : InM h1 o r] (hy : ev e y = some (.int k m)) (hm : m = (q : Int)) (h0 : 0 < q) (hg : c < ys.length + q) (hn : ys.length + q ≤ 68719476736) (hsz : ti.size = sz) (hs0 : Nat.blt 0 sz = true) (hby : Nat.ble ti.bytes 128 = true) (hx0 : enc x0 = zs) (ho : Ones (enc x0)) :
    Stp P ops ⟨d, .call ⟨.builtin .append, #[x, y], #[t, tn]⟩, ty, pos, aft, none⟩ e o r (fun v' o2 => ∃ h', OArr v' enc sz el h' (ys ++ List.replicate q x0) ∧ o2 = h' :: o) := fun D a w he hs => by
  subst hm
  have hb := Nat.le_of_ble_eq_true hby
  have hs1 : 0 < sz := by rw [Nat.blt_eq] at hs0; exact hs0
  obtain ⟨henc, ⟨hl, hone⟩, _⟩ := s.pf
  have hzl : zs.length = sz := by rw [← hx0, henc]
  have hsub : sub h1 w := by
    rcases mm.pf with h2 | h2
    · exact hs.so h1 (List.mem_cons_of_mem _ h2)
    · exact hs.sr h1 h2
  have hold : (Builtin.firstCells ti.size ys.length (.slice ad ys.length c)).run P w.drew = .ok (ys.flatMap enc).toArray w.drew := by
    have := Arr.cells (P := P) s (w := w.drew) hsub ys.length (Nat.le_refl _)
    rw [List.take_length, hv] at this
    rw [hsz]; exact this
  have hrun := Go.Lib.run_append_grow_zeros (P := P) w t tn ty el ti z k kn ht htn hi hz ad ys.length c (ys.flatMap enc) hold q h0 (by omega) hg (by omega) (by
    calc q * ti.bytes ≤ q * 128 := Nat.mul_le_mul_left _ hb
      _ ≤ 281474976710656 := by omega) (by
    have := nextcap_le (need := ys.length + q) (cap := c) hg
    calc _ ≤ (16 * (ys.length + q + 192)) * 128 := Nat.mul_le_mul this hb
      _ ≤ 281474976710656 := by omega)
  obtain ⟨cap, hc⟩ : ∃ cap, cap = grownCap w (ys.length + q) c el := ⟨_, rfl⟩
  have hcn : ys.length + q ≤ cap := by rw [hc]; exact Nat.le_add_right _ _
  rw [← hc, hzs] at hrun
  have hx' := ev_rel he hx
  rw [hv] at hx'
  unfold Does
  simp only [Region.wanted, if_true, execOp, resolve, List.map_toArray, List.map_cons, List.map_nil, hx', ev_rel he hy]
  rw [bind_ok (a := _) (w1 := w) rfl]
  simp only [invoke, builtin]
  rw [run_val hrun]
  refine ⟨_, ⟨_, ⟨sing w.heap.size (.cells ((ys.flatMap enc).toArray ++ Builtin.zeroCells zs.toArray q ++ Builtin.zeroCells zs.toArray (cap - (ys.length + q))) el (0, 0)), ?_, rfl⟩, List.Perm.swap _ _ _⟩, ?_⟩
  · have e0 : (ys.flatMap enc).toArray ++ Builtin.zeroCells zs.toArray q ++ Builtin.zeroCells zs.toArray (cap - (ys.length + q)) = (ys.flatMap enc ++ (List.replicate q zs).flatten ++ (List.replicate (cap - (ys.length + q)) zs).flatten).toArray := by
      apply Array.ext'
      rw [Array.toList_append, Array.toList_append, zero_list (by omega), zero_list (by omega)]
    have hl2 : (ys ++ List.replicate q x0).length = ys.length + q := by rw [List.length_append, List.length_replicate]
    refine ⟨henc, ⟨by rw [hl2]; omega, fun y hy c hc => ?_⟩, .inr ⟨w.heap.size, cap, _, by rw [hl2], by rw [e0]; rfl, by rw [hl2]; exact hcn, ?_, ?_⟩⟩
    · rcases List.mem_append.1 hy with hy | hy
      · exact hone y hy c hc
      · rw [List.eq_of_mem_replicate hy] at hc
        exact ho.pf c hc
    · rw [List.length_append, List.length_append, rep_len, rep_len, hzl, flat_len henc, ← Nat.add_mul, ← Nat.add_mul]
      congr 1
      omega
    · rw [hl2, List.flatMap_append, flat_rep, hx0]
      have : (ys.length + q) * sz = (ys.flatMap enc ++ (List.replicate q zs).flatten).length := by rw [List.length_append, rep_len, hzl, flat_len henc, Nat.add_mul]
      rw [this, List.take_left]
  · exact Sep.push (w := { w with drawn := w.drawn + 1 }) (⟨hs.pw, hs.dr, hs.so, hs.sr, hs.no, hs.sm⟩) _
/-- copy(s[i+1:n+1], s[i:n+1]) in one block. -/
theorem Stp0.shift {t0 t1 el T : TypeId} [u : Und P t0 (.slice el)] [z : TySize P el sz] {x y : Operand} {b n c i : Nat} {o1 : List PHeap} (hx : ev e x = some (rawv b sz (i + 1) (n + 1) c)) (hy : ev e y = some (rawv b sz i (n + 1) c))
    [s : OArr (.slice (some ⟨b, 0, none⟩) n c) enc sz T h xs] [tk : Take h o o1] (hl : n = xs.length) (hi : i < n) (hc : n + 1 ≤ c) (h47 : n + 1 ≤ 140737488355328) :
    Stp0 P ops ⟨d, .call ⟨.builtin .copy, #[x, y], #[t0, t1]⟩, ty, pos, aft, none⟩ e o r (fun v' o2 => ∃ h', v' = .int .i64 ((n - i : Nat) : Int) ∧ OArr (.slice (some ⟨b, 0, none⟩) (n + 1) c) enc sz T h' (xs.take (i + 1) ++ xs.drop i) ∧ o2 = h' :: o1) := fun a w he hs => by
  subst hl
  have hs1 := hs.perm tk.pf
  have hx' := ev_rel he hx
  have hy' := ev_rel he hy
  have sA : Arr (.slice (some ⟨b, 0, none⟩) xs.length c) enc sz h xs := OArr.arr (s := s)
  have sC := Arr.cut sA (i := i) (j := xs.length) (by omega) (Nat.le_refl _)
  have hall : (xs.drop i).take (xs.length - i) = xs.drop i := List.take_of_length_le (by rw [List.length_drop]; omega)
  rw [hall] at sC
  have hl2 : (xs.drop i).length = xs.length - i := List.length_drop ..
  have hcells := Arr.cells (P := P) sC (hs1.so h List.mem_cons_self) (xs.length - i) (by omega)
  rw [List.take_of_length_le (by omega)] at hcells
  have eA : rawv b sz (i + 1) (xs.length + 1) c = .slice (some ⟨b, (i + 1) * sz, none⟩) (xs.length - i) (c - (i + 1)) := by
    unfold rawv
    rw [if_neg (by omega), Option.map_some, add_none, Nat.zero_add, show xs.length + 1 - (i + 1) = xs.length - i by omega]
  have eB : rawv b sz i (xs.length + 1) c = .slice (some ⟨b, i * sz, none⟩) (xs.length + 1 - i) (c - i) := by
    unfold rawv
    rw [if_neg (by omega), Option.map_some, add_none, Nat.zero_add]
  have eC : cutv (.slice (some ⟨b, 0, none⟩) xs.length c) sz i xs.length = .slice (some ⟨b, i * sz, none⟩) (xs.length - i) (c - i) := by
    simp only [cutv, if_neg (show ¬ c = i by omega), Option.map_some, add_none, Nat.zero_add]
  rw [eA] at hx'
  rw [eB] at hy'
  rw [eC] at hcells
  obtain ⟨henc, hm, ⟨hv, _, _⟩ | ⟨b', c', cs, hv, rfl, hle, hlen, ht⟩⟩ := s.pf
  · simp only [Value.slice.injEq] at hv
    exact absurd hv.1 (by simp)
  simp only [Value.slice.injEq, Option.some.injEq, Addr.mk.injEq, and_true, true_and] at hv
  obtain ⟨rfl, rfl⟩ := hv
  have hh : w.heap[b]? = some (.cells cs.toArray T (0, 0)) := hs1.so _ List.mem_cons_self b _ (sing_self _ _)
  have hones : ∀ v ∈ (xs.drop i).flatMap enc, one v = true := fun v hv => by
    obtain ⟨y, hy1, hy2⟩ := List.mem_flatMap.1 hv
    exact hm.2 y (List.mem_of_mem_drop hy1) v hy2
  have hZ : ((xs.drop i).flatMap enc).length = (xs.length - i) * sz := by rw [flat_len henc, hl2]
  have hmul1 : (i + 1) * sz + (xs.length - i) * sz = (xs.length + 1) * sz := by rw [← Nat.add_mul]; congr 1; omega
  have hmul2 : (xs.length + 1) * sz ≤ c * sz := Nat.mul_le_mul_right _ hc
  have hmul3 : (i + 1) * sz ≤ xs.length * sz := Nat.mul_le_mul_right _ (by omega)
  have hmul4 : (xs.length + 1) * sz = xs.length * sz + sz := by rw [Nat.add_mul, Nat.one_mul]
  obtain ⟨w', h1, h2, h3, h4⟩ := run_storeCells (P := P) (b := b) (k := (i + 1) * sz) (T := T) ((xs.drop i).flatMap enc) 0 w cs hones hh (by omega)
  have hrun : (Builtin.copy_ #[t0, t1] ty #[.slice (some ⟨b, (i + 1) * sz, none⟩) (xs.length - i) (c - (i + 1)), .slice (some ⟨b, i * sz, none⟩) (xs.length + 1 - i) (c - i)]).run P w = .ok (.int .i64 ((xs.length - i : Nat) : Int)) w' := by
    unfold Builtin.copy_
    simp only [List.getElem?_toArray, List.getElem?_cons_zero, List.getElem?_cons_succ]
    rw [bind_ok (u.pf w)]
    simp only
    have hlen2 : (Builtin.lenOf (.slice (some ⟨b, i * sz, none⟩) (xs.length + 1 - i) (c - i))).run P w = .ok (xs.length + 1 - i) w := rfl
    rw [bind_ok hlen2, bind_ok (z.pf w)]
    have hmin : Nat.min (xs.length + 1 - i) (xs.length - i) = xs.length - i := Nat.min_eq_right (by omega)
    rw [hmin]
    have hcells' : (Builtin.firstCells sz (xs.length - i) (.slice (some ⟨b, i * sz, none⟩) (xs.length + 1 - i) (c - i))).run P w = .ok ((xs.drop i).flatMap enc).toArray w := hcells
    rw [bind_ok hcells']
    simp only
    rw [bind_ok h1]
    rfl
  unfold Does
  simp only [Region.wanted, if_true, execOp, resolve, List.map_toArray, List.map_cons, List.map_nil, hx', hy']
  rw [bind_ok (a := _) (w1 := w) rfl]
  simp only [invoke, builtin]
  rw [run_val hrun]
  simp only [Nat.add_zero, hZ] at h2
  have hlen' : (xs.take (i + 1) ++ xs.drop i).length = xs.length + 1 := by
    simp only [List.length_append, List.length_take, List.length_drop]; omega
  refine ⟨blk b (cs.take ((i + 1) * sz) ++ (xs.drop i).flatMap enc ++ cs.drop ((i + 1) * sz + (xs.length - i) * sz)) T :: o1, ⟨_, rfl, ?_, rfl⟩, Sep.swap hs1 ?_ ?_ ?_ rfl h4⟩
  · refine ⟨henc, ⟨by rw [hlen']; exact h47, fun y hy cc hcc => ?_⟩, .inr ⟨b, c, _, by rw [hlen'], rfl, by rw [hlen']; exact hc, ?_, ?_⟩⟩
    · rcases List.mem_append.1 hy with hy | hy
      · exact hm.2 y (List.mem_of_mem_take hy) cc hcc
      · exact hm.2 y (List.mem_of_mem_drop hy) cc hcc
    · simp only [List.length_append, List.length_take, List.length_drop, hZ]; omega
    · rw [hlen', List.flatMap_append, flat_take henc xs, ← ht, List.take_take, Nat.min_eq_left hmul3]
      have e1 : (cs.take ((i + 1) * sz) ++ (xs.drop i).flatMap enc).length = (xs.length + 1) * sz := by
        rw [List.length_append, List.length_take, hZ]; omega
      rw [← e1, List.take_left]
  · exact fun x hx => none_blk (blk_none hx)
  · intro x ob hb
    obtain ⟨rfl, rfl⟩ := sing_some hb
    exact h2
  · exact fun x hx => h3 x (blk_none hx)
theorem Stp.shift {t0 t1 el T : TypeId} [u : Und P t0 (.slice el)] [z : TySize P el sz] {x y : Operand} {b n c i : Nat} {o1 : List PHeap} (hx : ev e x = some (rawv b sz (i + 1) (n + 1) c)) (hy : ev e y = some (rawv b sz i (n + 1) c))
    [s : OArr (.slice (some ⟨b, 0, none⟩) n c) enc sz T h xs] [tk : Take h o o1] (hl : n = xs.length) (hi : i < n) (hc : n + 1 ≤ c) (h47 : n + 1 ≤ 140737488355328) :
    Stp P ops ⟨d, .call ⟨.builtin .copy, #[x, y], #[t0, t1]⟩, ty, pos, aft, none⟩ e o r (fun v' o2 => ∃ h', v' = .int .i64 ((n - i : Nat) : Int) ∧ OArr (.slice (some ⟨b, 0, none⟩) (n + 1) c) enc sz T h' (xs.take (i + 1) ++ xs.drop i) ∧ o2 = h' :: o1) := fun D a w he hs =>
  (Stp0.shift (tk := tk.more D) hx hy hl hi hc h47 a w he hs).mono fun v w' ⟨o2, ⟨h', h1, h2, h3⟩, hs'⟩ => ⟨o2, ⟨h' :: o1, ⟨h', h1, h2, rfl⟩, by rw [h3]; exact List.Perm.swap _ _ _⟩, hs'⟩
/-- slices.overlaps of slices in two blocks. -/
theorem Stp.apart {g : FuncId} {fn : Func} {tS tR el : TypeId} {x : Operand} {l : List Operand} {tys : Array TypeId} {h2 : PHeap} {b2 b n2 c2 j cc : Nat} {cs2 : List Value} {cs : List Value} {T2 T : TypeId} {ad : Addr} {o1 : List PHeap} [z : TySize P el sz]
    (ht : P.underlying tS = some (.slice el)) (hf : P.funcs[g]? = some fn) (hname : (fn.name == "runtime.NumGoroutine") = false) (hb : fn.body.isNone = true) (hn : Extern.findNext fn = none) (hfe : Extern.find fn = some (Extern.SlicesOverlaps.overlaps #[tS, tS] #[tR])) (hx : ev e x = some (.func (.func g) #[] #[]))
    (hl : evs e l = some [.slice (some ⟨b2, 0, none⟩) n2 c2, .slice (some ad) j cc]) (had : ad.block = b) (hh : h = blk b cs T) (hh2 : h2 = blk b2 cs2 T2) (hne : cs ≠ []) (hne2 : cs2 ≠ []) [m : Take h o o1] [m2 : InM h2 o1 r] :
    Stp P ops ⟨d, .call ⟨.value x, l.toArray, tys⟩, ty, pos, aft, none⟩ e o r (fun v' o2 => v' = .bool false ∧ o2 = o) := fun D a w he hs => by
  have hs1 := hs.perm (m.more D).pf
  have hd : b2 ≠ b := by
    intro hbb
    subst hbb
    have dj : Disj h h2 := by
      rcases m2.pf with h3 | h3
      · exact (List.pairwise_cons.1 hs1.pw).1 h2 (List.mem_cons_of_mem _ h3)
      · exact hs1.dr h List.mem_cons_self h2 h3
    rcases dj b2 with h3 | h3
    · rw [hh] at h3; unfold blk at h3; rw [sing_self] at h3; cases h3
    · rw [hh2] at h3; unfold blk at h3; rw [sing_self] at h3; cases h3
  have w1 : w.heap[b]? = some (.cells cs.toArray T (0, 0)) := hs1.so h List.mem_cons_self b _ (by rw [hh]; exact sing_self _ _)
  have w2 : w.heap[b2]? = some (.cells cs2.toArray T2 (0, 0)) := by
    have : sub h2 w := by
      rcases m2.pf with h3 | h3
      · exact hs1.so h2 (List.mem_cons_of_mem _ (List.mem_cons_of_mem _ h3))
      · exact hs1.sr h2 h3
    exact this b2 _ (by rw [hh2]; exact sing_self _ _)
  have hrun : (callFunc g #[.slice (some ⟨b2, 0, none⟩) n2 c2, .slice (some ad) j cc]).run P w = .ok (.value (.bool false)) w := by
    rw [run_callFunc_extern hf hname hb hn hfe]
    rw [Lib.run_overlaps_apart w tS tR el ht sz (fun w => z.pf w) ⟨b2, 0, none⟩ ad n2 c2 j cc (by rw [had]; exact hd) T2 T cs2.length cs.length (by unfold World.shape?; dsimp only; rw [w2]; simp) (by unfold World.shape?; rw [had, w1]; simp) (by intro h0; exact hne (List.length_eq_zero_iff.1 h0)) (by unfold World.frozen?; dsimp only; rw [w2]; simp) (by unfold World.frozen?; dsimp only; rw [w2]; simp)]
    rfl
  unfold Does
  have hex : (execOp (evA a) (⟨d, .call ⟨.value x, l.toArray, tys⟩, ty, pos, aft, none⟩ : Oper)).run P w = .ok (.value (.bool false)) w := by
    simp only [execOp, resolve, ev_rel he hx, List.map_toArray, evs_rel he hl]
    have e1 : (Deferred.ofValue (.func (.func g) #[] #[]) #[.slice (some ⟨b2, 0, none⟩) n2 c2, .slice (some ad) j cc]).run P w = .ok { target := .fn (.func g) #[], args := #[.slice (some ⟨b2, 0, none⟩) n2 c2, .slice (some ad) j cc] } w := rfl
    rw [bind_ok e1]
    simp only [invoke]
    exact hrun
  simp only [Region.wanted, if_true, hex]
  exact ⟨D :: o, ⟨o, by first | exact ⟨rfl, rfl⟩ | exact ⟨trivial, rfl⟩ | simp, List.Perm.refl _⟩, hs⟩
end
theorem raw_zero {b sz j c : Nat} : rawv b sz 0 j c = .slice (some ⟨b, 0, none⟩) j c := by
  unfold rawv
  split <;> simp [add_none]
theorem raw_pos {b sz i j c : Nat} (h : c ≠ i) : rawv b sz i j c = .slice (some ⟨b, i * sz, none⟩) (j - i) (c - i) := by
  unfold rawv
  rw [if_neg h, Option.map_some, add_none, Nat.zero_add]
section
variable {c : Cx} {ops : Array Oper} {rest : List Oper} {k : List Item} {e : Env} {o r : List PHeap} {d : Nat} {ty : TypeId} {pos : String} {aft : Array Edge} {α : Type} {enc : α → List Value} {sz : Nat} {h : PHeap} {xs : List α}
variable {fl : List Nat} {f : List PHeap} {i0 : Nat} {bb : Bool} {tt uu : Plan}
theorem XT.shift {t0 t1 el T : TypeId} [u : Und c.P t0 (.slice el)] [z : TySize c.P el sz] {x y : Operand} {b n cc i : Nat} {o1 : List PHeap}
    (hi0 : ops[i0]? = some ⟨some d, .call ⟨.builtin .copy, #[x, y], #[t0, t1]⟩, ty, pos, aft, none⟩) (hok : okOper c.N ⟨some d, .call ⟨.builtin .copy, #[x, y], #[t0, t1]⟩, ty, pos, aft, none⟩ = true)
    (hx : ev e x = some (rawv b sz (i + 1) (n + 1) cc)) (hy : ev e y = some (rawv b sz i (n + 1) cc))
    [s : OArr (.slice (some ⟨b, 0, none⟩) n cc) enc sz T h xs] [tk : Take h o o1] (hl : n = xs.length) (hi : i < n) (hc : n + 1 ≤ cc) (h47 : n + 1 ≤ 140737488355328)
    (hn : ∀ h', OArr (.slice (some ⟨b, 0, none⟩) (n + 1) cc) enc sz T h' (xs.take (i + 1) ++ xs.drop i) → Keeps bb f (h' :: o1) ∧ XT c ops fl f k r tt ((d, some (.int .i64 ((n - i : Nat) : Int))) :: e) (h' :: o1)) (hu : XT c ops fl f k r uu e o) :
    XT c ops fl f k r (.br i0 bb tt uu) e o :=
  XT.s hi0 hok (Stp.shift hx hy hl hi hc h47) (fun v' o2 ⟨h', h1, h2, h3⟩ => by subst h1 h3; exact hn h' h2) hu
end
theorem splice_mid {α : Type} {a m b ys : List α} (h : ys.length = m.length) : splice (a ++ m ++ b) ys a.length = a ++ ys ++ b := by
  unfold splice
  have e : min ys.length ((a ++ m ++ b).length - a.length) = m.length := by
    simp only [List.length_append]; omega
  rw [e, ← List.length_append, List.drop_left, ← h, List.take_length, List.append_assoc a m b, List.take_left]
theorem ins_grow {α : Type} {xs : List α} {y z : α} {i : Nat} (hi : i < xs.length) : splice (splice (xs.take i ++ List.replicate (xs.length + 1 - i) z) [y] i) (xs.drop i) (i + 1) = xs.take i ++ [y] ++ xs.drop i := by
  have l1 : (xs.take i).length = i := by rw [List.length_take]; omega
  have l2 : (xs.drop i).length = xs.length - i := List.length_drop ..
  have e1 : xs.take i ++ List.replicate (xs.length + 1 - i) z = xs.take i ++ [z] ++ List.replicate (xs.length - i) z := by
    rw [show xs.length + 1 - i = (xs.length - i) + 1 by omega, List.replicate_succ, List.append_assoc]; rfl
  have e2 : splice (xs.take i ++ [z] ++ List.replicate (xs.length - i) z) [y] i = xs.take i ++ [y] ++ List.replicate (xs.length - i) z := by
    have := splice_mid (a := xs.take i) (m := [z]) (b := List.replicate (xs.length - i) z) (ys := [y]) rfl
    rwa [l1] at this
  rw [e1, e2]
  have := splice_mid (a := xs.take i ++ [y]) (m := List.replicate (xs.length - i) z) (b := []) (ys := xs.drop i) (by rw [l2, List.length_replicate])
  rw [List.append_nil, List.append_nil, List.length_append, l1] at this
  exact this
theorem ins_room {α : Type} {xs : List α} {y : α} {i : Nat} (hi : i < xs.length) : splice (xs.take (i + 1) ++ xs.drop i) [y] i = xs.take i ++ [y] ++ xs.drop i := by
  have l1 : (xs.take i).length = i := by rw [List.length_take]; omega
  have e1 : xs.take (i + 1) = xs.take i ++ [xs[i]] := (List.take_append_getElem hi).symm
  rw [e1]
  have := splice_mid (a := xs.take i) (m := [xs[i]]) (b := xs.drop i) (ys := [y]) rfl
  rwa [l1] at this
end Go.X

/- Energy is balanced. No condition. -/
set_option linter.unusedVariables false
namespace Go.X
/-! ### batteries stay what they are -/
def SameBat (cs ds : List BCell) : Prop := ∀ j, (cs.getD j default).bat = (ds.getD j default).bat
theorem SameBat.set {cs ds : List BCell} (h : SameBat cs ds) (i : Nat) (m : Int) : SameBat (cs.set i { bat := (cs.getD i default).bat, now := m }) ds := fun j => by
  rcases Nat.lt_or_ge i cs.length with hi | hi
  · rw [getD_set' hi]
    split
    · rename_i he; subst he; exact h i
    · exact h j
  · rw [List.set_eq_of_length_le hi]; exact h j
end Go.X

/- Spans that are divided, and what follows a dark second. No condition. -/
set_option linter.unusedVariables false
namespace Go.X
theorem lok_of {l : List BSpan} (h : ∀ x ∈ l, (1 ≤ x.seconds ∧ x.seconds ≤ 40) ∧ 0 ≤ x.power ∧ x.power ≤ 255) (n : l.length ≤ 16) : LOk l :=
  ⟨by omega, fun x hx => by have := h x hx; omega, by
    have := secs_le (l := l) (fun x hx => (h x hx).1.2) _ (Nat.le_refl _)
    omega⟩
/-- A span in two. -/
def splitL (l : List BSpan) (i : Nat) (n : Int) : List BSpan := l.take i ++ [⟨n, (l.getD i default).power⟩, ⟨(l.getD i default).seconds - n, (l.getD i default).power⟩] ++ l.drop (i + 1)
theorem take_drop_at {l : List BSpan} {i : Nat} (hi : i < l.length) : l = l.take i ++ [l.getD i default] ++ l.drop (i + 1) := by
  rw [List.getD_eq_getElem?_getD, List.getElem?_eq_getElem hi]
  show l = l.take i ++ [l[i]] ++ l.drop (i + 1)
  rw [List.append_assoc, List.singleton_append, List.getElem_cons_drop, List.take_append_drop]
theorem split_len {l : List BSpan} {i : Nat} (hi : i < l.length) (n : Int) : (splitL l i n).length = l.length + 1 := by
  unfold splitL
  rw [List.length_append, List.length_append, List.length_take, List.length_drop]
  simp only [List.length_cons, List.length_nil]
  omega
theorem split_powers {l : List BSpan} {i : Nat} (hi : i < l.length) {n : Int} (h0 : 0 ≤ n) (h1 : n ≤ (l.getD i default).seconds) : powers (splitL l i n) = powers l := by
  conv => rhs; rw [take_drop_at hi]
  unfold splitL
  rw [powers_append, powers_append, powers_append, powers_append]
  congr 2
  simp only [powers, List.append_nil]
  rw [List.replicate_append_replicate]
  congr 1
  omega
theorem split_ok {l : List BSpan} (h : ∀ x ∈ l, (1 ≤ x.seconds ∧ x.seconds ≤ 40) ∧ 0 ≤ x.power ∧ x.power ≤ 255) {i : Nat} (hi : i < l.length) {n : Int} (h0 : 0 < n) (h1 : n < (l.getD i default).seconds) : ∀ x ∈ splitL l i n, (1 ≤ x.seconds ∧ x.seconds ≤ 40) ∧ 0 ≤ x.power ∧ x.power ≤ 255 := fun x hx => by
  have hg := h _ (getD_mem hi)
  unfold splitL at hx
  rcases List.mem_append.1 hx with hx | hx
  · rcases List.mem_append.1 hx with hx | hx
    · exact h x (List.mem_of_mem_take hx)
    · simp only [List.mem_cons, List.not_mem_nil, or_false] at hx
      rcases hx with rfl | rfl
      · dsimp only; omega
      · dsimp only; omega
  · exact h x (List.mem_of_mem_drop hx)
theorem play_congr {gens : List BGen} {sts : List Int} {strict : Bool} {pw pv : List Int} {s0 : BSt} : ∀ i, (∀ j, j < i → pw.getD j default = pv.getD j default) → playTo gens sts strict pw s0 i = playTo gens sts strict pv s0 i
  | 0, _ => rfl
  | i + 1, h => by rw [playTo, playTo, play_congr i fun j hj => h j (by omega), h i (by omega)]
theorem app_at {a q : List Int} {j : Nat} (h : j < a.length) : (a ++ q).getD j default = a.getD j default := by
  rw [List.getD_eq_getElem?_getD, List.getD_eq_getElem?_getD, List.getElem?_append_left h]
theorem dark_at (b : BBank) {pw q fs : List Int} {i : Nat} (h : i < pw.length) : isDark b (pw ++ q) fs i = isDark b pw fs i := by
  unfold isDark lackAt
  rw [play_congr (pw := pw ++ q) (pv := pw) i fun j hj => app_at (by omega), app_at h]
theorem findIdx_range {p r : Nat → Bool} {n m k : Nat} (hp : ∀ i, i < n → p i = r i) (h : (List.range n).findIdx? r = some k) : (List.range (n + m)).findIdx? p = some k := by
  rw [List.range_add, List.findIdx?_append]
  have e : (List.range n).findIdx? p = (List.range n).findIdx? r := by
    have : ∀ l : List Nat, (∀ i ∈ l, p i = r i) → l.findIdx? p = l.findIdx? r := by
      intro l
      induction l with
      | nil => intro _; rfl
      | cons a l ih =>
        intro hl
        rw [List.findIdx?_cons, List.findIdx?_cons, hl a List.mem_cons_self, ih fun i hi => hl i (List.mem_cons_of_mem _ hi)]
    exact this _ fun i hi => hp i (List.mem_range.1 hi)
  rw [e, h]; rfl
theorem dark_append (b : BBank) {pw q fs : List Int} (h : 0 ≤ darkP b pw fs) : darkP b (pw ++ q) fs = darkP b pw fs := by
  unfold darkP at h ⊢
  unfold findFirst at h ⊢
  rw [List.length_append]
  cases hf : (List.range pw.length).findIdx? (isDark b pw fs) with
  | none => rw [hf] at h; exact absurd h (by decide)
  | some k => rw [findIdx_range (p := isDark b (pw ++ q) fs) (fun i hi => dark_at b hi) hf]
theorem dark_lt (b : BBank) {pw fs : List Int} (h : 0 ≤ darkP b pw fs) : (darkP b pw fs).toNat < pw.length := by
  unfold darkP findFirst at h ⊢
  cases hf : (List.range pw.length).findIdx? (isDark b pw fs) with
  | none => rw [hf] at h; exact absurd h (by decide)
  | some k =>
    have := List.findIdx?_eq_some_iff_getElem.1 hf
    obtain ⟨h1, _⟩ := this
    rw [List.length_range] at h1
    simpa using h1
/-- What follows a dark second does not matter. -/
theorem run_after (b : BBank) {pw q fs : List Int} (h : 0 ≤ darkP b pw fs) : runP b (pw ++ q) fs = runP b pw fs := by
  have hl := dark_lt b h
  unfold runP
  rw [dark_append b h]
  congr 1
  unfold endP stateP
  rw [dark_append b h, if_neg (by omega), if_neg (by omega)]
  exact play_congr _ fun j hj => app_at (by omega)
end Go.X

/- Sums as the loops form them; bounds. No condition. -/
set_option linter.unusedVariables false
namespace Go.X
end Go.X

/- Repeated lists. No condition. -/
set_option linter.unusedVariables false
namespace Go.X
end Go.X

/- The type table of this seat as instances; written by program. No condition. -/
namespace Go.X
open Go.Proofs
set_option maxRecDepth 10000
instance : Und Try.prog 0 (Go.TypeDesc.tuple #[]) := ⟨Try.runUnderlying0⟩
instance : IsAgg Try.prog 0 false := ⟨Try.isAgg0⟩
instance : TySize Try.prog 0 1 := ⟨Try.sizeOf0⟩
instance : TyBytes Try.prog 0 0 := ⟨_, Try.typeInfo0, rfl⟩
instance : Zero Try.prog 0 [(Go.Value.tuple #[])] := ⟨_, Try.zeroValue0, rfl⟩
instance : Und Try.prog 1 (Go.TypeDesc.func #[] #[] Bool.false) := ⟨Try.runUnderlying1⟩
instance : IsAgg Try.prog 1 false := ⟨Try.isAgg1⟩
instance : TySize Try.prog 1 1 := ⟨Try.sizeOf1⟩
instance : TyBytes Try.prog 1 8 := ⟨_, Try.typeInfo1, rfl⟩
instance : Zero Try.prog 1 [Go.Value.nilFunc] := ⟨_, Try.zeroValue1, rfl⟩
instance : Und Try.prog 2 (Go.TypeDesc.int Go.IntKind.i64) := ⟨Try.runUnderlying2⟩
instance : IsAgg Try.prog 2 false := ⟨Try.isAgg2⟩
instance : TySize Try.prog 2 1 := ⟨Try.sizeOf2⟩
instance : TyBytes Try.prog 2 8 := ⟨_, Try.typeInfo2, rfl⟩
instance : Zero Try.prog 2 [(Go.Value.int Go.IntKind.i64 0)] := ⟨_, Try.zeroValue2, rfl⟩
instance : Und Try.prog 3 (Go.TypeDesc.int Go.IntKind.i64) := ⟨Try.runUnderlying3⟩
instance : IsAgg Try.prog 3 false := ⟨Try.isAgg3⟩
instance : TySize Try.prog 3 1 := ⟨Try.sizeOf3⟩
instance : TyBytes Try.prog 3 8 := ⟨_, Try.typeInfo3, rfl⟩
instance : Zero Try.prog 3 [(Go.Value.int Go.IntKind.i64 0)] := ⟨_, Try.zeroValue3, rfl⟩
instance : Und Try.prog 4 Go.TypeDesc.bool := ⟨Try.runUnderlying4⟩
instance : IsAgg Try.prog 4 false := ⟨Try.isAgg4⟩
instance : TySize Try.prog 4 1 := ⟨Try.sizeOf4⟩
instance : TyBytes Try.prog 4 1 := ⟨_, Try.typeInfo4, rfl⟩
instance : Zero Try.prog 4 [(Go.Value.bool Bool.false)] := ⟨_, Try.zeroValue4, rfl⟩
instance : Und Try.prog 5 (Go.TypeDesc.int Go.IntKind.u8) := ⟨Try.runUnderlying5⟩
instance : IsAgg Try.prog 5 false := ⟨Try.isAgg5⟩
instance : TySize Try.prog 5 1 := ⟨Try.sizeOf5⟩
instance : TyBytes Try.prog 5 1 := ⟨_, Try.typeInfo5, rfl⟩
instance : Zero Try.prog 5 [(Go.Value.int Go.IntKind.u8 0)] := ⟨_, Try.zeroValue5, rfl⟩
instance : Und Try.prog 6 (Go.TypeDesc.int Go.IntKind.u8) := ⟨Try.runUnderlying6⟩
instance : IsAgg Try.prog 6 false := ⟨Try.isAgg6⟩
instance : TySize Try.prog 6 1 := ⟨Try.sizeOf6⟩
instance : TyBytes Try.prog 6 1 := ⟨_, Try.typeInfo6, rfl⟩
instance : Zero Try.prog 6 [(Go.Value.int Go.IntKind.u8 0)] := ⟨_, Try.zeroValue6, rfl⟩
instance : Und Try.prog 9 Go.TypeDesc.string := ⟨Try.runUnderlying9⟩
instance : IsAgg Try.prog 9 false := ⟨Try.isAgg9⟩
instance : TySize Try.prog 9 1 := ⟨Try.sizeOf9⟩
instance : TyBytes Try.prog 9 16 := ⟨_, Try.typeInfo9, rfl⟩
instance : Zero Try.prog 9 [(Go.Value.string (ByteArray.mk #[]))] := ⟨_, Try.zeroValue9, rfl⟩
instance : Und Try.prog 11 Go.TypeDesc.string := ⟨Try.runUnderlying11⟩
instance : IsAgg Try.prog 11 false := ⟨Try.isAgg11⟩
instance : TySize Try.prog 11 1 := ⟨Try.sizeOf11⟩
instance : TyBytes Try.prog 11 16 := ⟨_, Try.typeInfo11, rfl⟩
instance : Zero Try.prog 11 [(Go.Value.string (ByteArray.mk #[]))] := ⟨_, Try.zeroValue11, rfl⟩
instance : Und Try.prog 22 (Go.TypeDesc.slice 73) := ⟨Try.runUnderlying22⟩
instance : IsAgg Try.prog 22 false := ⟨Try.isAgg22⟩
instance : TySize Try.prog 22 1 := ⟨Try.sizeOf22⟩
instance : TyBytes Try.prog 22 24 := ⟨_, Try.typeInfo22, rfl⟩
instance : Zero Try.prog 22 [(Go.Value.slice none 0 0)] := ⟨_, Try.zeroValue22, rfl⟩
instance : Und Try.prog 23 (Go.TypeDesc.slice 85) := ⟨Try.runUnderlying23⟩
instance : IsAgg Try.prog 23 false := ⟨Try.isAgg23⟩
instance : TySize Try.prog 23 1 := ⟨Try.sizeOf23⟩
instance : TyBytes Try.prog 23 24 := ⟨_, Try.typeInfo23, rfl⟩
instance : Zero Try.prog 23 [(Go.Value.slice none 0 0)] := ⟨_, Try.zeroValue23, rfl⟩
instance : Und Try.prog 25 (Go.TypeDesc.struct #[(Go.Field.mk "Batteries" 22 0 Bool.false "" "" 0), (Go.Field.mk "Generators" 23 1 Bool.false "" "" 24)]) := ⟨Try.runUnderlying25⟩
instance : IsAgg Try.prog 25 true := ⟨Try.isAgg25⟩
instance : TySize Try.prog 25 2 := ⟨Try.sizeOf25⟩
instance : TyBytes Try.prog 25 48 := ⟨_, Try.typeInfo25, rfl⟩
instance : Zero Try.prog 25 [(Go.Value.slice none 0 0), (Go.Value.slice none 0 0)] := ⟨_, Try.zeroValue25, rfl⟩
instance : Fld Try.prog 25 0 0 := Fld.of (n := 1) ⟨Try.runUnderlying25⟩ rfl ⟨Try.sizeOf22⟩ (by decide) rfl
instance : Fld Try.prog 25 1 1 := Fld.of (n := 1) ⟨Try.runUnderlying25⟩ rfl ⟨Try.sizeOf23⟩ (by decide) rfl
instance : Places Try.prog 25 (fun i => ([(0, 1), (1, 1)] : List (Nat × Nat))[i]?) := Places.struct ⟨Try.runUnderlying25⟩ (.c Try.sizeOf22 (.c Try.sizeOf23 .n))
instance : Und Try.prog 26 (Go.TypeDesc.slice 38) := ⟨Try.runUnderlying26⟩
instance : IsAgg Try.prog 26 false := ⟨Try.isAgg26⟩
instance : TySize Try.prog 26 1 := ⟨Try.sizeOf26⟩
instance : TyBytes Try.prog 26 24 := ⟨_, Try.typeInfo26, rfl⟩
instance : Zero Try.prog 26 [(Go.Value.slice none 0 0)] := ⟨_, Try.zeroValue26, rfl⟩
instance : Und Try.prog 30 (Go.TypeDesc.slice 104) := ⟨Try.runUnderlying30⟩
instance : IsAgg Try.prog 30 false := ⟨Try.isAgg30⟩
instance : TySize Try.prog 30 1 := ⟨Try.sizeOf30⟩
instance : TyBytes Try.prog 30 24 := ⟨_, Try.typeInfo30, rfl⟩
instance : Zero Try.prog 30 [(Go.Value.slice none 0 0)] := ⟨_, Try.zeroValue30, rfl⟩
instance : Und Try.prog 31 (Go.TypeDesc.slice 88) := ⟨Try.runUnderlying31⟩
instance : IsAgg Try.prog 31 false := ⟨Try.isAgg31⟩
instance : TySize Try.prog 31 1 := ⟨Try.sizeOf31⟩
instance : TyBytes Try.prog 31 24 := ⟨_, Try.typeInfo31, rfl⟩
instance : Zero Try.prog 31 [(Go.Value.slice none 0 0)] := ⟨_, Try.zeroValue31, rfl⟩
instance : Und Try.prog 33 (Go.TypeDesc.struct #[(Go.Field.mk "Batteries" 30 0 Bool.false "" "" 0), (Go.Field.mk "Generators" 31 1 Bool.false "" "" 24)]) := ⟨Try.runUnderlying33⟩
instance : IsAgg Try.prog 33 true := ⟨Try.isAgg33⟩
instance : TySize Try.prog 33 2 := ⟨Try.sizeOf33⟩
instance : TyBytes Try.prog 33 48 := ⟨_, Try.typeInfo33, rfl⟩
instance : Zero Try.prog 33 [(Go.Value.slice none 0 0), (Go.Value.slice none 0 0)] := ⟨_, Try.zeroValue33, rfl⟩
instance : Fld Try.prog 33 0 0 := Fld.of (n := 1) ⟨Try.runUnderlying33⟩ rfl ⟨Try.sizeOf30⟩ (by decide) rfl
instance : Fld Try.prog 33 1 1 := Fld.of (n := 1) ⟨Try.runUnderlying33⟩ rfl ⟨Try.sizeOf31⟩ (by decide) rfl
instance : Places Try.prog 33 (fun i => ([(0, 1), (1, 1)] : List (Nat × Nat))[i]?) := Places.struct ⟨Try.runUnderlying33⟩ (.c Try.sizeOf30 (.c Try.sizeOf31 .n))
instance : Und Try.prog 38 (Go.TypeDesc.struct #[(Go.Field.mk "Seconds" 3 0 Bool.false "" "" 0), (Go.Field.mk "Power" 3 1 Bool.false "" "" 8)]) := ⟨Try.runUnderlying38⟩
instance : IsAgg Try.prog 38 true := ⟨Try.isAgg38⟩
instance : TySize Try.prog 38 2 := ⟨Try.sizeOf38⟩
instance : TyBytes Try.prog 38 16 := ⟨_, Try.typeInfo38, rfl⟩
instance : Zero Try.prog 38 [(Go.Value.int Go.IntKind.i64 0), (Go.Value.int Go.IntKind.i64 0)] := ⟨_, Try.zeroValue38, rfl⟩
instance : Fld Try.prog 38 0 0 := Fld.of (n := 1) ⟨Try.runUnderlying38⟩ rfl ⟨Try.sizeOf3⟩ (by decide) rfl
instance : Fld Try.prog 38 1 1 := Fld.of (n := 1) ⟨Try.runUnderlying38⟩ rfl ⟨Try.sizeOf3⟩ (by decide) rfl
instance : Places Try.prog 38 (fun i => ([(0, 1), (1, 1)] : List (Nat × Nat))[i]?) := Places.struct ⟨Try.runUnderlying38⟩ (.c Try.sizeOf3 (.c Try.sizeOf3 .n))
instance : Und Try.prog 39 (Go.TypeDesc.slice 3) := ⟨Try.runUnderlying39⟩
instance : IsAgg Try.prog 39 false := ⟨Try.isAgg39⟩
instance : TySize Try.prog 39 1 := ⟨Try.sizeOf39⟩
instance : TyBytes Try.prog 39 24 := ⟨_, Try.typeInfo39, rfl⟩
instance : Zero Try.prog 39 [(Go.Value.slice none 0 0)] := ⟨_, Try.zeroValue39, rfl⟩
instance : Und Try.prog 41 (Go.TypeDesc.struct #[(Go.Field.mk "Dark" 3 0 Bool.false "" "" 0), (Go.Field.mk "Energy" 39 1 Bool.false "" "" 8), (Go.Field.mk "Burnt" 39 2 Bool.false "" "" 32), (Go.Field.mk "Served" 3 3 Bool.false "" "" 56)]) := ⟨Try.runUnderlying41⟩
instance : IsAgg Try.prog 41 true := ⟨Try.isAgg41⟩
instance : TySize Try.prog 41 4 := ⟨Try.sizeOf41⟩
instance : TyBytes Try.prog 41 64 := ⟨_, Try.typeInfo41, rfl⟩
instance : Zero Try.prog 41 [(Go.Value.int Go.IntKind.i64 0), (Go.Value.slice none 0 0), (Go.Value.slice none 0 0), (Go.Value.int Go.IntKind.i64 0)] := ⟨_, Try.zeroValue41, rfl⟩
instance : Fld Try.prog 41 0 0 := Fld.of (n := 1) ⟨Try.runUnderlying41⟩ rfl ⟨Try.sizeOf3⟩ (by decide) rfl
instance : Fld Try.prog 41 1 1 := Fld.of (n := 1) ⟨Try.runUnderlying41⟩ rfl ⟨Try.sizeOf39⟩ (by decide) rfl
instance : Fld Try.prog 41 2 2 := Fld.of (n := 1) ⟨Try.runUnderlying41⟩ rfl ⟨Try.sizeOf39⟩ (by decide) rfl
instance : Fld Try.prog 41 3 3 := Fld.of (n := 1) ⟨Try.runUnderlying41⟩ rfl ⟨Try.sizeOf3⟩ (by decide) rfl
instance : Places Try.prog 41 (fun i => ([(0, 1), (1, 1), (2, 1), (3, 1)] : List (Nat × Nat))[i]?) := Places.struct ⟨Try.runUnderlying41⟩ (.c Try.sizeOf3 (.c Try.sizeOf39 (.c Try.sizeOf39 (.c Try.sizeOf3 .n))))
instance : Und Try.prog 42 (Go.TypeDesc.int Go.IntKind.i64) := ⟨Try.runUnderlying42⟩
instance : IsAgg Try.prog 42 false := ⟨Try.isAgg42⟩
instance : TySize Try.prog 42 1 := ⟨Try.sizeOf42⟩
instance : TyBytes Try.prog 42 8 := ⟨_, Try.typeInfo42, rfl⟩
instance : Zero Try.prog 42 [(Go.Value.int Go.IntKind.i64 0)] := ⟨_, Try.zeroValue42, rfl⟩
instance : Und Try.prog 45 (Go.TypeDesc.struct #[(Go.Field.mk "Dark" 3 0 Bool.false "" "" 0), (Go.Field.mk "Energy" 39 1 Bool.false "" "" 8), (Go.Field.mk "Burnt" 39 2 Bool.false "" "" 32), (Go.Field.mk "Served" 3 3 Bool.false "" "" 56)]) := ⟨Try.runUnderlying45⟩
instance : IsAgg Try.prog 45 true := ⟨Try.isAgg45⟩
instance : TySize Try.prog 45 4 := ⟨Try.sizeOf45⟩
instance : TyBytes Try.prog 45 64 := ⟨_, Try.typeInfo45, rfl⟩
instance : Zero Try.prog 45 [(Go.Value.int Go.IntKind.i64 0), (Go.Value.slice none 0 0), (Go.Value.slice none 0 0), (Go.Value.int Go.IntKind.i64 0)] := ⟨_, Try.zeroValue45, rfl⟩
instance : Fld Try.prog 45 0 0 := Fld.of (n := 1) ⟨Try.runUnderlying45⟩ rfl ⟨Try.sizeOf3⟩ (by decide) rfl
instance : Fld Try.prog 45 1 1 := Fld.of (n := 1) ⟨Try.runUnderlying45⟩ rfl ⟨Try.sizeOf39⟩ (by decide) rfl
instance : Fld Try.prog 45 2 2 := Fld.of (n := 1) ⟨Try.runUnderlying45⟩ rfl ⟨Try.sizeOf39⟩ (by decide) rfl
instance : Fld Try.prog 45 3 3 := Fld.of (n := 1) ⟨Try.runUnderlying45⟩ rfl ⟨Try.sizeOf3⟩ (by decide) rfl
instance : Places Try.prog 45 (fun i => ([(0, 1), (1, 1), (2, 1), (3, 1)] : List (Nat × Nat))[i]?) := Places.struct ⟨Try.runUnderlying45⟩ (.c Try.sizeOf3 (.c Try.sizeOf39 (.c Try.sizeOf39 (.c Try.sizeOf3 .n))))
instance : Und Try.prog 48 (Go.TypeDesc.slice 113) := ⟨Try.runUnderlying48⟩
instance : IsAgg Try.prog 48 false := ⟨Try.isAgg48⟩
instance : TySize Try.prog 48 1 := ⟨Try.sizeOf48⟩
instance : TyBytes Try.prog 48 24 := ⟨_, Try.typeInfo48, rfl⟩
instance : Zero Try.prog 48 [(Go.Value.slice none 0 0)] := ⟨_, Try.zeroValue48, rfl⟩
instance : Und Try.prog 60 (Go.TypeDesc.slice 5) := ⟨Try.runUnderlying60⟩
instance : IsAgg Try.prog 60 false := ⟨Try.isAgg60⟩
instance : TySize Try.prog 60 1 := ⟨Try.sizeOf60⟩
instance : TyBytes Try.prog 60 24 := ⟨_, Try.typeInfo60, rfl⟩
instance : Zero Try.prog 60 [(Go.Value.slice none 0 0)] := ⟨_, Try.zeroValue60, rfl⟩
instance : Und Try.prog 70 (Go.TypeDesc.int Go.IntKind.u16) := ⟨Try.runUnderlying70⟩
instance : IsAgg Try.prog 70 false := ⟨Try.isAgg70⟩
instance : TySize Try.prog 70 1 := ⟨Try.sizeOf70⟩
instance : TyBytes Try.prog 70 2 := ⟨_, Try.typeInfo70, rfl⟩
instance : Zero Try.prog 70 [(Go.Value.int Go.IntKind.u16 0)] := ⟨_, Try.zeroValue70, rfl⟩
instance : Und Try.prog 73 (Go.TypeDesc.struct #[(Go.Field.mk "Energy" 3 0 Bool.false "" "" 0), (Go.Field.mk "Full" 3 1 Bool.false "" "" 8), (Go.Field.mk "Power" 3 2 Bool.false "" "" 16), (Go.Field.mk "Charge" 3 3 Bool.false "" "" 24)]) := ⟨Try.runUnderlying73⟩
instance : IsAgg Try.prog 73 true := ⟨Try.isAgg73⟩
instance : TySize Try.prog 73 4 := ⟨Try.sizeOf73⟩
instance : TyBytes Try.prog 73 32 := ⟨_, Try.typeInfo73, rfl⟩
instance : Zero Try.prog 73 [(Go.Value.int Go.IntKind.i64 0), (Go.Value.int Go.IntKind.i64 0), (Go.Value.int Go.IntKind.i64 0), (Go.Value.int Go.IntKind.i64 0)] := ⟨_, Try.zeroValue73, rfl⟩
instance : Fld Try.prog 73 0 0 := Fld.of (n := 1) ⟨Try.runUnderlying73⟩ rfl ⟨Try.sizeOf3⟩ (by decide) rfl
instance : Fld Try.prog 73 1 1 := Fld.of (n := 1) ⟨Try.runUnderlying73⟩ rfl ⟨Try.sizeOf3⟩ (by decide) rfl
instance : Fld Try.prog 73 2 2 := Fld.of (n := 1) ⟨Try.runUnderlying73⟩ rfl ⟨Try.sizeOf3⟩ (by decide) rfl
instance : Fld Try.prog 73 3 3 := Fld.of (n := 1) ⟨Try.runUnderlying73⟩ rfl ⟨Try.sizeOf3⟩ (by decide) rfl
instance : Places Try.prog 73 (fun i => ([(0, 1), (1, 1), (2, 1), (3, 1)] : List (Nat × Nat))[i]?) := Places.struct ⟨Try.runUnderlying73⟩ (.c Try.sizeOf3 (.c Try.sizeOf3 (.c Try.sizeOf3 (.c Try.sizeOf3 .n))))
instance : Und Try.prog 77 (Go.TypeDesc.slice 39) := ⟨Try.runUnderlying77⟩
instance : IsAgg Try.prog 77 false := ⟨Try.isAgg77⟩
instance : TySize Try.prog 77 1 := ⟨Try.sizeOf77⟩
instance : TyBytes Try.prog 77 24 := ⟨_, Try.typeInfo77, rfl⟩
instance : Zero Try.prog 77 [(Go.Value.slice none 0 0)] := ⟨_, Try.zeroValue77, rfl⟩
instance : Und Try.prog 85 (Go.TypeDesc.struct #[(Go.Field.mk "Power" 3 0 Bool.false "" "" 0), (Go.Field.mk "Ramp" 3 1 Bool.false "" "" 8), (Go.Field.mk "Delay" 3 2 Bool.false "" "" 16), (Go.Field.mk "Pause" 3 3 Bool.false "" "" 24), (Go.Field.mk "Tries" 3 4 Bool.false "" "" 32)]) := ⟨Try.runUnderlying85⟩
instance : IsAgg Try.prog 85 true := ⟨Try.isAgg85⟩
instance : TySize Try.prog 85 5 := ⟨Try.sizeOf85⟩
instance : TyBytes Try.prog 85 40 := ⟨_, Try.typeInfo85, rfl⟩
instance : Zero Try.prog 85 [(Go.Value.int Go.IntKind.i64 0), (Go.Value.int Go.IntKind.i64 0), (Go.Value.int Go.IntKind.i64 0), (Go.Value.int Go.IntKind.i64 0), (Go.Value.int Go.IntKind.i64 0)] := ⟨_, Try.zeroValue85, rfl⟩
instance : Fld Try.prog 85 0 0 := Fld.of (n := 1) ⟨Try.runUnderlying85⟩ rfl ⟨Try.sizeOf3⟩ (by decide) rfl
instance : Fld Try.prog 85 1 1 := Fld.of (n := 1) ⟨Try.runUnderlying85⟩ rfl ⟨Try.sizeOf3⟩ (by decide) rfl
instance : Fld Try.prog 85 2 2 := Fld.of (n := 1) ⟨Try.runUnderlying85⟩ rfl ⟨Try.sizeOf3⟩ (by decide) rfl
instance : Fld Try.prog 85 3 3 := Fld.of (n := 1) ⟨Try.runUnderlying85⟩ rfl ⟨Try.sizeOf3⟩ (by decide) rfl
instance : Fld Try.prog 85 4 4 := Fld.of (n := 1) ⟨Try.runUnderlying85⟩ rfl ⟨Try.sizeOf3⟩ (by decide) rfl
instance : Places Try.prog 85 (fun i => ([(0, 1), (1, 1), (2, 1), (3, 1), (4, 1)] : List (Nat × Nat))[i]?) := Places.struct ⟨Try.runUnderlying85⟩ (.c Try.sizeOf3 (.c Try.sizeOf3 (.c Try.sizeOf3 (.c Try.sizeOf3 (.c Try.sizeOf3 .n)))))
instance : Und Try.prog 88 (Go.TypeDesc.struct #[(Go.Field.mk "Power" 3 0 Bool.false "" "" 0), (Go.Field.mk "Ramp" 3 1 Bool.false "" "" 8), (Go.Field.mk "Delay" 3 2 Bool.false "" "" 16), (Go.Field.mk "Pause" 3 3 Bool.false "" "" 24), (Go.Field.mk "Tries" 3 4 Bool.false "" "" 32)]) := ⟨Try.runUnderlying88⟩
instance : IsAgg Try.prog 88 true := ⟨Try.isAgg88⟩
instance : TySize Try.prog 88 5 := ⟨Try.sizeOf88⟩
instance : TyBytes Try.prog 88 40 := ⟨_, Try.typeInfo88, rfl⟩
instance : Zero Try.prog 88 [(Go.Value.int Go.IntKind.i64 0), (Go.Value.int Go.IntKind.i64 0), (Go.Value.int Go.IntKind.i64 0), (Go.Value.int Go.IntKind.i64 0), (Go.Value.int Go.IntKind.i64 0)] := ⟨_, Try.zeroValue88, rfl⟩
instance : Fld Try.prog 88 0 0 := Fld.of (n := 1) ⟨Try.runUnderlying88⟩ rfl ⟨Try.sizeOf3⟩ (by decide) rfl
instance : Fld Try.prog 88 1 1 := Fld.of (n := 1) ⟨Try.runUnderlying88⟩ rfl ⟨Try.sizeOf3⟩ (by decide) rfl
instance : Fld Try.prog 88 2 2 := Fld.of (n := 1) ⟨Try.runUnderlying88⟩ rfl ⟨Try.sizeOf3⟩ (by decide) rfl
instance : Fld Try.prog 88 3 3 := Fld.of (n := 1) ⟨Try.runUnderlying88⟩ rfl ⟨Try.sizeOf3⟩ (by decide) rfl
instance : Fld Try.prog 88 4 4 := Fld.of (n := 1) ⟨Try.runUnderlying88⟩ rfl ⟨Try.sizeOf3⟩ (by decide) rfl
instance : Places Try.prog 88 (fun i => ([(0, 1), (1, 1), (2, 1), (3, 1), (4, 1)] : List (Nat × Nat))[i]?) := Places.struct ⟨Try.runUnderlying88⟩ (.c Try.sizeOf3 (.c Try.sizeOf3 (.c Try.sizeOf3 (.c Try.sizeOf3 (.c Try.sizeOf3 .n)))))
instance : Und Try.prog 96 (Go.TypeDesc.pointer 3) := ⟨Try.runUnderlying96⟩
instance : IsAgg Try.prog 96 false := ⟨Try.isAgg96⟩
instance : TySize Try.prog 96 1 := ⟨Try.sizeOf96⟩
instance : TyBytes Try.prog 96 8 := ⟨_, Try.typeInfo96, rfl⟩
instance : Zero Try.prog 96 [(Go.Value.pointer none)] := ⟨_, Try.zeroValue96, rfl⟩
instance : Und Try.prog 97 (Go.TypeDesc.slice 96) := ⟨Try.runUnderlying97⟩
instance : IsAgg Try.prog 97 false := ⟨Try.isAgg97⟩
instance : TySize Try.prog 97 1 := ⟨Try.sizeOf97⟩
instance : TyBytes Try.prog 97 24 := ⟨_, Try.typeInfo97, rfl⟩
instance : Zero Try.prog 97 [(Go.Value.slice none 0 0)] := ⟨_, Try.zeroValue97, rfl⟩
instance : Und Try.prog 99 (Go.TypeDesc.slice 26) := ⟨Try.runUnderlying99⟩
instance : IsAgg Try.prog 99 false := ⟨Try.isAgg99⟩
instance : TySize Try.prog 99 1 := ⟨Try.sizeOf99⟩
instance : TyBytes Try.prog 99 24 := ⟨_, Try.typeInfo99, rfl⟩
instance : Zero Try.prog 99 [(Go.Value.slice none 0 0)] := ⟨_, Try.zeroValue99, rfl⟩
instance : Und Try.prog 104 (Go.TypeDesc.struct #[(Go.Field.mk "Energy" 3 0 Bool.false "" "" 0), (Go.Field.mk "Full" 3 1 Bool.false "" "" 8), (Go.Field.mk "Power" 3 2 Bool.false "" "" 16), (Go.Field.mk "Charge" 3 3 Bool.false "" "" 24)]) := ⟨Try.runUnderlying104⟩
instance : IsAgg Try.prog 104 true := ⟨Try.isAgg104⟩
instance : TySize Try.prog 104 4 := ⟨Try.sizeOf104⟩
instance : TyBytes Try.prog 104 32 := ⟨_, Try.typeInfo104, rfl⟩
instance : Zero Try.prog 104 [(Go.Value.int Go.IntKind.i64 0), (Go.Value.int Go.IntKind.i64 0), (Go.Value.int Go.IntKind.i64 0), (Go.Value.int Go.IntKind.i64 0)] := ⟨_, Try.zeroValue104, rfl⟩
instance : Fld Try.prog 104 0 0 := Fld.of (n := 1) ⟨Try.runUnderlying104⟩ rfl ⟨Try.sizeOf3⟩ (by decide) rfl
instance : Fld Try.prog 104 1 1 := Fld.of (n := 1) ⟨Try.runUnderlying104⟩ rfl ⟨Try.sizeOf3⟩ (by decide) rfl
instance : Fld Try.prog 104 2 2 := Fld.of (n := 1) ⟨Try.runUnderlying104⟩ rfl ⟨Try.sizeOf3⟩ (by decide) rfl
instance : Fld Try.prog 104 3 3 := Fld.of (n := 1) ⟨Try.runUnderlying104⟩ rfl ⟨Try.sizeOf3⟩ (by decide) rfl
instance : Places Try.prog 104 (fun i => ([(0, 1), (1, 1), (2, 1), (3, 1)] : List (Nat × Nat))[i]?) := Places.struct ⟨Try.runUnderlying104⟩ (.c Try.sizeOf3 (.c Try.sizeOf3 (.c Try.sizeOf3 (.c Try.sizeOf3 .n))))
instance : Und Try.prog 113 (Go.TypeDesc.struct #[(Go.Field.mk "Seconds" 3 0 Bool.false "" "" 0), (Go.Field.mk "Power" 3 1 Bool.false "" "" 8)]) := ⟨Try.runUnderlying113⟩
instance : IsAgg Try.prog 113 true := ⟨Try.isAgg113⟩
instance : TySize Try.prog 113 2 := ⟨Try.sizeOf113⟩
instance : TyBytes Try.prog 113 16 := ⟨_, Try.typeInfo113, rfl⟩
instance : Zero Try.prog 113 [(Go.Value.int Go.IntKind.i64 0), (Go.Value.int Go.IntKind.i64 0)] := ⟨_, Try.zeroValue113, rfl⟩
instance : Fld Try.prog 113 0 0 := Fld.of (n := 1) ⟨Try.runUnderlying113⟩ rfl ⟨Try.sizeOf3⟩ (by decide) rfl
instance : Fld Try.prog 113 1 1 := Fld.of (n := 1) ⟨Try.runUnderlying113⟩ rfl ⟨Try.sizeOf3⟩ (by decide) rfl
instance : Places Try.prog 113 (fun i => ([(0, 1), (1, 1)] : List (Nat × Nat))[i]?) := Places.struct ⟨Try.runUnderlying113⟩ (.c Try.sizeOf3 (.c Try.sizeOf3 .n))
instance : Und Try.prog 123 (Go.TypeDesc.func #[39] #[] Bool.false) := ⟨Try.runUnderlying123⟩
instance : IsAgg Try.prog 123 false := ⟨Try.isAgg123⟩
instance : TySize Try.prog 123 1 := ⟨Try.sizeOf123⟩
instance : TyBytes Try.prog 123 8 := ⟨_, Try.typeInfo123, rfl⟩
instance : Zero Try.prog 123 [Go.Value.nilFunc] := ⟨_, Try.zeroValue123, rfl⟩
instance : Und Try.prog 131 (Go.TypeDesc.int Go.IntKind.u64) := ⟨Try.runUnderlying131⟩
instance : IsAgg Try.prog 131 false := ⟨Try.isAgg131⟩
instance : TySize Try.prog 131 1 := ⟨Try.sizeOf131⟩
instance : TyBytes Try.prog 131 8 := ⟨_, Try.typeInfo131, rfl⟩
instance : Zero Try.prog 131 [(Go.Value.int Go.IntKind.u64 0)] := ⟨_, Try.zeroValue131, rfl⟩
instance : Und Try.prog 141 (Go.TypeDesc.pointer 153) := ⟨Try.runUnderlying141⟩
instance : IsAgg Try.prog 141 false := ⟨Try.isAgg141⟩
instance : TySize Try.prog 141 1 := ⟨Try.sizeOf141⟩
instance : TyBytes Try.prog 141 8 := ⟨_, Try.typeInfo141, rfl⟩
instance : Zero Try.prog 141 [(Go.Value.pointer none)] := ⟨_, Try.zeroValue141, rfl⟩
instance : Und Try.prog 146 (Go.TypeDesc.func #[3, 3, 4] #[3] Bool.false) := ⟨Try.runUnderlying146⟩
instance : IsAgg Try.prog 146 false := ⟨Try.isAgg146⟩
instance : TySize Try.prog 146 1 := ⟨Try.sizeOf146⟩
instance : TyBytes Try.prog 146 8 := ⟨_, Try.typeInfo146, rfl⟩
instance : Zero Try.prog 146 [Go.Value.nilFunc] := ⟨_, Try.zeroValue146, rfl⟩
instance : Und Try.prog 151 (Go.TypeDesc.slice 163) := ⟨Try.runUnderlying151⟩
instance : IsAgg Try.prog 151 false := ⟨Try.isAgg151⟩
instance : TySize Try.prog 151 1 := ⟨Try.sizeOf151⟩
instance : TyBytes Try.prog 151 24 := ⟨_, Try.typeInfo151, rfl⟩
instance : Zero Try.prog 151 [(Go.Value.slice none 0 0)] := ⟨_, Try.zeroValue151, rfl⟩
instance : Und Try.prog 153 (Go.TypeDesc.struct #[(Go.Field.mk "bank" 25 0 Bool.false "" "switchgear/bank" 0), (Go.Field.mk "starts" 39 2 Bool.false "" "switchgear/bank" 48), (Go.Field.mk "cells" 151 3 Bool.false "" "switchgear/bank" 72), (Go.Field.mk "burnt" 39 4 Bool.false "" "switchgear/bank" 96), (Go.Field.mk "served" 3 5 Bool.false "" "switchgear/bank" 120)]) := ⟨Try.runUnderlying153⟩
instance : IsAgg Try.prog 153 true := ⟨Try.isAgg153⟩
instance : TySize Try.prog 153 6 := ⟨Try.sizeOf153⟩
instance : TyBytes Try.prog 153 128 := ⟨_, Try.typeInfo153, rfl⟩
instance : Zero Try.prog 153 [(Go.Value.slice none 0 0), (Go.Value.slice none 0 0), (Go.Value.slice none 0 0), (Go.Value.slice none 0 0), (Go.Value.slice none 0 0), (Go.Value.int Go.IntKind.i64 0)] := ⟨_, Try.zeroValue153, rfl⟩
instance : Fld Try.prog 153 0 0 := Fld.of (n := 2) ⟨Try.runUnderlying153⟩ rfl ⟨Try.sizeOf25⟩ (by decide) rfl
instance : Fld Try.prog 153 1 2 := Fld.of (n := 1) ⟨Try.runUnderlying153⟩ rfl ⟨Try.sizeOf39⟩ (by decide) rfl
instance : Fld Try.prog 153 2 3 := Fld.of (n := 1) ⟨Try.runUnderlying153⟩ rfl ⟨Try.sizeOf151⟩ (by decide) rfl
instance : Fld Try.prog 153 3 4 := Fld.of (n := 1) ⟨Try.runUnderlying153⟩ rfl ⟨Try.sizeOf39⟩ (by decide) rfl
instance : Fld Try.prog 153 4 5 := Fld.of (n := 1) ⟨Try.runUnderlying153⟩ rfl ⟨Try.sizeOf3⟩ (by decide) rfl
instance : Places Try.prog 153 (fun i => ([(0, 2), (2, 1), (3, 1), (4, 1), (5, 1)] : List (Nat × Nat))[i]?) := Places.struct ⟨Try.runUnderlying153⟩ (.c Try.sizeOf25 (.c Try.sizeOf39 (.c Try.sizeOf151 (.c Try.sizeOf39 (.c Try.sizeOf3 .n)))))
instance : Und Try.prog 156 (Go.TypeDesc.int Go.IntKind.u32) := ⟨Try.runUnderlying156⟩
instance : IsAgg Try.prog 156 false := ⟨Try.isAgg156⟩
instance : TySize Try.prog 156 1 := ⟨Try.sizeOf156⟩
instance : TyBytes Try.prog 156 4 := ⟨_, Try.typeInfo156, rfl⟩
instance : Zero Try.prog 156 [(Go.Value.int Go.IntKind.u32 0)] := ⟨_, Try.zeroValue156, rfl⟩
instance : Und Try.prog 159 (Go.TypeDesc.int Go.IntKind.u64) := ⟨Try.runUnderlying159⟩
instance : IsAgg Try.prog 159 false := ⟨Try.isAgg159⟩
instance : TySize Try.prog 159 1 := ⟨Try.sizeOf159⟩
instance : TyBytes Try.prog 159 8 := ⟨_, Try.typeInfo159, rfl⟩
instance : Zero Try.prog 159 [(Go.Value.int Go.IntKind.u64 0)] := ⟨_, Try.zeroValue159, rfl⟩
instance : Und Try.prog 163 (Go.TypeDesc.struct #[(Go.Field.mk "Battery" 73 0 Bool.true "" "" 0), (Go.Field.mk "now" 3 4 Bool.false "" "switchgear/bank" 32)]) := ⟨Try.runUnderlying163⟩
instance : IsAgg Try.prog 163 true := ⟨Try.isAgg163⟩
instance : TySize Try.prog 163 5 := ⟨Try.sizeOf163⟩
instance : TyBytes Try.prog 163 40 := ⟨_, Try.typeInfo163, rfl⟩
instance : Zero Try.prog 163 [(Go.Value.int Go.IntKind.i64 0), (Go.Value.int Go.IntKind.i64 0), (Go.Value.int Go.IntKind.i64 0), (Go.Value.int Go.IntKind.i64 0), (Go.Value.int Go.IntKind.i64 0)] := ⟨_, Try.zeroValue163, rfl⟩
instance : Fld Try.prog 163 0 0 := Fld.of (n := 4) ⟨Try.runUnderlying163⟩ rfl ⟨Try.sizeOf73⟩ (by decide) rfl
instance : Fld Try.prog 163 1 4 := Fld.of (n := 1) ⟨Try.runUnderlying163⟩ rfl ⟨Try.sizeOf3⟩ (by decide) rfl
instance : Places Try.prog 163 (fun i => ([(0, 4), (4, 1)] : List (Nat × Nat))[i]?) := Places.struct ⟨Try.runUnderlying163⟩ (.c Try.sizeOf73 (.c Try.sizeOf3 .n))
theorem _root_.Go.Proofs.Try.mixed : Try.prog.follows .mixedOrders = true := by kernel_rfl
end Go.X
