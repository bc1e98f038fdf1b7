/- A part of the proof: a small program logic, plain laws and contracts of functions, each proved by a walk through its operations. No condition but those that stand in each theorem. -/
import Derived.Test.YtohdobhnbhcjhaaA1
import Derived.Carry
import Derived.Deep.Grids
import Derived.Deep.Slices
import Derived.MapKept
import Derived.OpenShut
import Derived.ProofKit
import Derived.SizedLaws
import Derived.WideKeyRuns
/- Bits of unsigned numbers; copies between slices. No condition. -/
set_option linter.unusedSimpArgs false
set_option linter.unusedVariables false
namespace Go.X
section
variable {P : Program} {ops : Array Oper} {e : Env} {o r : List PHeap} {d : Option Tmp} {ty : TypeId} {pos : String} {aft : Array Edge}
theorem wrapu64 {n : Int} (h : 0 ≤ n ∧ n < 18446744073709551616) : IntKind.u64.wrap n = n := by
  have : IntKind.u64.wrap n = n % 18446744073709551616 := rfl
  rw [this]; omega
theorem Q.addU {t t2 : TypeId} {x y : Operand} {m n : Int} (hx : ev e x = some (.int .u64 m)) (hy : ev e y = some (.int .u64 n)) (h : 0 ≤ m + n ∧ m + n < 18446744073709551616) :
    Quiet P ops ⟨d, .binOp .add t x y t2, ty, pos, aft, none⟩ e o r (.int .u64 (m + n)) := by
  have := Q.addW (P := P) (ops := ops) (o := o) (r := r) (d := d) (ty := ty) (pos := pos) (aft := aft) (t := t) (t2 := t2) hx hy
  rwa [wrapu64 h] at this
theorem Q.mulU {t t2 : TypeId} {x y : Operand} {m n : Int} (hx : ev e x = some (.int .u64 m)) (hy : ev e y = some (.int .u64 n)) (h : 0 ≤ m * n ∧ m * n < 18446744073709551616) :
    Quiet P ops ⟨d, .binOp .mul t x y t2, ty, pos, aft, none⟩ e o r (.int .u64 (m * n)) := by
  have := Q.mulW (P := P) (ops := ops) (o := o) (r := r) (d := d) (ty := ty) (pos := pos) (aft := aft) (t := t) (t2 := t2) hx hy
  rwa [wrapu64 h] at this
/-- & with 2^32 - 1 -/
theorem Q.mask32 {t t2 : TypeId} {x y : Operand} {m : Int} (hx : ev e x = some (.int .u64 m)) (hy : ev e y = some (.int .u64 4294967295)) (h : 0 ≤ m ∧ m < 18446744073709551616) :
    Quiet P ops ⟨d, .binOp .and t x y t2, ty, pos, aft, none⟩ e o r (.int .u64 (m % 4294967296)) := Q.bin hx hy fun w => by
  obtain ⟨n, rfl⟩ := Int.eq_ofNat_of_zero_le h.1
  have hn : n < 18446744073709551616 := by omega
  have e1 : binOp .and t (.int .u64 (n : Int)) (.int .u64 4294967295) = Op.intBits .and .u64 (n : Int) 4294967295 := by simp [binOp]
  rw [e1]
  have e2 : (BitVec.ofInt 64 (n : Int) &&& BitVec.ofInt 64 4294967295).toNat = n % 4294967296 := by
    have e3 : BitVec.ofInt 64 (4294967295 : Int) = BitVec.ofNat 64 (2 ^ 32 - 1) := by decide
    rw [e3, BitVec.ofInt_natCast, BitVec.toNat_and, BitVec.toNat_ofNat, BitVec.toNat_ofNat, Nat.mod_eq_of_lt hn, Nat.mod_eq_of_lt (show 2 ^ 32 - 1 < 2 ^ 64 by decide), Nat.and_two_pow_sub_one_eq_mod]
  have e4 : Op.intBits .and .u64 (n : Int) 4294967295 = (pure (.int .u64 (IntKind.u64.wrap ((BitVec.ofInt 64 (n : Int) &&& BitVec.ofInt 64 4294967295).toNat : Int))) : Sem Value) := rfl
  rw [e4, e2, wrapu64 (by omega)]
  simp
theorem Q.shr32 {t t2 : TypeId} {x y : Operand} {k' : IntKind} {m : Int} (hx : ev e x = some (.int .u64 m)) (hy : ev e y = some (.int k' 32)) :
    Quiet P ops ⟨d, .binOp .shr t x y t2, ty, pos, aft, none⟩ e o r (.int .u64 (m / 4294967296)) := Q.bin hx hy fun w => by
  have e1 : binOp .shr t (.int .u64 m) (.int k' 32) = Op.shift .shr .u64 m k' 32 := by simp [binOp]
  rw [e1]
  have e2 : Op.shift .shr .u64 m k' 32 = (pure (.int .u64 (m.fdiv (2 ^ 32))) : Sem Value) := rfl
  rw [e2, Int.fdiv_eq_ediv_of_nonneg _ (by decide)]
  rfl
end

/-! ### copies -/
theorem flat_take {α : Type} {enc : α → List Value} {sz : Nat} (he : ∀ x, (enc x).length = sz) : ∀ (xs : List α) (i : Nat), (xs.take i).flatMap enc = (xs.flatMap enc).take (i * sz)
  | [], i => by simp
  | x :: xs, 0 => by simp
  | x :: xs, i + 1 => by
    rw [List.take_succ_cons, List.flatMap_cons, List.flatMap_cons, flat_take he xs i, Nat.add_mul, Nat.one_mul, List.take_append, he]
    rw [List.take_of_length_le (l := enc x) (by rw [he]; omega), show i * sz + sz - sz = i * sz by omega]
theorem flat_drop {α : Type} {enc : α → List Value} {sz : Nat} (he : ∀ x, (enc x).length = sz) : ∀ (xs : List α) (i : Nat), (xs.drop i).flatMap enc = (xs.flatMap enc).drop (i * sz)
  | [], i => by simp
  | x :: xs, 0 => by simp
  | x :: xs, i + 1 => by
    rw [List.drop_succ_cons, List.flatMap_cons, flat_drop he xs i, Nat.add_mul, Nat.one_mul, List.drop_append, he]
    rw [List.drop_of_length_le (l := enc x) (by rw [he]; omega), show i * sz + sz - sz = i * sz by omega, List.nil_append]
def tailv (v : Value) (sz i : Nat) : Value := match v with
  | .slice ad n c => .slice (if c = i then ad else ad.map (·.add (i * sz))) (n - i) (c - i)
  | v => v
def splice {α : Type} (xs ys : List α) (i : Nat) : List α := xs.take i ++ ys.take (min ys.length (xs.length - i)) ++ xs.drop (i + min ys.length (xs.length - i))
section
variable {P : Program} {ops : Array Oper} {e : Env} {o r : List PHeap} {d : Option Tmp} {ty : TypeId} {pos : String} {aft : Array Edge}
variable {α : Type} {enc : α → List Value} {sz : Nat} {h : PHeap} {xs : List α} {v : Value}
theorem tailv_zero {T : TypeId} [s : OArr v enc sz T h xs] : tailv v sz 0 = v := by
  obtain ⟨he, hm, ⟨rfl, rfl, rfl⟩ | ⟨b, c, cs, rfl, rfl, hle, hlen, ht⟩⟩ := s.pf
  · rfl
  · simp only [tailv, Nat.zero_mul, Nat.sub_zero, Option.map_some, add_none]
    split <;> simp
theorem Q.tail {t el : TypeId} [u : Und P t (.slice el)] [z : TySize P el sz] {x : Operand} {lo : Option Operand} {i : Nat} (hx : ev e x = some v) [s : Arr v enc sz h xs] (hlo : Bd e 0 lo i) (hi : i ≤ xs.length) :
    Quiet P ops ⟨d, .slice t x lo none none, ty, pos, aft, none⟩ e o r (tailv v sz i) := .mk fun a w he _ => by
  obtain ⟨henc, hm, ad, c, rfl, hle, hnn, hc⟩ := s.pf
  have hrun : (Instr.sliceAt t (.slice ad xs.length c) (lo.map (evA a)) none none).run P w =
      .ok (.slice (if c = i then ad else ad.map (·.add (i * sz))) (xs.length - i) (c - i)) w := by
    unfold Instr.sliceAt
    rw [bind_ok (u.pf w)]
    simp only
    unfold Instr.slice
    rw [bind_ok (u.pf w)]
    simp only
    have hb : (Instr.sliceBounds true xs.length c (lo.map (evA a)) none none).run P w = .ok (i, xs.length, c) w := by
      unfold Instr.sliceBounds
      simp only [pure_bind]
      rcases Bd.run (P := P) he hlo xs.length .sliceB (by omega) w with ⟨h3, h4⟩ | ⟨v3, h3, h4⟩
      · rw [h3, h4]; rfl
      · rw [h3]
        simp only [Option.isSome_none, Bool.false_eq_true, if_false]
        rw [bind_ok h4]; rfl
    rw [bind_ok hb]
    simp only
    rw [bind_ok (z.pf w)]
    rfl
  simp only [execOp, ev_rel he hx, Option.map_none]
  exact run_val hrun
theorem run_copy {t0 t1 ty el : TypeId} [u : Und P t0 (.slice el)] [z : TySize P el sz] {v2 : Value} {h2 : PHeap} {ys : List α} [s2 : Arr v2 enc sz h2 ys] {w w' : World} (hsub2 : sub h2 w) {ad : Option Addr} {m c : Nat}
    (hst : ((match ad with | some a => storeCells a ((ys.take (min ys.length m)).flatMap enc) 0 | none => pure () : Sem Unit)).run P w = .ok () w') :
    (Builtin.copy_ #[t0, t1] ty #[.slice ad m c, v2]).run P w = .ok (.int .i64 ((min ys.length m : Nat) : Int)) w' := by
  obtain ⟨henc2, hm2, a2, c2, hv2, hle2, hnn2, hc2⟩ := s2.pf
  have hlen2 : (Builtin.lenOf v2).run P w = .ok ys.length w := by rw [hv2]; rfl
  have hcells : (Builtin.firstCells sz (min ys.length m) v2).run P w = .ok ((ys.take (min ys.length m)).flatMap enc).toArray w := s2.cells hsub2 _ (by omega)
  unfold Builtin.copy_
  simp only [List.getElem?_toArray, List.getElem?_cons_zero, List.getElem?_cons_succ]
  rw [bind_ok (u.pf w)]
  simp only
  rw [bind_ok hlen2, bind_ok (z.pf w)]
  have hcells' : (Builtin.firstCells sz (Nat.min ys.length m) v2).run P w = .ok ((ys.take (min ys.length m)).flatMap enc).toArray w := hcells
  rw [bind_ok hcells']
  cases ad with
  | none =>
    simp only at hst ⊢
    have : w' = w := by
      have h1 : (pure () : Sem Unit).run P w = .ok () w := rfl
      rw [h1] at hst
      injection hst with h2 h3
      exact h3.symm
    subst this
    rfl
  | some a =>
    simp only at hst ⊢
    rw [bind_ok hst]
    rfl
theorem Stp0.copy {t0 t1 el T : TypeId} [u : Und P t0 (.slice el)] [z : TySize P el sz] {x y : Operand} {vd v2 : Value} {h2 : PHeap} {ys : List α} {i : Nat} {o1 : List PHeap} (hx : ev e x = some vd) (hd : vd = tailv v sz i) (hy : ev e y = some v2)
    [s : OArr v enc sz T h xs] [tk : Take h o o1] [s2 : Arr v2 enc sz h2 ys] [m : InM h2 o r] (hi : i ≤ xs.length) :
    Stp0 P ops ⟨d, .call ⟨.builtin .copy, #[x, y], #[t0, t1]⟩, ty, pos, aft, none⟩ e o r (fun v' o2 => ∃ h', v' = .int .i64 ((min ys.length (xs.length - i) : Nat) : Int) ∧ OArr v enc sz T h' (splice xs ys i) ∧ o2 = h' :: o1) := fun a w he hs => by
  subst hd
  have hs1 := hs.perm tk.pf
  have hsub2 : sub h2 w := m.pf.elim (hs.so _) (hs.sr _)
  have hx' := ev_rel he hx
  have hy' := ev_rel he hy
  obtain ⟨henc2, hm2, a2, c2, hv2, hle2, hnn2, hc2⟩ := s2.pf
  have hexec : ∀ w', (Builtin.copy_ #[t0, t1] ty #[tailv v sz i, v2]).run P w = .ok (.int .i64 ((min ys.length (xs.length - i) : Nat) : Int)) w' →
      (execOp (evA a) (⟨d, .call ⟨.builtin .copy, #[x, y], #[t0, t1]⟩, ty, pos, aft, none⟩ : Oper)).run P w = .ok (.value (.int .i64 ((min ys.length (xs.length - i) : Nat) : Int))) w' := by
    intro w' hw'
    simp only [execOp, resolve, List.map_toArray, List.map_cons, List.map_nil, hx', hy']
    exact run_val hw'
  obtain ⟨henc, hm, ⟨rfl, rfl, rfl⟩ | ⟨b, c, cs, rfl, rfl, hle, hlen, ht⟩⟩ := s.pf
  · unfold Does
    rw [if_pos (by simp [Region.wanted]), hexec w (by
      have hi0 : i = 0 := by simpa using hi
      subst hi0
      have := run_copy (t0 := t0) (t1 := t1) (ty := ty) (el := el) (s2 := s2) (w := w) (w' := w) (P := P) hsub2 (ad := none) (m := 0) (c := 0) rfl
      simpa [tailv] using this)]
    refine ⟨emp :: o1, ⟨emp, rfl, ?_, rfl⟩, hs1⟩
    simp [splice]
    exact s
  · have hn' : min ys.length (xs.length - i) ≤ xs.length - i := Nat.min_le_right _ _
    have hny : min ys.length (xs.length - i) ≤ ys.length := Nat.min_le_left _ _
    generalize hne : min ys.length (xs.length - i) = n' at *
    have hZ : ((ys.take n').flatMap enc).length = n' * sz := by rw [flat_len henc, List.length_take, Nat.min_eq_left hny]
    have hmul1 : i * sz + n' * sz ≤ xs.length * sz := by rw [← Nat.add_mul]; exact Nat.mul_le_mul_right _ (by omega)
    have hmul2 : xs.length * sz ≤ c * sz := Nat.mul_le_mul_right _ hle
    have hh : w.heap[b]? = some (.cells cs.toArray T (0, 0)) := hs1.so _ List.mem_cons_self b _ (sing_self _ _)
    have hones : ∀ v ∈ (ys.take n').flatMap enc, one v = true := fun v hv => by
      obtain ⟨y, hy1, hy2⟩ := List.mem_flatMap.1 hv
      exact hm2.2 y (List.mem_of_mem_take hy1) v hy2
    obtain ⟨w', h1, h2, h3, h4⟩ := run_storeCells (P := P) (b := b) (k := i * sz) (T := T) ((ys.take n').flatMap enc) 0 w cs hones hh (by omega)
    have hst : ((match (if c = i then some (⟨b, 0, none⟩ : Addr) else (some (⟨b, 0, none⟩ : Addr)).map (·.add (i * sz))) with | some a => storeCells a ((ys.take n').flatMap enc) 0 | none => pure () : Sem Unit)).run P w = .ok () w' := by
      by_cases hci : c = i
      · rw [if_pos hci]
        have hn0 : n' = 0 := by omega
        subst hn0
        simp only [List.take_zero, List.flatMap_nil] at h1 ⊢
        exact h1
      · rw [if_neg hci]
        simp only [Option.map_some, add_none, Nat.zero_add]
        exact h1
    unfold Does
    rw [if_pos (by simp [Region.wanted]), hexec w' (by
      have := run_copy (t0 := t0) (t1 := t1) (ty := ty) (el := el) (s2 := s2) (w := w) (w' := w') (P := P) hsub2 (ad := (if c = i then some (⟨b, 0, none⟩ : Addr) else (some (⟨b, 0, none⟩ : Addr)).map (·.add (i * sz)))) (m := xs.length - i) (c := c - i) (by rw [hne]; exact hst)
      rw [hne] at this
      exact this)]
    simp only [Nat.add_zero, hZ] at h2
    refine ⟨blk b (cs.take (i * sz) ++ (ys.take n').flatMap enc ++ cs.drop (i * sz + n' * sz)) T :: o1, ⟨_, rfl, ?_, rfl⟩, Sep.swap hs1 ?_ ?_ ?_ rfl h4⟩
    · have hlen' : (splice xs ys i).length = xs.length := by
        unfold splice; rw [hne]; simp only [List.length_append, List.length_take, List.length_drop]; omega
      refine ⟨henc, ⟨by rw [hlen']; exact hm.1, fun y hy cc hcc => ?_⟩, .inr ⟨b, c, _, by rw [hlen'], rfl, by rw [hlen']; exact hle, ?_, ?_⟩⟩
      · unfold splice at hy
        rcases List.mem_append.1 hy with hy | hy
        · rcases List.mem_append.1 hy with hy | hy
          · exact hm.2 y (List.mem_of_mem_take hy) cc hcc
          · exact hm2.2 y (List.mem_of_mem_take hy) cc hcc
        · exact hm.2 y (List.mem_of_mem_drop hy) cc hcc
      · simp only [List.length_append, List.length_take, List.length_drop, hZ]; omega
      · rw [hlen']
        unfold splice
        rw [hne, List.flatMap_append, List.flatMap_append, flat_take henc xs, flat_drop henc xs, ← ht, Nat.add_mul]
        rw [List.take_append, List.take_append]
        simp only [List.length_append, List.length_take, hZ]
        rw [List.take_of_length_le (l := cs.take (i * sz)) (by rw [List.length_take]; omega), List.take_of_length_le (l := (ys.take n').flatMap enc) (by rw [hZ]; omega)]
        congr 1
        · congr 1
          rw [List.take_take, Nat.min_eq_left (by omega)]
        · rw [List.drop_take]
          congr 1
          omega
    · exact fun x hx => none_blk (blk_none hx)
    · intro x ob hb
      obtain ⟨rfl, rfl⟩ := sing_some hb
      exact h2
    · exact fun x hx => h3 x (blk_none hx)
theorem Stp.copy {t0 t1 el T : TypeId} [u : Und P t0 (.slice el)] [z : TySize P el sz] {x y : Operand} {vd v2 : Value} {h2 : PHeap} {ys : List α} {i : Nat} {o1 : List PHeap} (hx : ev e x = some vd) (hd : vd = tailv v sz i) (hy : ev e y = some v2)
    [s : OArr v enc sz T h xs] [tk : Take h o o1] [s2 : Arr v2 enc sz h2 ys] [m : InM h2 o r] (hi : i ≤ xs.length) :
    Stp P ops ⟨d, .call ⟨.builtin .copy, #[x, y], #[t0, t1]⟩, ty, pos, aft, none⟩ e o r (fun v' o2 => ∃ h', v' = .int .i64 ((min ys.length (xs.length - i) : Nat) : Int) ∧ OArr v enc sz T h' (splice xs ys i) ∧ o2 = h' :: o1) := fun D a w he hs =>
  (Stp0.copy (tk := tk.more D) (m := m.more D) hx hd hy hi a w he hs).mono fun v w' ⟨o2, ⟨h', h1, h2, h3⟩, hs'⟩ => ⟨o2, ⟨h' :: o1, ⟨h', h1, h2, rfl⟩, by rw [h3]; exact List.Perm.swap _ _ _⟩, hs'⟩
end
section
variable {c : Cx} {ops : Array Oper} {rest : List Oper} {k : List Item} {e : Env} {o r : List PHeap} {d : Nat} {ty : TypeId} {pos : String} {aft : Array Edge}
variable {α : Type} {enc : α → List Value} {sz : Nat} {h : PHeap} {xs : List α} {v : Value}
theorem XO.copy {t0 t1 el T : TypeId} [u : Und c.P t0 (.slice el)] [z : TySize c.P el sz] {x y : Operand} {vd v2 : Value} {h2 : PHeap} {ys : List α} {i : Nat} {o1 : List PHeap} (hx : ev e x = some vd) (hd : vd = tailv v sz i) (hy : ev e y = some v2)
    [s : OArr v enc sz T h xs] [tk : Take h o o1] [s2 : Arr v2 enc sz h2 ys] [m : InM h2 o (c.B :: r)] (hi : i ≤ xs.length)
    (hn : ∀ h', OArr v enc sz T h' (splice xs ys i) → XO c ops rest k ((d, some (.int .i64 ((min ys.length (xs.length - i) : Nat) : Int))) :: e) (h' :: o1) r) :
    XO c ops (⟨some d, .call ⟨.builtin .copy, #[x, y], #[t0, t1]⟩, ty, pos, aft, none⟩ :: rest) k e o r :=
  XO.s (Stp.copy hx hd hy hi) fun v' o2 ⟨h', h1, h2, h3⟩ => by subst h1 h3; exact hn h' h2
variable {fl : List Nat} {f : List PHeap} {i0 : Nat} {bb : Bool} {tt uu : Plan}
theorem XT.copy {t0 t1 el T : TypeId} [u : Und c.P t0 (.slice el)] [z : TySize c.P el sz] {x y : Operand} {vd v2 : Value} {h2 : PHeap} {ys : List α} {i : Nat} {o1 : List PHeap}
    (hi0 : ops[i0]? = some ⟨some d, .call ⟨.builtin .copy, #[x, y], #[t0, t1]⟩, ty, pos, aft, none⟩) (hok : okOper c.N ⟨some d, .call ⟨.builtin .copy, #[x, y], #[t0, t1]⟩, ty, pos, aft, none⟩ = true)
    (hx : ev e x = some vd) (hd : vd = tailv v sz i) (hy : ev e y = some v2)
    [s : OArr v enc sz T h xs] [tk : Take h o o1] [s2 : Arr v2 enc sz h2 ys] [m : InM h2 o (c.B :: r)] (hi : i ≤ xs.length)
    (hn : ∀ h', OArr v enc sz T h' (splice xs ys i) → Keeps bb f (h' :: o1) ∧ XT c ops fl f k r tt ((d, some (.int .i64 ((min ys.length (xs.length - i) : Nat) : Int))) :: e) (h' :: o1)) (hu : XT c ops fl f k r uu e o) :
    XT c ops fl f k r (.br i0 bb tt uu) e o :=
  XT.s hi0 hok (Stp.copy hx hd hy hi) (fun v' o2 ⟨h', h1, h2, h3⟩ => by subst h1 h3; exact hn h' h2) hu
end
def cutv (v : Value) (sz i j : Nat) : Value := match v with
  | .slice ad n c => .slice (if c = i then ad else ad.map (·.add (i * sz))) (j - i) (c - i)
  | v => v
section
variable {P : Program} {ops : Array Oper} {e : Env} {o r : List PHeap} {d : Option Tmp} {ty : TypeId} {pos : String} {aft : Array Edge}
variable {α : Type} {enc : α → List Value} {sz : Nat} {h : PHeap} {xs : List α} {v : Value}
theorem Arr.cut (s : Arr v enc sz h xs) {i j : Nat} (hij : i ≤ j) (hj : j ≤ xs.length) : Arr (cutv v sz i j) enc sz h ((xs.drop i).take (j - i)) := ⟨by
  obtain ⟨henc, hm, ad, c, rfl, hle, hnn, hc⟩ := s.pf
  have hl : ((xs.drop i).take (j - i)).length = j - i := by simp; omega
  refine ⟨henc, ⟨by omega, fun y hy cc hcc => hm.2 y (List.mem_of_mem_drop (List.mem_of_mem_take hy)) cc hcc⟩, (if c = i then ad else ad.map (·.add (i * sz))), c - i, by rw [hl]; rfl, by omega, ?_, fun hp => ?_⟩
  · intro hnone
    split at hnone
    · rw [hnn hnone]; omega
    · cases ad with
      | none => rw [hnn rfl]; omega
      | some a => simp at hnone
  · obtain ⟨b, k, cs, T, fr, rfl, hb, hcs⟩ := hc (by omega)
    refine ⟨b, k + i * sz, cs, T, fr, ?_, hb, fun m n hm' hn => ?_⟩
    · rw [if_neg (by omega)]
      simp [add_none]
    · have := hcs (i + m) n (by omega) hn
      rw [Nat.add_mul, ← Nat.add_assoc] at this
      rw [this]
      congr 1
      rw [List.getElem?_take, if_pos (by omega), List.getElem?_drop]⟩
theorem Q.cut {t el : TypeId} [u : Und P t (.slice el)] [z : TySize P el sz] {x : Operand} {lo hi : Option Operand} {i j : Nat} (hx : ev e x = some v) [s : Arr v enc sz h xs] (hlo : Bd e 0 lo i) (hhi : Bd e xs.length hi j) (hij : i ≤ j) (hj : j ≤ xs.length) :
    Quiet P ops ⟨d, .slice t x lo hi none, ty, pos, aft, none⟩ e o r (cutv v sz i j) := .mk fun a w he _ => by
  obtain ⟨henc, hm, ad, c, rfl, hle, hnn, hc⟩ := s.pf
  have hrun : (Instr.sliceAt t (.slice ad xs.length c) (lo.map (evA a)) (hi.map (evA a)) none).run P w =
      .ok (.slice (if c = i then ad else ad.map (·.add (i * sz))) (j - i) (c - i)) w := by
    unfold Instr.sliceAt
    rw [bind_ok (u.pf w)]
    simp only
    unfold Instr.slice
    rw [bind_ok (u.pf w)]
    simp only
    have hb : (Instr.sliceBounds true xs.length c (lo.map (evA a)) (hi.map (evA a)) none).run P w = .ok (i, j, c) w := by
      unfold Instr.sliceBounds
      simp only [pure_bind]
      rcases Bd.run (P := P) he hhi c .sliceAcap (by omega) w with ⟨h1, h2⟩ | ⟨v1, h1, h2⟩
      · rw [h1, h2]
        simp only [pure_bind]
        rcases Bd.run (P := P) he hlo xs.length .sliceB (by omega) w with ⟨h3, h4⟩ | ⟨v3, h3, h4⟩
        · rw [h3, h4]; rfl
        · rw [h3]
          simp only [Option.isSome_none, Bool.false_eq_true, if_false]
          rw [bind_ok h4]; rfl
      · rw [h1]
        simp only [if_true]
        rw [bind_ok h2]
        rcases Bd.run (P := P) he hlo j .sliceB hij w with ⟨h3, h4⟩ | ⟨v3, h3, h4⟩
        · rw [h3, h4]; rfl
        · rw [h3]
          simp only [Option.isSome_none, Bool.false_eq_true, if_false]
          rw [bind_ok h4]; rfl
    rw [bind_ok hb]
    simp only
    rw [bind_ok (z.pf w)]
    rfl
  simp only [execOp, ev_rel he hx, Option.map_none]
  exact run_val hrun
end
end Go.X

/- Operations under a guard that is known to hold. No condition. -/
set_option linter.unusedSimpArgs false
set_option linter.unusedVariables false
namespace Go.X
section
variable {P : Program} {ops : Array Oper} {e : Env} {o r : List PHeap} {d : Option Tmp} {ty : TypeId} {pos : String} {aft : Array Edge}
theorem Stp.want {op : Op} {j gt : Nat} {want b : Bool} {Ψ : Value → List PHeap → Prop} (hj : (ops[j]?).bind (·.dst) = some gt) (hg : find e gt = some (.bool b)) (hb : b = want)
    (s : Stp P ops ⟨d, op, ty, pos, aft, none⟩ e o r Ψ) : Stp P ops ⟨d, op, ty, pos, aft, some (j, want)⟩ e o r Ψ := fun D a w he hs => by
  have h := s D a w he hs
  have hw := wanted_guard (d := d) (ty := ty) (pos := pos) (aft := aft) (want := want) (op := op) hj (he gt _ hg)
  have hx : execOp (evA a) (⟨d, op, ty, pos, aft, some (j, want)⟩ : Oper) = execOp (evA a) (⟨d, op, ty, pos, aft, none⟩ : Oper) := rfl
  unfold Does at h ⊢
  rw [hw, hx, if_pos (by simp [hb])]
  rwa [if_pos (by simp [Region.wanted])] at h
end
section
variable {c : Cx} {ops : Array Oper} {rest : List Oper} {k : List Item} {e : Env} {o r : List PHeap} {d : Nat} {ty : TypeId} {pos : String} {aft : Array Edge}
variable {α : Type} {enc : α → List Value} {sz : Nat} {h : PHeap} {xs : List α} {v : Value}
theorem XO.litG {t el : TypeId} [u : Und c.P t (.slice el)] [z : TySize c.P el sz] {zs : List Value} [zz : Zero c.P el zs] {n : Nat} {l : List (Nat × Operand)} {j gt : Nat} {want b : Bool} (zl cs : List Value) (xs : List α) (enc : α → List Value)
    (hj : (ops[j]?).bind (·.dst) = some gt) (hg : find e gt = some (.bool b)) (hb : b = want)
    (hzs : zs.length = sz) (hsz : Nat.blt 0 sz = true) (hn : Nat.ble (n * sz) 16777216 = true) (hzl : (List.replicate n zs).flatten = zl) (hf : Fill e (fun i => some (i * sz, sz)) l zl cs)
    (henc : ∀ x, (enc x).length = sz) (hcs : xs.flatMap enc = cs) (hxn : xs.length = n) (ho : Ones cs) (hle : Nat.ble n 16777216 = true)
    (hnx : ∀ v' h', OArr v' enc sz el h' xs → XO c ops rest k ((d, some v') :: e) (h' :: o) r) :
    XO c ops (⟨some d, .buildSlice t n l.toArray, ty, pos, aft, some (j, want)⟩ :: rest) k e o r :=
  XO.s (Stp.want hj hg hb ((Makes.lit cs hzs hsz hn (by rw [hzl]; exact hf)).stp _ _)) fun _ _ ⟨b, hv, ho'⟩ => by subst hv ho'; exact hnx _ _ (OArr.lit xs enc henc hcs hxn ho hle)
end
end Go.X

/- From the reading of arguments to slices that are read; what a call leaves as it was. No condition. -/
set_option linter.unusedSimpArgs false
set_option linter.unusedVariables false
namespace Go.X
open Go.ChangeShapes Go.WideShapes Go.Deep
def heapOf (w : World) : PHeap := ⟨fun b => w.heap[b]?, some (mt w)⟩
theorem heap_sep (w : World) : Sep [] [heapOf w] w where
  pw := List.Pairwise.nil
  dr := fun h hh => by cases hh
  so := fun h hh => by cases hh
  sr := fun g hg b ob hb => by
    simp only [List.mem_singleton] at hg; subst hg; exact hb
  no := fun h hh => by cases hh
  sm := fun g hg m hm => by
    simp only [List.mem_singleton] at hg; subst hg; exact Option.some.inj hm
structure Stays (W w' : World) : Prop where
  os : w'.os = W.os
  output : w'.output = W.output
  block : ∀ k, k < W.heap.size → w'.heap[k]? = W.heap[k]?
theorem stays_of {o : List PHeap} {W w' : World} (s : Sep o [heapOf W] w') : Stays W w' := by
  have h1 := s.sm _ List.mem_cons_self _ rfl
  simp only [mt, Prod.mk.injEq] at h1
  refine ⟨h1.1, h1.2, fun k hk => ?_⟩
  have h2 : W.heap[k]? = some (W.heap[k]'hk) := Array.getElem?_eq_getElem hk
  rw [h2]
  exact s.sr _ List.mem_cons_self k _ h2
theorem Stays.same {W w' : World} (h : Stays W w') {p : MemPlace} (hp : p.block < W.heap.size) : W.sameAt w' p := by
  cases p with
  | cell b o => exact World.cell?_of_block (w := W) (h.block b hp)
  | map b => exact h.block b hp
theorem Stays.frame {W w' : World} (h : Stays W w') (may : MemPlace → Prop) : W.keptBut w' may := by
  refine ⟨h.os, h.output, fun i hi => ?_⟩
  rw [h.block i hi]
  split <;> simp_all
theorem Stays.refl (W : World) : Stays W W := ⟨rfl, rfl, fun _ _ => rfl⟩
theorem calls_of_spec {P : Program} {f : FuncId} {args : Array Value} {hr : List PHeap} {W : World} {R : Value → List PHeap → Prop} (h : Spec P f args [] hr R) (hh : ∀ h ∈ hr, h = heapOf W) :
    Calls P f args W fun e w' => ∃ v hs, e = .returned v ∧ R v hs ∧ Stays W w' :=
  (h [] [heapOf W] W (heap_sep W) (fun x hx => .inr (by rw [hh x hx]; exact List.mem_cons_self))).mono fun e w' ⟨v, hs, he, hR, hS⟩ => ⟨v, hs, he, hR, stays_of (o := hs ++ []) hS⟩

section
variable {H : Type} {enc : TypeId × Value → H} {P : Program} {w : World} {held : Bool}
end
end Go.X

/- Arguments of rows opened: small numbers, slices of bytes. No condition. -/
set_option linter.unusedSimpArgs false
set_option linter.unusedVariables false
namespace Go.X
open Go.ChangeShapes Go.WideShapes Go.Deep
section
variable {H : Type} {enc : TypeId × Value → H} {P : Program} {W : World} {base : Nat} {v : Value} {d : DataW H} {ps : List MemPlace}
end
end Go.X

/- An argument that is a list of lists of bytes, opened. No condition. -/
set_option linter.unusedSimpArgs false
set_option linter.unusedVariables false
namespace Go.X
open Go.ChangeShapes Go.WideShapes Go.Deep
section
variable {H : Type} {enc : TypeId × Value → H} {P : Program} {W : World} {base : Nat} {v : Value} {d : DataW H} {ps : List MemPlace}
end
end Go.X

/- Guards within guards. No condition. -/
set_option linter.unusedSimpArgs false
set_option linter.unusedVariables false
namespace Go.X
theorem bpT {b : Bool} {p : Prop} [t : BoolP b p] (h : b = true) : p := t.pf.1 h
theorem bpF {b : Bool} {p : Prop} [t : BoolP b p] (h : b = false) : ¬ p := fun hp => by rw [t.pf.2 hp] at h; cases h
theorem wanted_val {ops : Array Oper} {d : Option Tmp} {op : Op} {ty : TypeId} {pos : String} {aft : Array Edge} {j : Nat} {want : Bool} {g : Nat} {a : Array Value} {v : Value} (hj : (ops[j]?).bind (·.dst) = some g) (hv : a.getD g undef = v) (hn : v ≠ .bool want) :
    Region.wanted ⟨d, op, ty, pos, aft, some (j, want)⟩ (yielded ops a) = false := by
  have hy : yielded ops a j ≠ some want := by
    unfold yielded
    rw [hj]
    simp only [Option.bind_some]
    rcases Nat.lt_or_ge g a.size with hlt | hge
    · have e1 : a[g]? = some a[g] := Array.getElem?_eq_getElem hlt
      have e2 : a[g] = v := by simpa [hlt] using hv
      rw [e1, e2]
      intro h
      cases v <;> simp_all
    · rw [Array.getElem?_eq_none hge]
      simp
  simp only [Region.wanted]
  simpa using hy
/-- What the value at g tells: φ, or not. -/
def Tells (e : Env) (g : Nat) (want : Bool) (φ : Prop) : Prop := ∃ v, find e g = some v ∧ (φ → v = .bool want) ∧ (¬ φ → v ≠ .bool want)
theorem undef_ne {b : Bool} : undef ≠ .bool b := by simp [undef]
theorem Tells.d1 {e : Env} {g : Nat} {want b : Bool} (h : find e g = some (.bool b)) : Tells e g want (b = want) :=
  ⟨_, h, fun hb => by rw [hb], fun hb hv => hb (by simpa using hv)⟩
theorem Tells.d2 {e : Env} {g : Nat} {want b b1 w1 : Bool} (h : find e g = some (lz b1 w1 (.bool b))) : Tells e g want (b1 = w1 ∧ b = want) :=
  ⟨_, h, fun ⟨h1, h2⟩ => by simp [lz, h1, h2], fun hn hv => by
    unfold lz at hv
    split at hv
    · exact hn ⟨‹_›, by simpa using hv⟩
    · exact undef_ne hv⟩
theorem Tells.d3 {e : Env} {g : Nat} {want b b1 w1 b2 w2 : Bool} (h : find e g = some (lz b1 w1 (lz b2 w2 (.bool b)))) : Tells e g want (b1 = w1 ∧ b2 = w2 ∧ b = want) :=
  ⟨_, h, fun ⟨h1, h2, h3⟩ => by simp [lz, h1, h2, h3], fun hn hv => by
    unfold lz at hv
    split at hv
    · split at hv
      · exact hn ⟨‹_›, ‹_›, by simpa using hv⟩
      · exact undef_ne hv
    · exact undef_ne hv⟩
section
variable {P : Program} {ops : Array Oper} {e : Env} {o r : List PHeap} {d : Option Tmp} {ty : TypeId} {pos : String} {aft : Array Edge}
theorem Tells.no {φ : Prop} {j : Nat} {want : Bool} {g : Nat} {op : Op} {a : Array Value} (hj : (ops[j]?).bind (·.dst) = some g) (t : Tells e g want φ) (he : ERel e a) (hn : ¬ φ) :
    Region.wanted ⟨d, op, ty, pos, aft, some (j, want)⟩ (yielded ops a) = false := by
  obtain ⟨v, h1, _, h3⟩ := t
  exact wanted_val hj (he _ _ h1) (h3 hn)
theorem Tells.yes {φ : Prop} {j : Nat} {want : Bool} {g : Nat} {op : Op} {a : Array Value} (hj : (ops[j]?).bind (·.dst) = some g) (t : Tells e g want φ) (he : ERel e a) (hn : φ) :
    Region.wanted ⟨d, op, ty, pos, aft, some (j, want)⟩ (yielded ops a) = true := by
  obtain ⟨v, h1, h2, _⟩ := t
  have := he _ _ h1
  rw [h2 hn] at this
  rw [wanted_guard hj this]
  simp
theorem Quiet.tells {φ : Prop} {op : Op} {v v' : Value} {j : Nat} {want : Bool} {g : Nat} (hj : (ops[j]?).bind (·.dst) = some g) (t : Tells e g want φ) (h1 : φ → v' = v) (h2 : ¬ φ → v' = undef)
    (h : φ → Quiet P ops ⟨d, op, ty, pos, aft, none⟩ e o r v) : Quiet P ops ⟨d, op, ty, pos, aft, some (j, want)⟩ e o r v' := by
  intro a w he hr
  by_cases hp : φ
  · rcases h hp a w he hr with ⟨_, h3⟩ | ⟨h3, _⟩
    · left
      refine ⟨t.yes hj he hp, ?_⟩
      rw [h1 hp]
      exact h3
    · simp [Region.wanted] at h3
  · exact .inr ⟨t.no hj he hp, h2 hp⟩
theorem Quiet.guard2 {op : Op} {v : Value} {j : Nat} {want b b1 w1 : Bool} {g : Nat} (hj : (ops[j]?).bind (·.dst) = some g) (hg : find e g = some (lz b1 w1 (.bool b)))
    (h : b1 = w1 → b = want → Quiet P ops ⟨d, op, ty, pos, aft, none⟩ e o r v) : Quiet P ops ⟨d, op, ty, pos, aft, some (j, want)⟩ e o r (lz b1 w1 (lz b want v)) :=
  Quiet.tells hj (.d2 hg) (fun ⟨h1, h2⟩ => by simp [lz, h1, h2]) (fun hn => by
    unfold lz
    split
    · split
      · exact absurd ⟨‹_›, ‹_›⟩ hn
      · rfl
    · rfl) (fun ⟨h1, h2⟩ => h h1 h2)
theorem Quiet.guard3 {op : Op} {v : Value} {j : Nat} {want b b1 w1 b2 w2 : Bool} {g : Nat} (hj : (ops[j]?).bind (·.dst) = some g) (hg : find e g = some (lz b1 w1 (lz b2 w2 (.bool b))))
    (h : b1 = w1 → b2 = w2 → b = want → Quiet P ops ⟨d, op, ty, pos, aft, none⟩ e o r v) : Quiet P ops ⟨d, op, ty, pos, aft, some (j, want)⟩ e o r (lz b1 w1 (lz b2 w2 (lz b want v))) :=
  Quiet.tells hj (.d3 hg) (fun ⟨h1, h2, h3⟩ => by simp [lz, h1, h2, h3]) (fun hn => by
    unfold lz
    split
    · split
      · split
        · exact absurd ⟨‹_›, ‹_›, ‹_›⟩ hn
        · rfl
      · rfl
    · rfl) (fun ⟨h1, h2, h3⟩ => h h1 h2 h3)
/-- A call of a function value that only computes, under guards. -/
theorem Stp.vtells {φ : Prop} {x : Operand} {l : List Operand} {tys : Array TypeId} {y : Value} {vs : List Value} {Hr : List PHeap} {u u' : Value} {j : Nat} {want : Bool} {g : Nat}
    (hj : (ops[j]?).bind (·.dst) = some g) (t : Tells e g want φ) (h1 : φ → u' = u) (h2 : ¬ φ → u' = undef) (hx : φ → ev e x = some y) (hl : φ → EvL e l vs) (hS : φ → VSpec P y vs [] Hr (fun v hs => v = u ∧ hs = [])) [al : AllIn Hr o r] :
    Stp P ops ⟨d, .call ⟨.value x, l.toArray, tys⟩, ty, pos, aft, some (j, want)⟩ e o r (fun v o2 => v = u' ∧ o2 = o) := fun D a w he hs => by
  by_cases hp : φ
  · have hw := t.yes (d := d) (ty := ty) (pos := pos) (aft := aft) (op := .call ⟨.value x, l.toArray, tys⟩) hj he hp
    have hx' : (execOp (evA a) (⟨d, .call ⟨.value x, l.toArray, tys⟩, ty, pos, aft, some (j, want)⟩ : Oper)) = callv y vs.toArray := by
      simp only [execOp, resolve, ev_rel he (hx hp), List.map_toArray, (hl hp).rel he, callv]
    have h := hS hp (D :: o) r w hs (al.more D).pf
    unfold Does
    rw [hw, if_pos rfl, hx']
    unfold NDoes at h
    split at h <;> rename_i heq
    · rw [heq]
      refine h.mono ?_
      rintro e' w' ⟨v, rfl, hs', ⟨rfl, rfl⟩, hS'⟩
      exact ⟨v, rfl, D :: o, ⟨o, ⟨(h1 hp).symm, rfl⟩, List.Perm.refl _⟩, hS'⟩
    · rw [heq]
      intro c0 cs
      obtain ⟨v, w', ⟨hs', ⟨rfl, rfl⟩, hS'⟩, st⟩ := h c0 cs
      exact ⟨v, w', ⟨D :: o, ⟨o, ⟨(h1 hp).symm, rfl⟩, List.Perm.refl _⟩, hS'⟩, st⟩
    · exact h.elim
  · unfold Does
    rw [t.no hj he hp]
    exact ⟨D :: o, ⟨o, ⟨(h2 hp).symm, rfl⟩, List.Perm.refl _⟩, hs⟩
end
section
variable {c : Cx} {ops : Array Oper} {rest : List Oper} {k : List Item} {e : Env} {o r : List PHeap} {d : Nat} {ty : TypeId} {pos : String} {aft : Array Edge}
variable {fl : List Nat} {f : List PHeap} {i0 : Nat} {bb : Bool} {tt uu : Plan}
section
variable {x : Operand} {l : List Operand} {tys : Array TypeId} {y : Value} {vs : List Value} {Hr : List PHeap} {u : Value} {j g : Nat} {want b b1 w1 b2 w2 : Bool}
theorem XO.vg2 (hj : (ops[j]?).bind (·.dst) = some g) (hg : find e g = some (lz b1 w1 (.bool b))) (hx : b1 = w1 → b = want → ev e x = some y) (hl : b1 = w1 → b = want → EvL e l vs)
    (hS : b1 = w1 → b = want → VSpec c.P y vs [] Hr (fun v hs => v = u ∧ hs = [])) [al : AllIn Hr o (c.B :: r)] (h : XO c ops rest k ((d, some (lz b1 w1 (lz b want u))) :: e) o r) :
    XO c ops (⟨some d, .call ⟨.value x, l.toArray, tys⟩, ty, pos, aft, some (j, want)⟩ :: rest) k e o r :=
  XO.s (Stp.vtells hj (.d2 hg) (u' := lz b1 w1 (lz b want u)) (fun h => by simp [lz, h.1, h.2]) (fun h => by
    unfold lz
    split
    · split
      · exact absurd ⟨‹_›, ‹_›⟩ h
      · rfl
    · rfl) (fun h => hx h.1 h.2) (fun h => hl h.1 h.2) (fun h => hS h.1 h.2)) fun v o2 ⟨h1, h2⟩ => by subst h1 h2; exact h
theorem XT.vg2 (hi : ops[i0]? = some ⟨some d, .call ⟨.value x, l.toArray, tys⟩, ty, pos, aft, some (j, want)⟩) (hok : okOper c.N ⟨some d, .call ⟨.value x, l.toArray, tys⟩, ty, pos, aft, some (j, want)⟩ = true)
    (hj : (ops[j]?).bind (·.dst) = some g) (hg : find e g = some (lz b1 w1 (.bool b))) (hx : b1 = w1 → b = want → ev e x = some y) (hl : b1 = w1 → b = want → EvL e l vs)
    (hS : b1 = w1 → b = want → VSpec c.P y vs [] Hr (fun v hs => v = u ∧ hs = [])) [al : AllIn Hr o (c.B :: r)] (h : Keeps bb f o ∧ XT c ops fl f k r tt ((d, some (lz b1 w1 (lz b want u))) :: e) o) (hu : XT c ops fl f k r uu e o) :
    XT c ops fl f k r (.br i0 bb tt uu) e o :=
  XT.s hi hok (Stp.vtells hj (.d2 hg) (u' := lz b1 w1 (lz b want u)) (fun h => by simp [lz, h.1, h.2]) (fun h => by
    unfold lz
    split
    · split
      · exact absurd ⟨‹_›, ‹_›⟩ h
      · rfl
    · rfl) (fun h => hx h.1 h.2) (fun h => hl h.1 h.2) (fun h => hS h.1 h.2)) (fun v o2 ⟨h1, h2⟩ => by subst h1 h2; exact h) hu
end
end
end Go.X

/- Shifts and bits, whatever they give. No condition. -/
set_option linter.unusedSimpArgs false
set_option linter.unusedVariables false
namespace Go.X
def shrI (k : IntKind) (m n : Int) : Int := m.fdiv (2 ^ min n.toNat k.bits)
section
variable {P : Program} {ops : Array Oper} {e : Env} {o r : List PHeap} {d : Option Tmp} {ty : TypeId} {pos : String} {aft : Array Edge}
theorem Q.shrW {t t2 : TypeId} {x y : Operand} {k k' : IntKind} {m n : Int} (hx : ev e x = some (.int k m)) (hy : ev e y = some (.int k' n)) (h : 0 ≤ n) :
    Quiet P ops ⟨d, .binOp .shr t x y t2, ty, pos, aft, none⟩ e o r (.int k (shrI k m n)) := Q.bin hx hy fun w => by
  have e1 : binOp .shr t (.int k m) (.int k' n) = Op.shift .shr k m k' n := by simp [binOp]
  rw [e1]
  unfold Op.shift
  rw [if_neg (by omega)]
  rfl
end
end Go.X

/- Calls under a guard that is known to hold. No condition. -/
set_option linter.unusedSimpArgs false
set_option linter.unusedVariables false
namespace Go.X
section
variable {c : Cx} {ops : Array Oper} {rest : List Oper} {k : List Item} {e : Env} {o r : List PHeap} {d : Nat} {ty : TypeId} {pos : String} {aft : Array Edge}
variable {fl : List Nat} {f : List PHeap} {i0 : Nat} {bb : Bool} {tt uu : Plan}
theorem EvL.evs {e : Env} : ∀ {l : List Operand} {vs : List Value}, EvL e l vs → evs e l = some vs
  | [], _, .n => rfl
  | x :: l, _, .c h r => by simp only [X.evs, h, EvL.evs r]
theorem XO.callS {g : FuncId} {x : Operand} {l : List Operand} {tys : Array TypeId} {fst vs cap A : List Value} {Hm Hr : List PHeap} {R : Value → List PHeap → Prop} {o1 : List PHeap} {j gt : Nat} {want b : Bool}
    (hj : (ops[j]?).bind (·.dst) = some gt) (hg : find e gt = some (.bool b)) (hb : b = want)
    (hc : ∀ args w, (callFunc g args).run c.P w = .ok (.enter g args) w) (hx : ev e x = some (.func (.func g) fst.toArray cap.toArray)) (hl : EvL e l vs) (hA : fst ++ vs ++ cap = A)
    (hS : Spec c.P g A.toArray Hm Hr R) [t : Takes Hm o o1] [al : AllIn Hr o1 (c.B :: r)] (h : ∀ v hs, R v hs → XO c ops rest k ((d, some v) :: e) (hs ++ o1) r) :
    XO c ops (⟨some d, .call ⟨.value x, l.toArray, tys⟩, ty, pos, aft, some (j, want)⟩ :: rest) k e o r :=
  XO.s (Stp.want hj hg hb (Stp.call hc hx hl.evs hA hS)) fun v o2 ⟨hs, hR, h2⟩ => by subst h2; exact h v hs hR
theorem XT.callS {g : FuncId} {x : Operand} {l : List Operand} {tys : Array TypeId} {fst vs cap A : List Value} {Hm Hr : List PHeap} {R : Value → List PHeap → Prop} {o1 : List PHeap} {j gt : Nat} {want b : Bool}
    (hi : ops[i0]? = some ⟨some d, .call ⟨.value x, l.toArray, tys⟩, ty, pos, aft, some (j, want)⟩) (hok : okOper c.N ⟨some d, .call ⟨.value x, l.toArray, tys⟩, ty, pos, aft, some (j, want)⟩ = true)
    (hj : (ops[j]?).bind (·.dst) = some gt) (hg : find e gt = some (.bool b)) (hb : b = want)
    (hc : ∀ args w, (callFunc g args).run c.P w = .ok (.enter g args) w) (hx : ev e x = some (.func (.func g) fst.toArray cap.toArray)) (hl : EvL e l vs) (hA : fst ++ vs ++ cap = A)
    (hS : Spec c.P g A.toArray Hm Hr R) [tk : Takes Hm o o1] [al : AllIn Hr o1 (c.B :: r)] (h : ∀ v hs, R v hs → Keeps bb f (hs ++ o1) ∧ XT c ops fl f k r tt ((d, some v) :: e) (hs ++ o1)) (hu : XT c ops fl f k r uu e o) :
    XT c ops fl f k r (.br i0 bb tt uu) e o :=
  XT.s hi hok (Stp.want hj hg hb (Stp.call hc hx hl.evs hA hS)) (fun v o2 ⟨hs, hR, h2⟩ => by subst h2; exact h v hs hR) hu
end
end Go.X

/- The place of a field of an element. No condition. -/
namespace Go.X
variable {P : Program} {ops : Array Oper} {e : Env} {o r : List PHeap} {d : Option Tmp} {ty : TypeId} {pos : String} {aft : Array Edge}
variable {α : Type} {enc : α → List Value} {sz : Nat} {h : PHeap} {xs : List α} {v : Value}
theorem Q.fieldQ {s' f off : Nat} [fl : Fld P s' f off] {x : Operand} {i k : Nat} (hx : ev e x = some (pat v sz i k)) [s : Arr v enc sz h xs] (hi : i < xs.length) :
    Quiet P ops ⟨d, .fieldAddr s' x f, ty, pos, aft, none⟩ e o r (pat v sz i (k + off)) := Q.fieldP (n := 0) hx hi
end Go.X

/- An element of an array value: elements of one cell. No condition. -/
set_option linter.unusedVariables false
namespace Go.X
variable {P : Program} {ops : Array Oper} {e : Env} {o r : List PHeap} {d : Option Tmp} {ty : TypeId} {pos : String} {aft : Array Edge}
theorem Spec.wide {f : FuncId} {args : Array Value} {Hm Hr Hr' : List PHeap} {R : Value → List PHeap → Prop} (h : Spec P f args Hm Hr R) (hh : ∀ x ∈ Hr, x ∈ Hr') : Spec P f args Hm Hr' R :=
  fun o r w hs hr => h o r w hs (fun x hx => hr x (hh x hx))
end Go.X

/- A store to the first field. -/
namespace Go.X
instance (priority := high) Upd.first {b : Nat} {vs : List Value} {o o' : List PHeap} [t : Upd b 0 vs o o'] : Upd b (0 + 0) vs o o' := ⟨t.pf⟩
end Go.X

/- min and max of whole numbers of any width. -/
set_option linter.unusedVariables false
namespace Go.X
section
variable {P : Program} {ops : Array Oper} {e : Env} {o r : List PHeap} {d : Option Tmp} {ty : TypeId} {pos : String} {aft : Array Edge}
end
end Go.X

/- Iterators that yield fresh values: what was yielded stays readable; loops over them. No condition. -/
set_option linter.unusedSimpArgs false
set_option linter.unusedVariables false
namespace Go.X

/-! ### two heaps as one -/
def cat (a b : PHeap) : PHeap := join [a, b]
theorem cat_left (a b : PHeap) : leH a (cat a b) := fun x ob h => by
  show ((a x).or _) = _
  rw [h]; rfl
theorem cat_right {a b : PHeap} (hd : Disj a b) : leH b (cat a b) := fun x ob h => by
  show ((a x).or ((b x).or none)) = _
  rcases hd x with h1 | h1
  · rw [h1, h]; rfl
  · rw [h] at h1; cases h1
theorem leH.trans {a b c : PHeap} (h1 : leH a b) (h2 : leH b c) : leH a c := fun x ob h => h2 x ob (h1 x ob h)
theorem leH.emp (h : PHeap) : leH emp h := fun x ob h => by cases h
section
variable {c : Cx} {ops : Array Oper} {rest : List Oper} {k : List Item} {e : Env} {o o1 o2 r : List PHeap} {fl : List Nat} {f : List PHeap} {t : Plan}
/-- Two owned heaps become one. -/
theorem XK.cat (a b : PHeap) [ta : Take a o o1] [tb : Take b o1 o2] (h : leH a (cat a b) → leH b (cat a b) → XK c k e (cat a b :: o2) r) : XK c k e o r := fun D ds w0 w cs ha he hD hm => by
  have hp : (D :: o).Perm ([a, b] ++ (D :: o2)) := ((ta.pf.trans (tb.pf.cons a)).cons D).trans (by
    show (D :: a :: b :: o2).Perm (a :: b :: D :: o2)
    exact (List.Perm.swap _ _ _).trans ((List.Perm.swap _ _ _).cons _))
  have hs := hm.perm hp
  have hd : Disj a b := (List.pairwise_cons.1 hs.pw).1 b (by simp)
  exact h (cat_left a b) (cat_right hd) D ds w0 w cs ha he hD ((Sep.join hs).perm (List.Perm.swap _ _ _))
theorem XO.cat (a b : PHeap) [ta : Take a o o1] [tb : Take b o1 o2] (h : leH a (cat a b) → leH b (cat a b) → XO c ops rest k e (cat a b :: o2) r) : XO c ops rest k e o r := fun j hj hok D ds w0 w cs ha he hD hm => by
  have hp : (D :: o).Perm ([a, b] ++ (D :: o2)) := ((ta.pf.trans (tb.pf.cons a)).cons D).trans (by
    show (D :: a :: b :: o2).Perm (a :: b :: D :: o2)
    exact (List.Perm.swap _ _ _).trans ((List.Perm.swap _ _ _).cons _))
  have hs := hm.perm hp
  have hd : Disj a b := (List.pairwise_cons.1 hs.pw).1 b (by simp)
  exact h (cat_left a b) (cat_right hd) j hj hok D ds w0 w cs ha he hD ((Sep.join hs).perm (List.Perm.swap _ _ _))
end
/-- Under a guard that is known not to hold, nothing is done. -/
theorem Quiet.off {P : Program} {ops : Array Oper} {e : Env} {o r : List PHeap} {d : Option Tmp} {ty : TypeId} {pos : String} {aft : Array Edge} {op : Op} {j g : Nat} {want b : Bool}
    (hj : (ops[j]?).bind (·.dst) = some g) (hg : find e g = some (.bool b)) (hb : b ≠ want) : Quiet P ops ⟨d, op, ty, pos, aft, some (j, want)⟩ e o r undef := fun a w he _ => by
  refine .inr ⟨?_, rfl⟩
  rw [wanted_guard hj (he g _ hg)]
  simp [hb]
theorem XT.vcall {c : Cx} {ops : Array Oper} {fl : List Nat} {f : List PHeap} {k : List Item} {e : Env} {o r : List PHeap} {i0 d : Nat} {ty : TypeId} {pos : String} {aft : Array Edge} {bb : Bool} {tt uu : Plan}
    {x : Operand} {l : List Operand} {tys : Array TypeId} {y : Value} {vs : List Value} {Hm Hr : List PHeap} {R : Value → List PHeap → Prop} {o1 : List PHeap}
    (hi : ops[i0]? = some ⟨some d, .call ⟨.value x, l.toArray, tys⟩, ty, pos, aft, none⟩) (hok : okOper c.N ⟨some d, .call ⟨.value x, l.toArray, tys⟩, ty, pos, aft, none⟩ = true)
    (hx : ev e x = some y) (hl : evs e l = some vs) (hS : VSpec c.P y vs Hm Hr R) [t : Takes Hm o o1] [al : AllIn Hr o1 (c.B :: r)]
    (h : ∀ v hs, R v hs → Keeps bb f (hs ++ o1) ∧ XT c ops fl f k r tt ((d, some v) :: e) (hs ++ o1)) (hu : XT c ops fl f k r uu e o) :
    XT c ops fl f k r (.br i0 bb tt uu) e o := XT.s hi hok (Stp.vcall hx hl hS) (fun v o2 ⟨hs, hR, h2⟩ => by subst h2; exact h v hs hR) hu

/-- A heap that is one of two that are read. -/
class Either (x : PHeap) (a b : outParam PHeap) : Prop where
  pf : x = a ∨ x = b
instance (priority := low) InM.either (x a b : PHeap) (o r : List PHeap) [t : Either x a b] [ia : InM a o r] [ib : InM b o r] : InM x o r := ⟨t.pf.elim (fun h => h ▸ ia.pf) (fun h => h ▸ ib.pf)⟩
/-! ### iterators with fresh values -/
/-- It yields n times; K: all that it has yielded, to be read in the rounds, owned at the end; Hs: what the iterator itself holds. -/
def ItK (P : Program) (y : Value) (n : Nat) (Y : Nat → PHeap → List Value → Prop) (Hs Hg : List PHeap) : Prop :=
  ∀ (f : Value) (Hr : List PHeap) (Q : Nat → PHeap → PHeap → Prop) (X : PHeap → PHeap → Prop),
    (∀ i K K' q, leH K K' → Q i K q → Q i K' q) →
    (∀ i, i < n → ∀ K vs q, Y i K vs → Q i K q → VSpec P f vs [q] (K :: Hr) (fun v hs => ∃ b q', v = .bool b ∧ hs = [q'] ∧ (b = true → Q (i + 1) K q') ∧ (b = false → X K q'))) →
    ∀ q, Q 0 emp q → VSpec P y [f] (q :: Hs) (Hg ++ Hr) (fun _ hs => ∃ q' K, hs = [q', K] ∧ (Q n K q' ∨ X K q'))
theorem XK.rangeK {P : Program} {f : FuncId} {N : Nat} {B : PHeap} {E : Frame → World → Prop} {X : Type} {k : List Item} {e : Env} {o o1 ok r : List PHeap} {x : Operand} {y : Value} {ps : List Tmp} {asn bd : Code} {Hs Hg : List PHeap} {n : Nat} {Y : Nat → PHeap → List Value → Prop}
    (oc : X → List PHeap) (I : Nat → X → PHeap → Prop) (J : Code → X → PHeap → Prop) (x0 : X) (o0 : List PHeap) (hx : ev e x = some y) (hit : ItK P y n Y Hs Hg)
    [rst : Rest o0 o o1] [tk : Takes Hs o1 ok] (ho0 : oc x0 = o0) (hmono : ∀ i x K K', leH K K' → I i x K → I i x K') (h0 : I 0 x0 emp)
    [al : AllIn Hg ok (B :: r)] (hps : ps.all (fun p => Nat.blt p N) = true) (hlen : ∀ i K vs, Y i K vs → vs.length = ps.length)
    (round : ∀ l rec B' i x K vs, i < n → Y i K vs → I i x K → XK (rcx P f N l rec B' (RoundR oc (fun x => I (i + 1) x K) (fun j x => J j x K))) [.code asn, .beginRound, .code bd] (pars ps vs e) (rdy l rec :: oc x) (K :: (ok ++ r)))
    (cont : ∀ x K, I n x K → XK ⟨P, f, none, N, B, E⟩ k e (oc x ++ K :: ok) r)
    (jump : ∀ j x K, J j x K → XK ⟨P, f, none, N, B, E⟩ (.code j :: k) e (oc x ++ K :: ok) r) :
    XK ⟨P, f, none, N, B, E⟩ (.code (.rangeFunc x ps.toArray asn bd) :: k) e o r := fun D ds a w cs ha he hD hm => by
  have hm0 : Sep (D :: (o0 ++ o1)) (B :: r) w := rst.wk.sepD hm
  have hm1 : Sep (D :: (o0 ++ (Hs ++ ok))) (B :: r) w := hm0.perm ((tk.pf.append_left o0).cons D)
  let rec' : Loop := { state := .ready, pending := none, fn := f, tmps := a, params := ps.toArray, assign := asn, body := bd, defers := w.heap.size }
  let l := w.heap.size + 1
  let w1 := (w.alloc (.deferred (some []))).alloc (.loop rec')
  have henter : (Instr.enterLoop f a ps.toArray asn bd none).run P w = .ok (l, [{ target := .collected w.heap.size, args := #[] }]) w1 := run_enterLoop_outer f a ps.toArray asn bd
  have hs1 : Sep (rdy l rec' :: sing w.heap.size (.deferred (some [])) :: D :: (o0 ++ (Hs ++ ok))) (B :: r) w1 := by
    have := (hm1.push (.deferred (some []))).push (.loop rec')
    simp only [Array.size_push] at this
    exact this
  let D' := Go.X.join [sing w.heap.size (.deferred (some [])), D]
  have hs2 : Sep (D' :: rdy l rec' :: (o0 ++ (Hs ++ ok))) (B :: r) w1 := by
    refine Sep.join (hs := [sing w.heap.size (.deferred (some [])), D]) (hs1.perm ?_)
    exact (List.Perm.swap _ _ _).trans ((List.Perm.swap _ _ _).cons _)
  have hD' : Marked D' (w.heap.size :: ds) := by
    refine ⟨List.nodup_cons.2 ⟨fun hmem => ?_, hD.1⟩, fun b => ?_⟩
    · have := sub_lt (hm.so D List.mem_cons_self) (b := w.heap.size) (o := .deferred (some [])) (by rw [hD.2, if_pos hmem])
      omega
    · simp only [D', Go.X.join, sing, emp, Option.or_none, hD.2 b, List.mem_cons]
      by_cases hb : b = w.heap.size
      · simp [hb]
      · simp [hb]
  have hs3 : Sep ((Go.X.join (rdy l rec' :: o0) :: Hs) ++ (D' :: ok)) (B :: r) w1 := by
    refine (Sep.join (hs := rdy l rec' :: o0) (o := D' :: (Hs ++ ok)) (hs2.perm ?_)).perm ?_
    · show (D' :: ((rdy l rec' :: o0) ++ (Hs ++ ok))).Perm ((rdy l rec' :: o0) ++ D' :: (Hs ++ ok))
      exact List.perm_middle.symm
    · show (_ :: D' :: (Hs ++ ok)).Perm (_ :: (Hs ++ D' :: ok))
      exact List.perm_middle.symm.cons _
  have hp0 : PD (rdy l rec' :: oc x0) := by
    rw [ho0]
    have hsub : (rdy l rec' :: o0).Sublist (rdy l rec' :: (o0 ++ (Hs ++ ok))) := List.Sublist.cons_cons _ (List.sublist_append_left _ _)
    exact ⟨hs2.tail.pw.sublist hsub, fun h hh => hs2.tail.no h (hsub.mem hh)⟩
  have hpsN : ∀ p ∈ ps, p < N := fun p hp => by
    have := List.all_eq_true.1 hps p hp
    rwa [Nat.blt_eq] at this
  have hyield : ∀ i, i < n → ∀ K vs q, Y i K vs → (∃ x, I i x K ∧ PD (rdy l rec' :: oc x) ∧ q = Go.X.join (rdy l rec' :: oc x)) →
      VSpec P (.func (.yield l) #[] #[]) vs [q] (K :: (ok ++ r)) (fun v hs => ∃ b q', v = .bool b ∧ hs = [q'] ∧
        (b = true → ∃ x, I (i + 1) x K ∧ PD (rdy l rec' :: oc x) ∧ q' = Go.X.join (rdy l rec' :: oc x)) ∧
        (b = false → ∃ j x, J j x K ∧ PD (ovr l rec' (some j) :: oc x) ∧ q' = Go.X.join (ovr l rec' (some j) :: oc x))) := by
    rintro i hi K vs q hY ⟨x, hI, hp, rfl⟩
    refine ((VSpec.round (rec := rec') (N := N) (e := e) rfl ha he hpsN (hlen i K vs hY) (fun B' => round l rec' B' i x K vs hi hY hI)).joined hp).mono ?_
    rintro v hs ⟨hs', ⟨j, hs'', rfl, rfl, hR⟩, hpw, rfl⟩
    refine ⟨_, _, rfl, rfl, ?_, ?_⟩
    · intro hj
      cases j with
      | some j => cases hj
      | none =>
        obtain ⟨x', h1, rfl⟩ := hR
        exact ⟨x', h1, hpw, rfl⟩
    · intro hj
      cases j with
      | none => cases hj
      | some j =>
        obtain ⟨x', h1, rfl⟩ := hR
        exact ⟨j, x', h1, hpw, rfl⟩
  have hN := hit _ (ok ++ r) (fun i K q => ∃ x, I i x K ∧ PD (rdy l rec' :: oc x) ∧ q = Go.X.join (rdy l rec' :: oc x)) _ (fun i K K' q hle ⟨x, hI, h1⟩ => ⟨x, hmono i x K K' hle hI, h1⟩) hyield (Go.X.join (rdy l rec' :: o0)) ⟨x0, h0, hp0, by rw [ho0]⟩ (D' :: ok) (B :: r) w1 hs3 (fun h hh => by
    rcases List.mem_append.1 hh with hh | hh
    · exact orMap (al.pf h hh) (List.mem_cons_of_mem _) id
    · rcases List.mem_append.1 hh with hh | hh
      · exact .inl (List.mem_cons_of_mem _ hh)
      · exact .inr (List.mem_cons_of_mem _ hh))
  obtain ⟨v, w', ⟨hs', ⟨q', K, rfl, hq⟩, hS⟩, st⟩ := step_range (ds := marks ds) (k := k) (cs := cs) henter (ev_rel he hx) hN
  have hperm : ∀ g : List PHeap, (g ++ ([K] ++ (D' :: ok))).Perm (D' :: (g ++ K :: ok)) := fun g => by
    refine ((List.Perm.swap D' K ok).append_left g).trans ?_
    exact List.perm_middle
  rcases hq with ⟨x', hI, hpw, rfl⟩ | ⟨j, x', hJ, hpw, rfl⟩
  · obtain ⟨hS2, hb⟩ := Sep.turn (y := .loop { rec' with state := .exhausted, pending := none }) (Sep.split hpw hS)
    obtain ⟨fr, w2, hE, st2⟩ := cont x' K hI D' (w.heap.size :: ds) a _ cs ha he hD' (hS2.tail.perm (hperm _))
    exact ⟨fr, w2, hE, Steps.trans st (.head (step_endRange (run_endLoop hb (by simp))) st2)⟩
  · obtain ⟨hS2, hb⟩ := Sep.turn (y := .loop { rec' with state := .exhausted, pending := some j }) (Sep.split hpw hS)
    obtain ⟨fr, w2, hE, st2⟩ := jump j x' K hJ D' (w.heap.size :: ds) a _ cs ha he hD' (hS2.tail.perm (hperm _))
    exact ⟨fr, w2, hE, Steps.trans st (.head (step_endRange (run_endLoop hb (by simp))) st2)⟩
end Go.X

/- Literals under guards: made, or not. No condition. -/
set_option linter.unusedSimpArgs false
set_option linter.unusedVariables false
namespace Go.X
section
variable {P : Program} {ops : Array Oper} {e : Env} {o r : List PHeap} {d : Option Tmp} {ty : TypeId} {pos : String} {aft : Array Edge}
theorem Stp.tells {op : Op} {φ : Prop} {j g : Nat} {want : Bool} {Ψ : Value → List PHeap → Prop} (hj : (ops[j]?).bind (·.dst) = some g) (t : Tells e g want φ) (hp : φ)
    (s : Stp P ops ⟨d, op, ty, pos, aft, none⟩ e o r Ψ) : Stp P ops ⟨d, op, ty, pos, aft, some (j, want)⟩ e o r Ψ := fun D a w he hs => by
  have h := s D a w he hs
  have hw := t.yes (d := d) (ty := ty) (pos := pos) (aft := aft) (op := op) hj he hp
  have hx : execOp (evA a) (⟨d, op, ty, pos, aft, some (j, want)⟩ : Oper) = execOp (evA a) (⟨d, op, ty, pos, aft, none⟩ : Oper) := rfl
  unfold Does at h ⊢
  rw [hw, hx, if_pos rfl]
  rwa [if_pos (by simp [Region.wanted])] at h
theorem Stp.mono {x : Oper} {Ψ Ψ' : Value → List PHeap → Prop} (s : Stp P ops x e o r Ψ) (m : ∀ v o', Ψ v o' → Ψ' v o') : Stp P ops x e o r Ψ' := fun D a w he hs =>
  (s D a w he hs).mono fun v w' ⟨o2, ⟨o', h1, h2⟩, h3⟩ => ⟨o2, ⟨o', m _ _ h1, h2⟩, h3⟩
theorem Stp.litT {α : Type} {sz : Nat} {φ : Prop} {j g : Nat} {want : Bool}
    {t el : TypeId} [u : Und P t (.slice el)] [z : TySize P el sz] {zs : List Value} [zz : Zero P el zs] {n : Nat} {l : List (Nat × Operand)} (zl cs : List Value) (xs : List α) (enc : α → List Value)
    (hj : (ops[j]?).bind (·.dst) = some g) (t2 : Tells e g want φ)
    (hzs : zs.length = sz) (hsz : Nat.blt 0 sz = true) (hn : Nat.ble (n * sz) 16777216 = true) (hzl : (List.replicate n zs).flatten = zl) (hf : φ → Fill e (fun i => some (i * sz, sz)) l zl cs)
    (henc : ∀ x, (enc x).length = sz) (hcs : xs.flatMap enc = cs) (hxn : xs.length = n) (ho : φ → Ones cs) (hle : Nat.ble n 16777216 = true) :
    Stp P ops ⟨d, .buildSlice t n l.toArray, ty, pos, aft, some (j, want)⟩ e o r (fun v o2 => ∃ h, o2 = h :: o ∧ (φ → OArr v enc sz el h xs) ∧ (¬ φ → v = undef)) := by
  by_cases hp : φ
  · exact (Stp.tells hj t2 hp ((Makes.lit (t := t) (el := el) (zs := zs) cs hzs hsz hn (by rw [hzl]; exact hf hp)).stp _ _)).mono fun v o' ⟨b, hv, ho'⟩ =>
      ⟨_, ho', fun _ => by subst hv; exact OArr.lit xs enc henc hcs hxn (ho hp) hle, fun hn => absurd hp hn⟩
  · intro D a w he hs
    unfold Does
    rw [t2.no hj he hp, if_neg (by decide)]
    exact ⟨emp :: D :: o, ⟨emp :: o, ⟨emp, rfl, fun h => absurd h hp, fun _ => rfl⟩, List.Perm.swap _ _ _⟩, hs.emp 1⟩
end
section
variable {c : Cx} {ops : Array Oper} {rest : List Oper} {k : List Item} {e : Env} {o r : List PHeap} {d : Nat} {ty : TypeId} {pos : String} {aft : Array Edge}
variable {fl : List Nat} {f : List PHeap} {i0 : Nat} {bb : Bool} {tt uu : Plan}
variable {α : Type} {sz : Nat} {j g : Nat} {want b b1 w1 : Bool} {t el : TypeId} [u : Und c.P t (.slice el)] [z : TySize c.P el sz] {zs : List Value} [zz : Zero c.P el zs] {n : Nat} {l : List (Nat × Operand)} (zl cs : List Value) (xs : List α) (enc : α → List Value)
theorem lz_of {b w : Bool} {v : Value} (h : ¬ b = w → v = undef) : v = lz b w v := by
  unfold lz
  split
  · rfl
  · exact h ‹_›
theorem lz_of2 {b1 w1 b w : Bool} {v : Value} (h : ¬ (b1 = w1 ∧ b = w) → v = undef) : v = lz b1 w1 (lz b w v) := by
  unfold lz
  split
  · split
    · rfl
    · exact h (fun hh => by rename_i h2; exact h2 hh.2)
  · exact h (fun hh => by rename_i h2; exact h2 hh.1)
theorem XO.lit1 (hj : (ops[j]?).bind (·.dst) = some g) (hg : find e g = some (.bool b))
    (hzs : zs.length = sz) (hsz : Nat.blt 0 sz = true) (hn : Nat.ble (n * sz) 16777216 = true) (hzl : (List.replicate n zs).flatten = zl) (hf : b = want → Fill e (fun i => some (i * sz, sz)) l zl cs)
    (henc : ∀ x, (enc x).length = sz) (hcs : xs.flatMap enc = cs) (hxn : xs.length = n) (ho : b = want → Ones cs) (hle : Nat.ble n 16777216 = true)
    (hnx : ∀ v' h', (b = want → OArr v' enc sz el h' xs) → XO c ops rest k ((d, some (lz b want v')) :: e) (h' :: o) r) :
    XO c ops (⟨some d, .buildSlice t n l.toArray, ty, pos, aft, some (j, want)⟩ :: rest) k e o r :=
  XO.s (Stp.litT zl cs xs enc hj (.d1 hg) hzs hsz hn hzl hf henc hcs hxn ho hle) fun v o2 ⟨h, h1, h2, h3⟩ => by
    subst h1
    have := hnx v h h2
    rwa [← lz_of h3] at this
theorem XO.lit2 (hj : (ops[j]?).bind (·.dst) = some g) (hg : find e g = some (lz b1 w1 (.bool b)))
    (hzs : zs.length = sz) (hsz : Nat.blt 0 sz = true) (hn : Nat.ble (n * sz) 16777216 = true) (hzl : (List.replicate n zs).flatten = zl) (hf : b1 = w1 → b = want → Fill e (fun i => some (i * sz, sz)) l zl cs)
    (henc : ∀ x, (enc x).length = sz) (hcs : xs.flatMap enc = cs) (hxn : xs.length = n) (ho : b1 = w1 → b = want → Ones cs) (hle : Nat.ble n 16777216 = true)
    (hnx : ∀ v' h', (b1 = w1 → b = want → OArr v' enc sz el h' xs) → XO c ops rest k ((d, some (lz b1 w1 (lz b want v'))) :: e) (h' :: o) r) :
    XO c ops (⟨some d, .buildSlice t n l.toArray, ty, pos, aft, some (j, want)⟩ :: rest) k e o r :=
  XO.s (Stp.litT zl cs xs enc hj (.d2 hg) hzs hsz hn hzl (fun h => hf h.1 h.2) henc hcs hxn (fun h => ho h.1 h.2) hle) fun v o2 ⟨h, h1, h2, h3⟩ => by
    subst h1
    have := hnx v h (fun a b => h2 ⟨a, b⟩)
    rwa [← lz_of2 h3] at this
theorem XT.lit1 (hi : ops[i0]? = some ⟨some d, .buildSlice t n l.toArray, ty, pos, aft, some (j, want)⟩) (hok : okOper c.N ⟨some d, .buildSlice t n l.toArray, ty, pos, aft, some (j, want)⟩ = true)
    (hj : (ops[j]?).bind (·.dst) = some g) (hg : find e g = some (.bool b))
    (hzs : zs.length = sz) (hsz : Nat.blt 0 sz = true) (hn : Nat.ble (n * sz) 16777216 = true) (hzl : (List.replicate n zs).flatten = zl) (hf : b = want → Fill e (fun i => some (i * sz, sz)) l zl cs)
    (henc : ∀ x, (enc x).length = sz) (hcs : xs.flatMap enc = cs) (hxn : xs.length = n) (ho : b = want → Ones cs) (hle : Nat.ble n 16777216 = true)
    (hnx : ∀ v' h', (b = want → OArr v' enc sz el h' xs) → Keeps bb f (h' :: o) ∧ XT c ops fl f k r tt ((d, some (lz b want v')) :: e) (h' :: o)) (hu : XT c ops fl f k r uu e o) : XT c ops fl f k r (.br i0 bb tt uu) e o :=
  XT.s hi hok (Stp.litT zl cs xs enc hj (.d1 hg) hzs hsz hn hzl hf henc hcs hxn ho hle) (fun v o2 ⟨h, h1, h2, h3⟩ => by
    subst h1
    have := hnx v h h2
    rwa [← lz_of h3] at this) hu
theorem XT.lit2 (hi : ops[i0]? = some ⟨some d, .buildSlice t n l.toArray, ty, pos, aft, some (j, want)⟩) (hok : okOper c.N ⟨some d, .buildSlice t n l.toArray, ty, pos, aft, some (j, want)⟩ = true)
    (hj : (ops[j]?).bind (·.dst) = some g) (hg : find e g = some (lz b1 w1 (.bool b)))
    (hzs : zs.length = sz) (hsz : Nat.blt 0 sz = true) (hn : Nat.ble (n * sz) 16777216 = true) (hzl : (List.replicate n zs).flatten = zl) (hf : b1 = w1 → b = want → Fill e (fun i => some (i * sz, sz)) l zl cs)
    (henc : ∀ x, (enc x).length = sz) (hcs : xs.flatMap enc = cs) (hxn : xs.length = n) (ho : b1 = w1 → b = want → Ones cs) (hle : Nat.ble n 16777216 = true)
    (hnx : ∀ v' h', (b1 = w1 → b = want → OArr v' enc sz el h' xs) → Keeps bb f (h' :: o) ∧ XT c ops fl f k r tt ((d, some (lz b1 w1 (lz b want v'))) :: e) (h' :: o)) (hu : XT c ops fl f k r uu e o) : XT c ops fl f k r (.br i0 bb tt uu) e o :=
  XT.s hi hok (Stp.litT zl cs xs enc hj (.d2 hg) hzs hsz hn hzl (fun h => hf h.1 h.2) henc hcs hxn (fun h => ho h.1 h.2) hle) (fun v o2 ⟨h, h1, h2, h3⟩ => by
    subst h1
    have := hnx v h (fun a b => h2 ⟨a, b⟩)
    rwa [← lz_of2 h3] at this) hu
end
end Go.X

/- Plain facts on lists. No condition. -/
set_option linter.unusedVariables false
namespace Go.X
theorem take_step {α : Type} [Inhabited α] {xs ys : List α} {i : Nat} (h : xs.take i = ys.take i) (hx : i < xs.length) (hy : i < ys.length) (he : xs.getD i default = ys.getD i default) : xs.take (i + 1) = ys.take (i + 1) := by
  rw [List.take_succ_eq_append_getElem hx, List.take_succ_eq_append_getElem hy, h]
  simp [hx, hy] at he
  rw [he]
theorem take_all {α : Type} {xs ys : List α} {i : Nat} (h : xs.take i = ys.take i) (hx : ¬ (i : Int) < xs.length) (hl : xs.length = ys.length) : xs = ys := by
  rw [List.take_of_length_le (by omega), List.take_of_length_le (by omega)] at h
  exact h
theorem getD_mem {α : Type} [Inhabited α] {xs : List α} {i : Nat} (h : i < xs.length) : xs.getD i default ∈ xs := by
  simp [h]
/-- The first place that a test takes; -1 if there is none. -/
def findFirst {α : Type} (p : α → Bool) (xs : List α) : Int := match xs.findIdx? p with
  | some i => i
  | none => -1
theorem any_step {α : Type} [Inhabited α] {p : α → Bool} {xs : List α} {i : Nat} (h : (xs.take i).any p = false) (hx : i < xs.length) (hp : p (xs.getD i default) = false) : (xs.take (i + 1)).any p = false := by
  rw [List.take_succ_eq_append_getElem hx, List.any_append, h]
  simp [hx] at hp
  simp [hp]
theorem findFirst_here {α : Type} [Inhabited α] {p : α → Bool} {xs : List α} {i : Nat} (h : (xs.take i).any p = false) (hx : i < xs.length) (hp : p (xs.getD i default) = true) : findFirst p xs = i := by
  unfold findFirst
  have : xs.findIdx? p = some i := by
    rw [List.findIdx?_eq_some_iff_getElem]
    simp [hx] at hp
    refine ⟨hx, hp, fun j hj => ?_⟩
    have := List.any_eq_false.1 h xs[j] (by rw [List.mem_take_iff_getElem]; exact ⟨j, by omega, rfl⟩)
    simpa using this
  rw [this]
theorem findFirst_none {α : Type} {p : α → Bool} {xs : List α} {i : Nat} (h : (xs.take i).any p = false) (hx : ¬ (i : Int) < xs.length) : findFirst p xs = -1 := by
  rw [List.take_of_length_le (by omega)] at h
  unfold findFirst
  have : xs.findIdx? p = none := by
    rw [List.findIdx?_eq_none_iff]
    intro x hx
    have := List.any_eq_false.1 h x hx
    simpa using this
  rw [this]
theorem findFirst_any {α : Type} {p : α → Bool} {xs : List α} : decide ((0 : Int) ≤ findFirst p xs) = xs.any p := by
  unfold findFirst
  cases h : xs.findIdx? p with
  | none =>
    rw [List.findIdx?_eq_none_iff] at h
    have : xs.any p = false := List.any_eq_false.2 (fun x hx => by simp [h x hx])
    simp [this]
  | some i =>
    rw [List.findIdx?_eq_some_iff_getElem] at h
    obtain ⟨hi, hp, _⟩ := h
    have : xs.any p = true := List.any_eq_true.2 ⟨xs[i], List.getElem_mem hi, hp⟩
    simp only [this, decide_eq_true_eq]
    omega
end Go.X

/- Halls, in plain numbers and lists. No condition. -/
set_option linter.unusedVariables false
namespace Go.X
structure HRoom where
  store : Int
  limit : Int
structure HWall where
  a : Int
  b : Int
  pass : Int
structure HBranch where
  up : Int
  opn : Int
  leak : Int
structure HCooler where
  room : Int
  br : Int
  gain : Int
  carry : Int
  supply : Int
instance : Inhabited HRoom := ⟨⟨0, 0⟩⟩
instance : Inhabited HWall := ⟨⟨0, 0, 0⟩⟩
instance : Inhabited HBranch := ⟨⟨0, 0, 0⟩⟩
instance : Inhabited HCooler := ⟨⟨0, 0, 0, 0, 0⟩⟩
structure Hall where
  rooms : List HRoom
  walls : List HWall
  branches : List HBranch
  coolers : List HCooler
structure HCase where
  load : List Int
  out : Int
  pump : Int
def sumTo (f : Nat → Int) : Nat → Int
  | 0 => 0
  | n + 1 => sumTo f n + f n
/-- All of the first n. -/
def allTo (p : Nat → Bool) (n : Nat) : Bool := (List.range n).all p
theorem allTo_succ {p : Nat → Bool} {n : Nat} : allTo p (n + 1) = (allTo p n && p n) := by
  unfold allTo; rw [List.range_succ, List.all_append]; simp
theorem allTo_false {p : Nat → Bool} {n s : Nat} (hs : s < n) (h : p s = false) : allTo p n = false := by
  unfold allTo
  rw [List.all_eq_false]
  exact ⟨s, List.mem_range.2 hs, by simp [h]⟩
theorem allTo_at {p : Nat → Bool} {n s : Nat} (h : allTo p n = true) (hs : s < n) : p s = true := by
  unfold allTo at h
  rw [List.all_eq_true] at h
  exact h s (List.mem_range.2 hs)
def wslope (h : Hall) (i : Nat) (k : Nat) : Int := if (h.walls.getD k default).a = i ∨ (h.walls.getD k default).b = i then (h.walls.getD k default).pass else 0
def cslope (h : Hall) (i : Nat) (k : Nat) : Int := if (h.coolers.getD k default).room = i then (h.coolers.getD k default).gain else 0
def slope (h : Hall) (i : Nat) : Int := sumTo (wslope h i) h.walls.length + sumTo (cslope h i) h.coolers.length
/-- What is known of a valid hall. -/
structure HOk (h : Hall) : Prop where
  r1 : 1 ≤ h.rooms.length
  r2 : h.rooms.length ≤ 8
  w2 : h.walls.length ≤ 16
  b2 : h.branches.length ≤ 16
  c2 : h.coolers.length ≤ 16
  room : ∀ i, i < h.rooms.length → 1 ≤ (h.rooms.getD i default).store ∧ (h.rooms.getD i default).store ≤ 1000000 ∧ 0 ≤ (h.rooms.getD i default).limit ∧ (h.rooms.getD i default).limit ≤ 1000000
  wall : ∀ i, i < h.walls.length → (0 ≤ (h.walls.getD i default).a ∧ (h.walls.getD i default).a < h.rooms.length) ∧ ((h.walls.getD i default).b = -1 ∨ (0 ≤ (h.walls.getD i default).b ∧ (h.walls.getD i default).b < h.rooms.length)) ∧
    (h.walls.getD i default).a ≠ (h.walls.getD i default).b ∧ 0 ≤ (h.walls.getD i default).pass ∧ (h.walls.getD i default).pass ≤ 100000
  branch : ∀ i, i < h.branches.length → (if i = 0 then (h.branches.getD i default).up = -1 else 0 ≤ (h.branches.getD i default).up ∧ (h.branches.getD i default).up < i) ∧ (0 ≤ (h.branches.getD i default).opn ∧ (h.branches.getD i default).opn ≤ 100) ∧
    0 ≤ (h.branches.getD i default).leak ∧ (h.branches.getD i default).leak ≤ 100000
  cooler : ∀ i, i < h.coolers.length → (0 ≤ (h.coolers.getD i default).room ∧ (h.coolers.getD i default).room < h.rooms.length) ∧ (0 ≤ (h.coolers.getD i default).br ∧ (h.coolers.getD i default).br < h.branches.length) ∧
    (0 ≤ (h.coolers.getD i default).gain ∧ (h.coolers.getD i default).gain ≤ 100000) ∧ (0 ≤ (h.coolers.getD i default).carry ∧ (h.coolers.getD i default).carry ≤ 1000) ∧ 0 ≤ (h.coolers.getD i default).supply ∧ (h.coolers.getD i default).supply ≤ 1000000
  slope : ∀ i, i < h.rooms.length → X.slope h i ≤ (h.rooms.getD i default).store
structure TOk (h : Hall) (t : List Int) : Prop where
  len : t.length = h.rooms.length
  rng : ∀ i, i < t.length → 0 ≤ t.getD i 0 ∧ t.getD i 0 ≤ 1000000
structure COk (h : Hall) (c : HCase) : Prop where
  len : c.load.length = h.rooms.length
  rng : ∀ i, i < c.load.length → 0 ≤ c.load.getD i 0 ∧ c.load.getD i 0 ≤ 10000000
  out : 0 ≤ c.out ∧ c.out ≤ 1000000
  pump : 0 ≤ c.pump ∧ c.pump ≤ 100000
end Go.X

/- Flows: what a branch has; below which branch it hangs. No condition. -/
set_option linter.unusedVariables false
namespace Go.X
theorem sum_nonneg {f : Nat → Int} : ∀ {n : Nat}, (∀ k, k < n → 0 ≤ f k) → 0 ≤ sumTo f n
  | 0, _ => Int.le_refl _
  | n + 1, h => by
    have h1 := sum_nonneg (f := f) (n := n) fun k hk => h k (by omega)
    have h2 := h n (by omega)
    rw [sumTo]; omega
theorem sum_mono {f g : Nat → Int} : ∀ {n : Nat}, (∀ k, k < n → f k ≤ g k) → sumTo f n ≤ sumTo g n
  | 0, _ => Int.le_refl _
  | n + 1, h => by
    have h1 := sum_mono (f := f) (g := g) (n := n) fun k hk => h k (by omega)
    have h2 := h n (by omega)
    rw [sumTo, sumTo]; omega
theorem sum_congr {f g : Nat → Int} : ∀ {n : Nat}, (∀ k, k < n → f k = g k) → sumTo f n = sumTo g n
  | 0, _ => rfl
  | n + 1, h => by rw [sumTo, sumTo, sum_congr fun k hk => h k (by omega), h n (by omega)]
theorem sum_le {f : Nat → Int} {M : Int} : ∀ {n : Nat}, (∀ k, k < n → f k ≤ M) → sumTo f n ≤ n * M
  | 0, _ => by simp [sumTo]
  | n + 1, h => by
    have h1 := sum_le (f := f) (n := n) (M := M) fun k hk => h k (by omega)
    have h2 := h n (by omega)
    have h3 : ((n + 1 : Nat) : Int) * M = n * M + M := by rw [Int.natCast_add, Int.add_mul]; simp
    rw [sumTo, h3]; omega
theorem sum_part {f : Nat → Int} {n m : Nat} (h : m ≤ n) (hf : ∀ k, k < n → 0 ≤ f k) : sumTo f m ≤ sumTo f n := by
  induction n with
  | zero => rw [show m = 0 by omega]; exact Int.le_refl _
  | succ n ih =>
    rcases Nat.lt_or_ge m (n + 1) with h1 | h1
    · have h2 := ih (by omega) fun k hk => hf k (by omega)
      have h3 := hf n (by omega)
      rw [sumTo]; omega
    · rw [show m = n + 1 by omega]; exact Int.le_refl _
theorem sum_one {f : Nat → Int} {n k : Nat} (h : k < n) (hf : ∀ k, k < n → 0 ≤ f k) : f k ≤ sumTo f n := by
  have h1 := sum_part (f := f) (n := n) (m := k + 1) (by omega) hf
  have h2 := sum_nonneg (f := f) (n := k) fun j hj => hf j (by omega)
  rw [sumTo] at h1; omega
section
variable {h : Hall} (ok : HOk h)
include ok
theorem up_of {i : Nat} (hi : i < h.branches.length) (h0 : i ≠ 0) : 0 ≤ (h.branches.getD i default).up ∧ (h.branches.getD i default).up < i := by
  have := (ok.branch i hi).1
  rw [if_neg h0] at this
  exact this
omit ok in
end
/-- i is j, or j hangs on it, directly or not. -/
inductive Sub (h : Hall) : Nat → Nat → Prop
  | self (i : Nat) : Sub h i i
  | step {i j : Nat} (hj : j < h.branches.length) (h0 : j ≠ 0) (s : Sub h i (h.branches.getD j default).up.toNat) : Sub h i j
section
variable {h : Hall} (ok : HOk h)
include ok
theorem Sub.le {i j : Nat} (s : Sub h i j) : i ≤ j := by
  induction s with
  | self => exact Nat.le_refl _
  | step hj h0 s ih =>
    have := up_of ok hj h0
    omega
omit ok in
theorem Sub.chain {a b j : Nat} (s : Sub h a j) : Sub h b j → Sub h a b ∨ Sub h b a := by
  induction s with
  | self => intro t; exact .inr t
  | step hj h0 s ih =>
    intro t
    cases t with
    | self => exact .inl (.step hj h0 s)
    | step hj' h0' t => exact ih t
theorem Sub.one {c d i j : Nat} (s : Sub h c j) (t : Sub h d j) (hc : c < h.branches.length) (hd : d < h.branches.length) (hc0 : c ≠ 0) (hd0 : d ≠ 0) (uc : (h.branches.getD c default).up = i) (ud : (h.branches.getD d default).up = i) : c = d := by
  have h1 := up_of ok hc hc0
  have h2 := up_of ok hd hd0
  rcases s.chain t with h3 | h3
  · cases h3 with
    | self => rfl
    | step hj h0 h4 =>
      have := h4.le ok
      omega
  · cases h3 with
    | self => rfl
    | step hj h0 h4 =>
      have := h4.le ok
      omega
theorem Sub.split {i j : Nat} (s : Sub h i j) : i = j ∨ ∃ c, c < h.branches.length ∧ c ≠ 0 ∧ (h.branches.getD c default).up = i ∧ Sub h c j := by
  induction s with
  | self => exact .inl rfl
  | @step j hj h0 s ih =>
    right
    have h1 := up_of ok hj h0
    rcases ih with h2 | ⟨c, a, b, d, e⟩
    · exact ⟨j, hj, h0, by omega, .self j⟩
    · exact ⟨c, a, b, d, .step hj h0 e⟩
omit ok in
theorem Sub.under {i c j : Nat} (hc : c < h.branches.length) (h0 : c ≠ 0) (u : (h.branches.getD c default).up = i) (s : Sub h c j) : Sub h i j := by
  induction s with
  | self => exact .step hc h0 (by rw [u]; simpa using Sub.self i)
  | step hj h0 s ih => exact .step hj h0 ih
end
end Go.X

/- Trees of meters, in plain numbers and lists. No condition. -/
set_option linter.unusedVariables false
namespace Go.X
structure MNode where
  up : Int
  low : Int
  high : Int
deriving DecidableEq
instance : Inhabited MNode := ⟨⟨0, 0, 0⟩⟩
structure Iv where
  first : Int
  last : Int
deriving DecidableEq
instance : Inhabited Iv := ⟨⟨0, 0⟩⟩
structure MCase where
  nodes : List MNode
  vals : List Int
/-- A number outside 0 .. m. -/
def outP (m n : Int) : Bool := decide (n < 0) || decide (m < n)
def inA (m : Int) (l : List Int) : Bool := !(l.any (outP m))
theorem outP_false {m n : Int} : outP m n = false ↔ 0 ≤ n ∧ n ≤ m := by
  unfold outP
  rw [Bool.or_eq_false_iff, decide_eq_false_iff_not, decide_eq_false_iff_not]; omega
theorem inA_one {m n : Int} : inA m [n] = true ↔ 0 ≤ n ∧ n ≤ m := by
  unfold inA
  rw [Bool.not_eq_true', List.any_cons, List.any_nil, Bool.or_false, outP_false]
theorem inA_two {m a b : Int} : inA m [a, b] = true ↔ (0 ≤ a ∧ a ≤ m) ∧ (0 ≤ b ∧ b ≤ m) := by
  unfold inA
  rw [Bool.not_eq_true', List.any_cons, List.any_cons, List.any_nil, Bool.or_false, Bool.or_eq_false_iff, outP_false, outP_false]
theorem inA_iff {m : Int} {l : List Int} : inA m l = true ↔ ∀ x ∈ l, 0 ≤ x ∧ x ≤ m := by
  unfold inA
  rw [Bool.not_eq_true', List.any_eq_false]
  exact ⟨fun h x hx => outP_false.1 (by simpa using h x hx), fun h x hx => by rw [outP_false.2 (h x hx)]; decide⟩
def badNode (c : MCase) (i : Nat) : Prop := ((¬ inA 1000000000 [(c.nodes.getD i default).high, c.vals.getD i 0] = true ∨ ¬ inA (c.nodes.getD i default).high [(c.nodes.getD i default).low] = true) ∨ (i : Int) = 0 ∧ (c.nodes.getD i default).up ≠ -1) ∨ (0 : Int) < i ∧ ¬ inA ((i : Int) - 1) [(c.nodes.getD i default).up] = true
instance (c : MCase) (i : Nat) : Decidable (badNode c i) := by unfold badNode; infer_instance
def nodesOk (c : MCase) (n : Nat) : Bool := allTo (fun i => !decide (badNode c i)) n
def mcheck (c : MCase) : Int :=
  if (c.nodes.length : Int) < 1 ∨ (14 : Int) < c.nodes.length then 2 else if (c.vals.length : Int) ≠ c.nodes.length then 1 else if nodesOk c c.nodes.length = true then 0 else 6
structure MOk (c : MCase) : Prop where
  n1 : 1 ≤ c.nodes.length
  n2 : c.nodes.length ≤ 14
  vl : c.vals.length = c.nodes.length
  node : ∀ i, i < c.nodes.length → (0 ≤ (c.nodes.getD i default).high ∧ (c.nodes.getD i default).high ≤ 1000000000) ∧ (0 ≤ c.vals.getD i 0 ∧ c.vals.getD i 0 ≤ 1000000000) ∧ (0 ≤ (c.nodes.getD i default).low ∧ (c.nodes.getD i default).low ≤ (c.nodes.getD i default).high) ∧
    (i = 0 → (c.nodes.getD i default).up = -1) ∧ (0 < i → 0 ≤ (c.nodes.getD i default).up ∧ (c.nodes.getD i default).up < i)
theorem good_node {c : MCase} {i : Nat} : ¬ badNode c i ↔ (0 ≤ (c.nodes.getD i default).high ∧ (c.nodes.getD i default).high ≤ 1000000000) ∧ (0 ≤ c.vals.getD i 0 ∧ c.vals.getD i 0 ≤ 1000000000) ∧ (0 ≤ (c.nodes.getD i default).low ∧ (c.nodes.getD i default).low ≤ (c.nodes.getD i default).high) ∧
    (i = 0 → (c.nodes.getD i default).up = -1) ∧ (0 < i → 0 ≤ (c.nodes.getD i default).up ∧ (c.nodes.getD i default).up < i) := by
  unfold badNode
  rw [inA_two, inA_one, inA_one]
  constructor
  · intro h
    refine ⟨by omega, by omega, by omega, by omega, by omega⟩
  · rintro ⟨h1, h2, h3, h4, h5⟩
    omega
theorem mcheck_ok {c : MCase} (h : mcheck c = 0) : MOk c := by
  unfold mcheck at h
  split at h
  · cases h
  · split at h
    · cases h
    · split at h
      · rename_i h1 h2 h3
        refine ⟨by omega, by omega, by omega, fun i hi => good_node.1 ?_⟩
        have := allTo_at h3 hi
        simpa using this
      · cases h
theorem mok_check {c : MCase} (m : MOk c) : mcheck c = 0 := by
  have h1 := m.n1
  have h2 := m.n2
  have h3 := m.vl
  unfold mcheck
  rw [if_neg (by omega), if_neg (by omega), if_pos]
  unfold nodesOk allTo
  rw [List.all_eq_true]
  intro i hi
  have := good_node.2 (m.node i (List.mem_range.1 hi))
  simpa using this
/-! ### sons -/
def sonsTo (c : MCase) (i : Int) : Nat → List Nat
  | 0 => []
  | n + 1 => if (c.nodes.getD n default).up = i then sonsTo c i n ++ [n] else sonsTo c i n
def sonsN (c : MCase) (i : Nat) : List Nat := sonsTo c i c.nodes.length
def ints (l : List Nat) : List Int := l.map fun (k : Nat) => (k : Int)
theorem ints_len {l : List Nat} : (ints l).length = l.length := by simp [ints]
theorem ints_snoc {l : List Nat} {k : Nat} : ints (l ++ [k]) = ints l ++ [(k : Int)] := by simp [ints]
theorem ints_at {l : List Nat} {j : Nat} (hj : j < l.length) : (ints l).getD j default = ((l.getD j 0 : Nat) : Int) := by
  unfold ints
  rw [List.getD_eq_getElem?_getD, List.getElem?_eq_getElem (by simpa using hj), List.getD_eq_getElem?_getD, List.getElem?_eq_getElem hj]; simp
theorem sonsTo_mem {c : MCase} {i : Int} {k : Nat} : ∀ {n}, k ∈ sonsTo c i n ↔ k < n ∧ (c.nodes.getD k default).up = i
  | 0 => by simp [sonsTo]
  | n + 1 => by
    rw [sonsTo]
    split
    · rename_i h
      rw [List.mem_append, sonsTo_mem, List.mem_singleton]
      constructor
      · rintro (⟨h1, h2⟩ | rfl)
        · exact ⟨by omega, h2⟩
        · exact ⟨by omega, h⟩
      · rintro ⟨h1, h2⟩
        by_cases hk : k = n
        · exact .inr hk
        · exact .inl ⟨by omega, h2⟩
    · rename_i h
      rw [sonsTo_mem]
      constructor
      · rintro ⟨h1, h2⟩; exact ⟨by omega, h2⟩
      · rintro ⟨h1, h2⟩
        refine ⟨?_, h2⟩
        rcases Nat.lt_or_ge k n with h3 | h3
        · exact h3
        · rw [show k = n by omega] at h2; exact absurd h2 h
theorem sonsTo_len {c : MCase} {i : Int} : ∀ {n}, (sonsTo c i n).length ≤ n
  | 0 => by simp [sonsTo]
  | n + 1 => by
    have := sonsTo_len (c := c) (i := i) (n := n)
    rw [sonsTo]
    split
    · rw [List.length_append]; simp; omega
    · omega
theorem getD_mem0 {l : List Nat} {j : Nat} (hj : j < l.length) : l.getD j 0 ∈ l := by
  rw [List.getD_eq_getElem?_getD, List.getElem?_eq_getElem hj]; exact List.getElem_mem hj
theorem MOk.son {c : MCase} (ok : MOk c) {i k : Nat} (h : k ∈ sonsN c i) : k < c.nodes.length ∧ i < k ∧ (c.nodes.getD k default).up = (i : Int) := by
  obtain ⟨h1, h2⟩ := sonsTo_mem.1 h
  obtain ⟨_, _, _, h3, h4⟩ := ok.node k h1
  refine ⟨h1, ?_, h2⟩
  rcases Nat.eq_zero_or_pos k with hk | hk
  · have := h3 hk; omega
  · have := h4 hk; omega
/-! ### what nodes may have -/
def ownIv (c : MCase) (set : List Int) (i : Nat) : Iv := if set.any (fun y => decide ((i : Int) = y)) = true then ⟨0, 1000000000⟩ else ⟨c.vals.getD i 0, c.vals.getD i 0⟩
def mayF (c : MCase) (set : List Int) : Nat → Nat → Iv
  | 0, _ => default
  | f + 1, i =>
    if 0 < (sonsN c i).length then
      ⟨max (ownIv c set i).first (sumTo (fun q => (mayF c set f ((sonsN c i).getD q 0)).first) (sonsN c i).length + (c.nodes.getD i default).low),
        min (ownIv c set i).last (sumTo (fun q => (mayF c set f ((sonsN c i).getD q 0)).last) (sonsN c i).length + (c.nodes.getD i default).high)⟩
    else ownIv c set i
def okF (c : MCase) (set : List Int) : Nat → Nat → Bool
  | 0, _ => false
  | f + 1, i => allTo (fun q => okF c set f ((sonsN c i).getD q 0)) (sonsN c i).length && !decide ((mayF c set (f + 1) i).last < (mayF c set (f + 1) i).first)
def mayI (c : MCase) (set : List Int) (i : Nat) : Iv := mayF c set (c.nodes.length - i) i
def okN (c : MCase) (set : List Int) (i : Nat) : Bool := okF c set (c.nodes.length - i) i
theorem mayF_fuel {c : MCase} (ok : MOk c) (set : List Int) : ∀ f g i, i < c.nodes.length → c.nodes.length - i ≤ f → c.nodes.length - i ≤ g → mayF c set f i = mayF c set g i
  | 0, g, i, hi, h1, _ => by omega
  | f + 1, 0, i, hi, _, h2 => by omega
  | f + 1, g + 1, i, hi, h1, h2 => by
    have hs : ∀ q, q < (sonsN c i).length → mayF c set f ((sonsN c i).getD q 0) = mayF c set g ((sonsN c i).getD q 0) := fun q hq => by
      obtain ⟨a, b, _⟩ := ok.son (getD_mem0 hq)
      exact mayF_fuel ok set f g _ a (by omega) (by omega)
    rw [mayF, mayF, sum_congr (fun q hq => by rw [hs q hq]), sum_congr (f := fun q => (mayF c set f ((sonsN c i).getD q 0)).last) (fun q hq => by rw [hs q hq])]
theorem allTo_congr {p q : Nat → Bool} {n : Nat} (h : ∀ k, k < n → p k = q k) : allTo p n = allTo q n := by
  unfold allTo
  rw [Bool.eq_iff_iff, List.all_eq_true, List.all_eq_true]
  exact ⟨fun hp k hk => by rw [← h k (List.mem_range.1 hk)]; exact hp k hk, fun hp k hk => by rw [h k (List.mem_range.1 hk)]; exact hp k hk⟩
theorem okF_fuel {c : MCase} (ok : MOk c) (set : List Int) : ∀ f g i, i < c.nodes.length → c.nodes.length - i ≤ f → c.nodes.length - i ≤ g → okF c set f i = okF c set g i
  | 0, g, i, hi, h1, _ => by omega
  | f + 1, 0, i, hi, _, h2 => by omega
  | f + 1, g + 1, i, hi, h1, h2 => by
    rw [okF, okF, mayF_fuel ok set (f + 1) (g + 1) i hi h1 h2, allTo_congr fun q hq => by
      obtain ⟨a, b, _⟩ := ok.son (getD_mem0 hq)
      exact okF_fuel ok set f g _ a (by omega) (by omega)]
theorem allTo_true {p : Nat → Bool} {n : Nat} (h : ∀ q, q < n → p q = true) : allTo p n = true := by
  unfold allTo
  rw [List.all_eq_true]
  exact fun q hq => h q (List.mem_range.1 hq)
def sumFirst (c : MCase) (set : List Int) (i n : Nat) : Int := sumTo (fun q => (mayI c set ((sonsN c i).getD q 0)).first) n
def sumLast (c : MCase) (set : List Int) (i n : Nat) : Int := sumTo (fun q => (mayI c set ((sonsN c i).getD q 0)).last) n
theorem may_eq {c : MCase} (ok : MOk c) (set : List Int) {i : Nat} (hi : i < c.nodes.length) : mayI c set i = if 0 < (sonsN c i).length then
      ⟨max (ownIv c set i).first (sumFirst c set i (sonsN c i).length + (c.nodes.getD i default).low), min (ownIv c set i).last (sumLast c set i (sonsN c i).length + (c.nodes.getD i default).high)⟩
    else ownIv c set i := by
  obtain ⟨f, hf⟩ : ∃ f, c.nodes.length - i = f + 1 := ⟨c.nodes.length - i - 1, by omega⟩
  have hs : ∀ q, q < (sonsN c i).length → mayF c set f ((sonsN c i).getD q 0) = mayI c set ((sonsN c i).getD q 0) := fun q hq => by
    obtain ⟨a, b, _⟩ := ok.son (getD_mem0 hq)
    exact mayF_fuel ok set f _ _ a (by omega) (Nat.le_refl _)
  unfold sumFirst sumLast
  rw [mayI, hf, mayF, sum_congr (fun q hq => by rw [hs q hq]), sum_congr (f := fun q => (mayF c set f ((sonsN c i).getD q 0)).last) (fun q hq => by rw [hs q hq])]
theorem ok_eq {c : MCase} (ok : MOk c) (set : List Int) {i : Nat} (hi : i < c.nodes.length) : okN c set i = (allTo (fun q => okN c set ((sonsN c i).getD q 0)) (sonsN c i).length && !decide ((mayI c set i).last < (mayI c set i).first)) := by
  obtain ⟨f, hf⟩ : ∃ f, c.nodes.length - i = f + 1 := ⟨c.nodes.length - i - 1, by omega⟩
  rw [okN, hf, okF, mayI, hf, allTo_congr fun q hq => by
      obtain ⟨a, b, _⟩ := ok.son (getD_mem0 hq)
      exact okF_fuel ok set f _ _ a (by omega) (Nat.le_refl _)]
  rfl
theorem own_rng {c : MCase} (ok : MOk c) (set : List Int) {i : Nat} (hi : i < c.nodes.length) : 0 ≤ (ownIv c set i).first ∧ (ownIv c set i).last ≤ 1000000000 ∧ (ownIv c set i).first ≤ 1000000000 ∧ 0 ≤ (ownIv c set i).last := by
  obtain ⟨_, h, _⟩ := ok.node i hi
  unfold ownIv
  split
  · exact ⟨Int.le_refl _, Int.le_refl _, by decide, by decide⟩
  · exact ⟨h.1, h.2, h.2, h.1⟩
theorem may_rng {c : MCase} (ok : MOk c) (set : List Int) {i : Nat} (hi : i < c.nodes.length) (hk : okN c set i = true) : 0 ≤ (mayI c set i).first ∧ (mayI c set i).first ≤ (mayI c set i).last ∧ (mayI c set i).last ≤ 1000000000 := by
  have h1 := own_rng ok set hi
  rw [ok_eq ok set hi, Bool.and_eq_true, Bool.not_eq_true', decide_eq_false_iff_not] at hk
  have h2 := hk.2
  refine ⟨?_, by omega, ?_⟩
  · rw [may_eq ok set hi]
    split
    · dsimp only; omega
    · omega
  · rw [may_eq ok set hi]
    split
    · dsimp only; omega
    · omega
theorem sums_rng {c : MCase} (ok : MOk c) {set : List Int} {i j : Nat} (hj : j ≤ (sonsN c i).length) (hd : ∀ q, q < j → okN c set ((sonsN c i).getD q 0) = true) :
    0 ≤ sumFirst c set i j ∧ sumFirst c set i j ≤ j * 1000000000 ∧ 0 ≤ sumLast c set i j ∧ sumLast c set i j ≤ j * 1000000000 := by
  have h : ∀ q, q < j → 0 ≤ (mayI c set ((sonsN c i).getD q 0)).first ∧ (mayI c set ((sonsN c i).getD q 0)).first ≤ (mayI c set ((sonsN c i).getD q 0)).last ∧ (mayI c set ((sonsN c i).getD q 0)).last ≤ 1000000000 := fun q hq => by
    obtain ⟨a, _, _⟩ := ok.son (getD_mem0 (l := sonsN c i) (j := q) (by omega))
    exact may_rng ok set a (hd q hq)
  exact ⟨sum_nonneg fun q hq => (h q hq).1, sum_le fun q hq => by have := h q hq; omega, sum_nonneg fun q hq => by have := h q hq; omega, sum_le fun q hq => (h q hq).2.2⟩
theorem mem_getD0 {l : List Nat} {k : Nat} (h : k ∈ l) : ∃ q, q < l.length ∧ l.getD q 0 = k := by
  obtain ⟨q, hq, e⟩ := List.mem_iff_getElem.1 h
  exact ⟨q, hq, by rw [List.getD_eq_getElem?_getD, List.getElem?_eq_getElem hq]; exact e⟩
/-! ### the ghost of what has been written -/
structure Wr (c : MCase) (set : List Int) (W : Nat → Prop) (ms : List Iv) : Prop where
  len : ms.length = c.nodes.length
  rng : ∀ j, W j → j < c.nodes.length
  val : ∀ j, W j → ms.getD j default = mayI c set j
  ok : ∀ j, W j → okN c set j = true
  son : ∀ j, W j → ∀ k ∈ sonsN c j, W k
theorem Wr.write {c : MCase} {set : List Int} {W : Nat → Prop} {ms : List Iv} (w : Wr c set W ms) {i : Nat} (hi : i < c.nodes.length) (hok : okN c set i = true) (hs : ∀ k ∈ sonsN c i, W k) : Wr c set (fun j => W j ∨ j = i) (ms.set i (mayI c set i)) where
  len := by rw [List.length_set]; exact w.len
  rng := fun j hj => hj.elim (w.rng j) (fun h => h ▸ hi)
  val := fun j hj => by
    rw [List.getD_eq_getElem?_getD, List.getElem?_set]
    by_cases hc : i = j
    · subst hc; rw [if_pos rfl, if_pos (by rw [w.len]; exact hi)]; rfl
    · rw [if_neg hc, ← List.getD_eq_getElem?_getD]; exact w.val j (hj.resolve_right (fun h => hc h.symm))
  ok := fun j hj => hj.elim (w.ok j) (fun h => h ▸ hok)
  son := fun j hj k hk => hj.elim (fun h => .inl (w.son j h k hk)) (fun h => .inl (hs k (h ▸ hk)))
theorem Wr.other {c : MCase} {set : List Int} {W : Nat → Prop} {ms : List Iv} (w : Wr c set W ms) {i : Nat} (hi : i < c.nodes.length) : Wr c set (fun j => W j) (ms.set i (mayI c set i)) where
  len := by rw [List.length_set]; exact w.len
  rng := w.rng
  val := fun j hj => by
    rw [List.getD_eq_getElem?_getD, List.getElem?_set]
    by_cases hc : i = j
    · subst hc; rw [if_pos rfl, if_pos (by rw [w.len]; exact hi)]; rfl
    · rw [if_neg hc, ← List.getD_eq_getElem?_getD]; exact w.val j hj
  ok := w.ok
  son := w.son
theorem Wr.all {c : MCase} (ok : MOk c) {set : List Int} {W : Nat → Prop} {ms : List Iv} (w : Wr c set W ms) (h0 : W 0) : ∀ i, i < c.nodes.length → W i := by
  intro i
  induction i using Nat.strongRecOn with
  | _ i ih =>
    intro hi
    rcases Nat.eq_zero_or_pos i with hz | hp
    · subst hz; exact h0
    · obtain ⟨_, _, _, _, h5⟩ := ok.node i hi
      obtain ⟨a, b⟩ := h5 hp
      obtain ⟨u, hu⟩ := Int.eq_ofNat_of_zero_le a
      exact w.son u (ih u (by omega) (by omega)) i (sonsTo_mem.2 ⟨hi, hu⟩)
end Go.X

/- Repairs of trees of meters. No condition. -/
set_option linter.unusedVariables false
namespace Go.X
structure RSt where
  out : List Int
  nf : Int
  nl : Int
  rf : Int
  rl : Int
def rStep (may : Nat → Iv) (s : RSt) (k : Nat) : RSt :=
  ⟨s.out.set k (max (may k).first (s.nf - (s.rl - (may k).last))), s.nf - max (may k).first (s.nf - (s.rl - (may k).last)), s.nl - max (may k).first (s.nf - (s.rl - (may k).last)), s.rf - (may k).first, s.rl - (may k).last⟩
def rIter (may : Nat → Iv) (l : List Nat) (s0 : RSt) : Nat → RSt
  | 0 => s0
  | j + 1 => rStep may (rIter may l s0 j) (l.getD j 0)
def rStart (c : MCase) (set : List Int) (out : List Int) (i : Nat) : RSt :=
  ⟨out, out.getD i 0 - (c.nodes.getD i default).high, out.getD i 0 - (c.nodes.getD i default).low, sumFirst c set i (sonsN c i).length, sumLast c set i (sonsN c i).length⟩
def rAt (c : MCase) (set : List Int) (out : List Int) (i j : Nat) : RSt := rIter (mayI c set) (sonsN c i) (rStart c set out i) j
def rTo (c : MCase) (set : List Int) : Nat → List Int
  | 0 => (List.replicate c.nodes.length 0).set 0 (mayI c set 0).first
  | i + 1 => (rAt c set (rTo c set i) i (sonsN c i).length).out
def repairL (c : MCase) (set : List Int) : List Int := rTo c set c.nodes.length
structure Vals (n : Nat) (l : List Int) : Prop where
  len : l.length = n
  rng : ∀ i, i < n → 0 ≤ l.getD i 0 ∧ l.getD i 0 ≤ 1000000000
theorem set_getD0 {l : List Int} {k i : Nat} {x : Int} (hk : k < l.length) : (l.set k x).getD i 0 = if k = i then x else l.getD i 0 := by
  rw [List.getD_eq_getElem?_getD, List.getElem?_set]
  by_cases h : k = i
  · subst h; rw [if_pos rfl, if_pos hk, if_pos rfl]; rfl
  · rw [if_neg h, if_neg h, List.getD_eq_getElem?_getD]
theorem Vals.set {n : Nat} {l : List Int} (v : Vals n l) {k : Nat} {x : Int} (hk : k < n) (h0 : 0 ≤ x) (h1 : x ≤ 1000000000) : Vals n (l.set k x) :=
  ⟨by rw [List.length_set]; exact v.len, fun i hi => by
    rw [set_getD0 (by rw [v.len]; exact hk)]
    split
    · exact ⟨h0, h1⟩
    · exact v.rng i hi⟩
structure RInv (c : MCase) (set : List Int) (i j : Nat) (s : RSt) : Prop where
  vals : Vals c.nodes.length s.out
  rf : s.rf = sumFirst c set i (sonsN c i).length - sumFirst c set i j
  rl : s.rl = sumLast c set i (sonsN c i).length - sumLast c set i j
  nf : -((j + 1 : Nat) : Int) * 1000000000 ≤ s.nf ∧ s.nf ≤ 1000000000
  nl : -((j + 1 : Nat) : Int) * 1000000000 ≤ s.nl ∧ s.nl ≤ 1000000000
theorem rInv_start {c : MCase} (ok : MOk c) {set : List Int} {i : Nat} (hi : i < c.nodes.length) {out : List Int} (v : Vals c.nodes.length out) : RInv c set i 0 (rStart c set out i) := by
  have h1 := v.rng i hi
  obtain ⟨h2, _, h3, _⟩ := ok.node i hi
  refine ⟨v, ?_, ?_, ?_, ?_⟩
  · show sumFirst c set i _ = sumFirst c set i _ - 0; omega
  · show sumLast c set i _ = sumLast c set i _ - 0; omega
  · simp only [rStart]; omega
  · simp only [rStart]; omega
section
variable {c : MCase} (ok : MOk c) {set : List Int} (hd : ∀ i, i < c.nodes.length → okN c set i = true)
include ok hd
theorem son_may {i q : Nat} (hq : q < (sonsN c i).length) : 0 ≤ (mayI c set ((sonsN c i).getD q 0)).first ∧ (mayI c set ((sonsN c i).getD q 0)).first ≤ (mayI c set ((sonsN c i).getD q 0)).last ∧ (mayI c set ((sonsN c i).getD q 0)).last ≤ 1000000000 := by
  obtain ⟨a, _, _⟩ := ok.son (getD_mem0 hq)
  exact may_rng ok set a (hd _ a)
theorem rest_rng {i j : Nat} (hj : j ≤ (sonsN c i).length) : 0 ≤ sumFirst c set i j ∧ sumFirst c set i j ≤ sumFirst c set i (sonsN c i).length ∧ 0 ≤ sumLast c set i j ∧ sumLast c set i j ≤ sumLast c set i (sonsN c i).length ∧ sumFirst c set i (sonsN c i).length ≤ 14000000000 ∧ sumLast c set i (sonsN c i).length ≤ 14000000000 := by
  have hs := fun {q : Nat} (hq : q < (sonsN c i).length) => son_may ok hd (i := i) hq
  have hl : (sonsN c i).length ≤ c.nodes.length := sonsTo_len
  have h2 := ok.n2
  have a := sum_le (f := fun q => (mayI c set ((sonsN c i).getD q 0)).first) (n := (sonsN c i).length) (M := 1000000000) (fun q hq => by have := hs hq; omega)
  have b := sum_le (f := fun q => (mayI c set ((sonsN c i).getD q 0)).last) (n := (sonsN c i).length) (M := 1000000000) (fun q hq => (hs hq).2.2)
  refine ⟨sum_nonneg fun q hq => (hs (by omega)).1, sum_part hj fun q hq => (hs hq).1, sum_nonneg fun q hq => by have := hs (q := q) (by omega); omega, sum_part hj fun q hq => by have := hs hq; omega, ?_, ?_⟩
  · change sumFirst c set i (sonsN c i).length ≤ _ at a; omega
  · change sumLast c set i (sonsN c i).length ≤ _ at b; omega
theorem rInv_step {i j : Nat} (hj : j < (sonsN c i).length) {s : RSt} (r : RInv c set i j s) : RInv c set i (j + 1) (rStep (mayI c set) s ((sonsN c i).getD j 0)) := by
  obtain ⟨hk, _, _⟩ := ok.son (getD_mem0 hj)
  have hm := son_may ok hd hj
  have h1 := r.nf
  have h2 := r.nl
  have h3 := rest_rng ok hd (i := i) (j := j + 1) (by omega)
  have e1 : sumFirst c set i (j + 1) = sumFirst c set i j + (mayI c set ((sonsN c i).getD j 0)).first := rfl
  have e2 : sumLast c set i (j + 1) = sumLast c set i j + (mayI c set ((sonsN c i).getD j 0)).last := rfl
  have h4 := r.rf
  have h5 := r.rl
  have hx : 0 ≤ max (mayI c set ((sonsN c i).getD j 0)).first (s.nf - (s.rl - (mayI c set ((sonsN c i).getD j 0)).last)) ∧ max (mayI c set ((sonsN c i).getD j 0)).first (s.nf - (s.rl - (mayI c set ((sonsN c i).getD j 0)).last)) ≤ 1000000000 := by omega
  refine ⟨r.vals.set hk hx.1 hx.2, ?_, ?_, ?_, ?_⟩
  · simp only [rStep]; omega
  · simp only [rStep]; omega
  · simp only [rStep]; omega
  · simp only [rStep]; omega
theorem rAt_inv {i : Nat} (hi : i < c.nodes.length) {out : List Int} (v : Vals c.nodes.length out) : ∀ j, j ≤ (sonsN c i).length → RInv c set i j (rAt c set out i j)
  | 0, _ => rInv_start ok hi v
  | j + 1, hj => rInv_step ok hd (by omega) (rAt_inv hi v j (by omega))
theorem rTo_vals : ∀ i, i ≤ c.nodes.length → Vals c.nodes.length (rTo c set i)
  | 0, _ => by
    have h1 := ok.n1
    have hm := may_rng ok set (i := 0) (by omega) (hd 0 (by omega))
    refine Vals.set ⟨by simp, fun i hi => ?_⟩ (by omega) hm.1 (by omega)
    rw [List.getD_eq_getElem?_getD, List.getElem?_replicate, if_pos hi]
    exact ⟨Int.le_refl _, by decide⟩
  | i + 1, hi => (rAt_inv ok hd (by omega) (rTo_vals i (by omega)) _ (Nat.le_refl _)).vals
end
theorem ok_all {c : MCase} (ok : MOk c) {set : List Int} (h0 : okN c set 0 = true) : ∀ i, i < c.nodes.length → okN c set i = true := by
  intro i
  induction i using Nat.strongRecOn with
  | _ i ih =>
    intro hi
    rcases Nat.eq_zero_or_pos i with hz | hp
    · subst hz; exact h0
    · obtain ⟨_, _, _, _, h5⟩ := ok.node i hi
      obtain ⟨a, b⟩ := h5 hp
      obtain ⟨u, hu⟩ := Int.eq_ofNat_of_zero_le a
      have h6 := ih u (by omega) (by omega)
      rw [ok_eq ok set (by omega), Bool.and_eq_true] at h6
      obtain ⟨q, hq, e⟩ := mem_getD0 (l := sonsN c u) (sonsTo_mem.2 ⟨hi, hu⟩)
      have := allTo_at h6.1 hq
      rwa [e] at this
end Go.X

/- Sets of so many of n nodes, one after the other. No condition. -/
set_option linter.unusedVariables false
namespace Go.X
/-- The last of the first n with p. -/
def lastTo (p : Nat → Bool) : Nat → Option Nat
  | 0 => none
  | n + 1 => if p n = true then some n else lastTo p n
def bumpTo (l : List Nat) (i : Nat) : Nat → List Nat
  | 0 => l.set i (l.getD i 0 + 1)
  | t + 1 => (bumpTo l i t).set (i + 1 + t) ((bumpTo l i t).getD (i + t) 0 + 1)
def freeAt (n size : Nat) (l : List Nat) (i : Nat) : Bool := !decide (((l.getD i 0 : Nat) : Int) = (n : Int) - size + i)
def nextS (n size : Nat) (l : List Nat) : Option (List Nat) := (lastTo (freeAt n size l) size).map fun i => bumpTo l i (size - 1 - i)
structure SetSteps (n size : Nat) (items : List (List Nat)) : Prop where
  first : items[0]? = some (List.range size)
  next : ∀ j, j < items.length → nextS n size (items.getD j []) = items[j + 1]?
  rng : ∀ j, j < items.length → (items.getD j []).length = size ∧ ∀ x ∈ items.getD j [], x < n
theorem bumpTo_len (l : List Nat) (i : Nat) : ∀ t, (bumpTo l i t).length = l.length
  | 0 => by simp [bumpTo]
  | t + 1 => by rw [bumpTo, List.length_set, bumpTo_len l i t]
theorem bumpTo_at {l : List Nat} {i : Nat} : ∀ {t}, i + t < l.length → (bumpTo l i t).getD (i + t) 0 = l.getD i 0 + 1 + t
  | 0, h => by
    rw [bumpTo, List.getD_eq_getElem?_getD, List.getElem?_set, if_pos (by omega), if_pos (by omega)]; rfl
  | t + 1, h => by
    rw [bumpTo, List.getD_eq_getElem?_getD, List.getElem?_set, if_pos (by omega), if_pos (by rw [bumpTo_len]; omega), Option.getD_some, bumpTo_at (by omega)]; omega
theorem ints_set {l : List Nat} {i x : Nat} : (ints l).set i ((x : Nat) : Int) = ints (l.set i x) := by
  unfold ints
  rw [List.map_set]
theorem mset_upto {x : List Int} {i : Nat} (hi : i < x.length) (h : ∀ j, j < i → x.getD j 0 = (j : Int)) : ∀ j, j < i + 1 → (x.set i (i : Int)).getD j 0 = (j : Int) := by
  intro j hj
  rw [List.getD_eq_getElem?_getD, List.getElem?_set]
  by_cases hc : i = j
  · subst hc; rw [if_pos rfl, if_pos hi]; rfl
  · rw [if_neg hc, ← List.getD_eq_getElem?_getD]; exact h j (by omega)
theorem meq_range {n : Nat} {x : List Int} (hl : x.length = n) (h : ∀ j, j < n → x.getD j 0 = (j : Int)) : x = ints (List.range n) := by
  refine List.ext_getElem (by simp [hl, ints]) fun j h1 h2 => ?_
  have := h j (by omega)
  rw [List.getD_eq_getElem?_getD, List.getElem?_eq_getElem h1] at this
  simpa [ints] using this
theorem items_getD {items : List (List Nat)} {j : Nat} {x : List Nat} (h : items[j]? = some x) : j < items.length ∧ items.getD j [] = x := by
  obtain ⟨hj, e⟩ := List.getElem?_eq_some_iff.1 h
  exact ⟨hj, by rw [List.getD_eq_getElem?_getD, h]; rfl⟩
/-- All sets of s of the a numbers from b on. -/
def combos : Nat → Nat → Nat → List (List Nat)
  | 0, _, _ => [[]]
  | _ + 1, 0, _ => []
  | s + 1, a + 1, b => (combos s a (b + 1)).map (b :: ·) ++ combos (s + 1) a (b + 1)
def okSteps (n size : Nat) (items : List (List Nat)) : Bool :=
  decide (items[0]? = some (List.range size)) && (List.range items.length).all fun j => decide (nextS n size (items.getD j []) = items[j + 1]?) && decide ((items.getD j []).length = size) && (items.getD j []).all fun x => decide (x < n)
theorem steps_of {n size : Nat} {items : List (List Nat)} (h : okSteps n size items = true) : SetSteps n size items := by
  unfold okSteps at h
  rw [Bool.and_eq_true, decide_eq_true_eq, List.all_eq_true] at h
  have hj : ∀ j, j < items.length → _ := fun j hj => h.2 j (List.mem_range.2 hj)
  simp only [Bool.and_eq_true, decide_eq_true_eq, List.all_eq_true] at hj
  exact ⟨h.1, fun j h1 => (hj j h1).1.1, fun j h1 => ⟨(hj j h1).1.2, fun x hx => (hj j h1).2 x hx⟩⟩
theorem steps3 : ∀ s, s ≤ 3 → SetSteps 3 s (combos s 3 0) := fun s hs => by
  match s, hs with
  | 0, _ => exact steps_of (by decide)
  | 1, _ => exact steps_of (by decide)
  | 2, _ => exact steps_of (by decide)
  | 3, _ => exact steps_of (by decide)
end Go.X

/- Least sets. No condition. -/
set_option linter.unusedVariables false
namespace Go.X
theorem combos_len2 : ∀ a s b, (combos s a b).length ≤ 2 ^ a
  | 0, 0, b => by simp [combos]
  | 0, s + 1, b => by simp [combos]
  | a + 1, 0, b => by rw [combos]; exact Nat.one_le_two_pow
  | a + 1, s + 1, b => by
    rw [combos, List.length_append, List.length_map, Nat.pow_succ]
    have h1 := combos_len2 a s (b + 1)
    have h2 := combos_len2 a (s + 1) (b + 1)
    omega
theorem combos_len (n s : Nat) (h : n ≤ 14) : (combos s n 0).length ≤ 16384 := Nat.le_trans (combos_len2 n s 0) (by have := Nat.pow_le_pow_right (n := 2) (by decide) h; exact this)
def keepTo (p : List Nat → Bool) (items : List (List Nat)) : Nat → List (List Nat)
  | 0 => []
  | i + 1 => if p (items.getD i []) = true then keepTo p items i ++ [items.getD i []] else keepTo p items i
theorem keepTo_take (p : List Nat → Bool) (items : List (List Nat)) : ∀ i, i ≤ items.length → keepTo p items i = (items.take i).filter p
  | 0, _ => by simp [keepTo]
  | i + 1, hi => by
    have e : items.take (i + 1) = items.take i ++ [items.getD i []] := by
      rw [List.getD_eq_getElem?_getD, List.getElem?_eq_getElem (by omega), Option.getD_some, List.take_append_getElem (by omega)]
    rw [keepTo, keepTo_take p items i (by omega), e, List.filter_append, List.filter_cons]
    split <;> simp
theorem keepTo_all (p : List Nat → Bool) (items : List (List Nat)) : keepTo p items items.length = items.filter p := by rw [keepTo_take _ _ _ (Nat.le_refl _), List.take_length]
def expl (c : MCase) (l : List Nat) : Bool := okN c (ints l) 0
def leastAt (c : MCase) (s : Nat) : List (List Nat) := keepTo (expl c) (combos s c.nodes.length 0) (combos s c.nodes.length 0).length
def leastS (c : MCase) : Nat → Nat → List (List Nat)
  | 0, _ => []
  | k + 1, s => if 0 < (leastAt c s).length then leastAt c s else leastS c k (s + 1)
def leastG (c : MCase) : List (List Nat) × Int :=
  if mcheck c ≠ 0 then ([], mcheck c) else if 0 < (leastS c (c.nodes.length + 1) 0).length then (leastS c (c.nodes.length + 1) 0, 0) else ([], 4)
def badAt (c : MCase) (set : List Int) (i : Nat) : Prop := ¬ inA ((c.nodes.length : Int) - 1) [set.getD i 0] = true ∨ (0 : Int) < i ∧ set.getD i 0 ≤ set.getD ((i : Int) - 1).toNat 0
instance (c : MCase) (set : List Int) (i : Nat) : Decidable (badAt c set i) := by unfold badAt; infer_instance
def listedP (c : MCase) (set : List Int) (n : Nat) : Bool := allTo (fun i => !decide (badAt c set i)) n
def listedG (c : MCase) (set : List Int) : Int := if mcheck c ≠ 0 then mcheck c else if listedP c set set.length = true then 0 else 1
def explainsG (c : MCase) (set : List Int) : Bool × Int := if listedG c set ≠ 0 then (false, listedG c set) else (okN c set 0, 0)
def repairG (c : MCase) (set : List Int) : List Int × Int := if listedG c set ≠ 0 then ([], listedG c set) else if ¬ okN c set 0 = true then ([], 4) else (repairL c set, 0)
theorem listed_check {c : MCase} {set : List Int} (h : listedG c set = 0) : mcheck c = 0 := by
  unfold listedG at h
  split at h
  · rename_i h1; exact absurd h h1
  · rename_i h1; exact Decidable.of_not_not h1
end Go.X

/- Slices of slices in one heap. No condition. -/
set_option linter.unusedVariables false
namespace Go.X
/-- Slices that lie in one heap, a row each. -/
def RowsK (us : List Value) (K : PHeap) (rows : List (List Int)) : Prop := us.length = rows.length ∧ ∀ i, i < us.length → Arr (us.getD i default) encI 1 K (rows.getD i default)
theorem RowsK.nil {K : PHeap} : RowsK [] K [] := ⟨rfl, fun i hi => absurd hi (Nat.not_lt_zero i)⟩
theorem RowsK.mono {us : List Value} {K K' : PHeap} {rows : List (List Int)} (hl : leH K K') (r : RowsK us K rows) : RowsK us K' rows := ⟨r.1, fun i hi => Arr.le_heap (r.2 i hi) hl⟩
theorem rowsK_getD {α : Type} [Inhabited α] (l : List α) (x : α) (i : Nat) : (l ++ [x]).getD i default = if i < l.length then l.getD i default else if i = l.length then x else default := by
  rw [List.getD_eq_getElem?_getD, List.getElem?_append]
  split
  · rw [List.getD_eq_getElem?_getD]
  · split
    · rename_i h1 h2; subst h2; simp
    · rename_i h1 h2
      rw [List.getElem?_eq_none (by simp; omega)]; rfl
theorem RowsK.snoc {us : List Value} {K : PHeap} {rows : List (List Int)} {u : Value} {x : List Int} (r : RowsK us K rows) (a : Arr u encI 1 K x) : RowsK (us ++ [u]) K (rows ++ [x]) := ⟨by rw [List.length_append, List.length_append, r.1]; rfl, fun i hi => by
  rw [List.length_append] at hi
  rw [rowsK_getD, rowsK_getD, ← r.1]
  by_cases hc : i < us.length
  · rw [if_pos hc, if_pos hc]; exact r.2 i hc
  · rw [if_neg hc, if_neg hc, if_pos (by simp at hi; omega), if_pos (by simp at hi; omega)]; exact a⟩
end Go.X

/- Bills, in plain numbers and lists. No condition. -/
set_option linter.unusedVariables false
namespace Go.X
structure MTier where
  min : Int
  pct : Int
instance : Inhabited MTier := ⟨⟨0, 0⟩⟩
structure MTariff where
  price : List Int
  base : Int
  tiers : List MTier
  credit : Int
structure MUse where
  values : List Int
  out : Int
instance : Inhabited MUse := ⟨⟨[], 0⟩⟩
structure MBill where
  energy : Int
  amount : Int
  credit : Int
  due : Int
deriving DecidableEq
instance : Inhabited MBill := ⟨⟨0, 0, 0, 0⟩⟩
def badTier (t : MTariff) (i : Nat) : Prop :=
  (¬ inA 50000 [(t.tiers.getD i default).min] = true ∨ ¬ inA 100 [(t.tiers.getD i default).pct] = true) ∨ (0 : Int) < i ∧ ((t.tiers.getD i default).min ≤ (t.tiers.getD ((i : Int) - 1).toNat default).min ∨ (t.tiers.getD i default).pct < (t.tiers.getD ((i : Int) - 1).toNat default).pct)
instance (t : MTariff) (i : Nat) : Decidable (badTier t i) := by unfold badTier; infer_instance
def tiersOk (t : MTariff) (n : Nat) : Bool := allTo (fun i => !decide (badTier t i)) n
def rightG (t : MTariff) : Int :=
  if (t.price.length : Int) ≠ 24 then 1 else if (8 : Int) < t.tiers.length then 2 else if (¬ inA 1000 t.price = true ∨ ¬ inA 1000000000 [t.base] = true) ∨ ¬ inA 100 [t.credit] = true then 6 else if tiersOk t t.tiers.length = true then 0 else 6
def pctTo (t : MTariff) (out : Int) : Nat → Int
  | 0 => 0
  | n + 1 => if (t.tiers.getD n default).min ≤ out then (t.tiers.getD n default).pct else pctTo t out n
def percentL (t : MTariff) (out : Int) : Int := min (pctTo t out t.tiers.length) t.credit
def energyTo (v : List Int) (n : Nat) : Int := sumTo (fun i => v.getD i 0) n
def costTo (p v : List Int) (n : Nat) : Int := sumTo (fun i => v.getD i 0 * p.getD (i % 24) 0) n
def amountL (t : MTariff) (u : MUse) : Int := t.base + costTo t.price u.values u.values.length
def amtTo (t : MTariff) (v : List Int) : Nat → Int
  | 0 => t.base
  | n + 1 => amtTo t v n + v.getD n 0 * t.price.getD (n % 24) 0
theorem amtTo_eq (t : MTariff) (v : List Int) : ∀ n, amtTo t v n = t.base + costTo t.price v n
  | 0 => by rw [amtTo, costTo, sumTo, Int.add_zero]
  | n + 1 => by rw [amtTo, amtTo_eq t v n, costTo, costTo, sumTo, Int.add_assoc]
def creditL (t : MTariff) (u : MUse) : Int := (amountL t u * percentL t u.out + 50) / 100
def billL (t : MTariff) (u : MUse) : MBill := ⟨energyTo u.values u.values.length, amountL t u, creditL t u, amountL t u - creditL t u⟩
def makeG (t : MTariff) (u : MUse) : MBill × Int :=
  if rightG t ≠ 0 then (default, rightG t) else if (1000 : Int) < u.values.length then (default, 2) else if ¬ inA 100000 u.values = true ∨ ¬ inA 50000 [u.out] = true then (default, 6) else (billL t u, 0)
structure TOk11 (t : MTariff) : Prop where
  len : t.price.length = 24
  nt : t.tiers.length ≤ 8
  price : ∀ x ∈ t.price, 0 ≤ x ∧ x ≤ 1000
  base : 0 ≤ t.base ∧ t.base ≤ 1000000000
  credit : 0 ≤ t.credit ∧ t.credit ≤ 100
  tier : ∀ i, i < t.tiers.length → ¬ badTier t i
theorem right_ok {t : MTariff} (h : rightG t = 0) : TOk11 t := by
  unfold rightG at h
  split at h
  · cases h
  · split at h
    · cases h
    · split at h
      · cases h
      · split at h
        · rename_i h1 h2 h3 h4
          simp only [not_or, Classical.not_not] at h3
          refine ⟨by omega, by omega, inA_iff.1 h3.1.1, inA_one.1 h3.1.2, inA_one.1 h3.2, fun i hi => ?_⟩
          have := allTo_at h4 hi
          simpa using this
        · cases h
theorem ok_right {t : MTariff} (k : TOk11 t) : rightG t = 0 := by
  have h1 := k.len
  have h2 := k.nt
  unfold rightG
  rw [if_neg (by omega), if_neg (by omega), if_neg, if_pos]
  · exact allTo_true fun i hi => by simpa using k.tier i hi
  · rw [inA_iff.2 k.price, inA_one.2 k.base, inA_one.2 k.credit]; simp
theorem pct_rng {t : MTariff} (k : TOk11 t) (out : Int) : ∀ n, n ≤ t.tiers.length → 0 ≤ pctTo t out n ∧ pctTo t out n ≤ 100
  | 0, _ => by rw [pctTo]; decide
  | n + 1, hn => by
    have h := k.tier n (by omega)
    unfold badTier at h
    simp only [not_or, Classical.not_not] at h
    have h2 := inA_one.1 h.1.2
    rw [pctTo]
    split
    · exact h2
    · exact pct_rng k out n (by omega)
theorem percent_rng {t : MTariff} (k : TOk11 t) (out : Int) : 0 ≤ percentL t out ∧ percentL t out ≤ t.credit ∧ percentL t out ≤ 100 := by
  have h1 := pct_rng k out _ (Nat.le_refl _)
  have h2 := k.credit
  unfold percentL; omega
theorem price_at {t : MTariff} (k : TOk11 t) (i : Nat) : 0 ≤ t.price.getD (i % 24) 0 ∧ t.price.getD (i % 24) 0 ≤ 1000 := by
  have h : i % 24 < t.price.length := by rw [k.len]; omega
  have := k.price (t.price.getD (i % 24) 0) (by rw [List.getD_eq_getElem?_getD, List.getElem?_eq_getElem h]; exact List.getElem_mem h)
  exact this
theorem vals_at {v : List Int} (hv : ∀ x ∈ v, 0 ≤ x ∧ x ≤ 100000) {i : Nat} (hi : i < v.length) : 0 ≤ v.getD i 0 ∧ v.getD i 0 ≤ 100000 :=
  hv _ (by rw [List.getD_eq_getElem?_getD, List.getElem?_eq_getElem hi]; exact List.getElem_mem hi)
theorem cost_one {t : MTariff} (k : TOk11 t) {v : List Int} (hv : ∀ x ∈ v, 0 ≤ x ∧ x ≤ 100000) {i : Nat} (hi : i < v.length) : 0 ≤ v.getD i 0 * t.price.getD (i % 24) 0 ∧ v.getD i 0 * t.price.getD (i % 24) 0 ≤ 100000000 := by
  have h1 := price_at k i
  have h2 := vals_at hv hi
  exact ⟨Int.mul_nonneg h2.1 h1.1, Int.le_trans (Int.mul_le_mul h2.2 h1.2 h1.1 (by omega)) (by decide)⟩
theorem cost_rng {t : MTariff} (k : TOk11 t) {v : List Int} (hv : ∀ x ∈ v, 0 ≤ x ∧ x ≤ 100000) {n : Nat} (hn : n ≤ v.length) : 0 ≤ costTo t.price v n ∧ costTo t.price v n ≤ n * 100000000 :=
  ⟨sum_nonneg fun i hi => (cost_one k hv (by omega)).1, sum_le fun i hi => (cost_one k hv (by omega)).2⟩
theorem energy_rng {v : List Int} (hv : ∀ x ∈ v, 0 ≤ x ∧ x ≤ 100000) {n : Nat} (hn : n ≤ v.length) : 0 ≤ energyTo v n ∧ energyTo v n ≤ n * 100000 :=
  ⟨sum_nonneg fun i hi => (vals_at hv (by omega)).1, sum_le fun i hi => (vals_at hv (by omega)).2⟩
structure UOk11 (u : MUse) : Prop where
  len : u.values.length ≤ 1000
  vals : ∀ x ∈ u.values, 0 ≤ x ∧ x ≤ 100000
  out : 0 ≤ u.out ∧ u.out ≤ 50000
theorem amount_rng {t : MTariff} (k : TOk11 t) {u : MUse} (q : UOk11 u) : 0 ≤ amountL t u ∧ amountL t u ≤ 101000000000 := by
  have h1 := cost_rng k q.vals (Nat.le_refl _)
  have h2 := k.base
  have h3 := q.len
  unfold amountL; omega
theorem credit_rng {t : MTariff} (k : TOk11 t) {u : MUse} (q : UOk11 u) : 0 ≤ amountL t u * percentL t u.out ∧ amountL t u * percentL t u.out ≤ amountL t u * 100 ∧ 0 ≤ creditL t u ∧ creditL t u ≤ amountL t u := by
  have h1 := amount_rng k q
  have h2 := percent_rng k u.out
  have h3 : 0 ≤ amountL t u * percentL t u.out := Int.mul_nonneg h1.1 h2.1
  have h4 : amountL t u * percentL t u.out ≤ amountL t u * 100 := Int.mul_le_mul_of_nonneg_left h2.2.2 h1.1
  refine ⟨h3, h4, ?_, ?_⟩
  · unfold creditL; omega
  · unfold creditL; omega
theorem make_fine {t : MTariff} (k : TOk11 t) {u : MUse} (q : UOk11 u) : makeG t u = (billL t u, 0) := by
  have h := q.len
  unfold makeG
  rw [if_neg (by rw [ok_right k]; decide), if_neg (by omega), if_neg]
  rw [inA_iff.2 q.vals, inA_one.2 q.out]; simp
theorem make_use {t : MTariff} {u : MUse} (h1 : ¬ (1000 : Int) < u.values.length) (h2 : ¬ (¬ inA 100000 u.values = true ∨ ¬ inA 50000 [u.out] = true)) : UOk11 u := by
  simp only [not_or, Classical.not_not] at h2
  exact ⟨by omega, inA_iff.1 h2.1, inA_one.1 h2.2⟩
structure BRng (b : MBill) : Prop where
  e : 0 ≤ b.energy ∧ b.energy ≤ 100000000
  a : 0 ≤ b.amount ∧ b.amount ≤ 101000000000
  c : 0 ≤ b.credit ∧ b.credit ≤ 101000000000
  d : 0 ≤ b.due ∧ b.due ≤ 101000000000
theorem zero_rng : BRng default := ⟨⟨by decide, by decide⟩, ⟨by decide, by decide⟩, ⟨by decide, by decide⟩, ⟨by decide, by decide⟩⟩
theorem make_rng (t : MTariff) (u : MUse) : BRng (makeG t u).1 := by
  unfold makeG
  split
  · exact zero_rng
  · rename_i h0
    split
    · exact zero_rng
    · rename_i h1
      split
      · exact zero_rng
      · rename_i h2
        have k := right_ok (Decidable.of_not_not h0)
        have q := make_use (t := t) h1 h2
        have e1 := energy_rng q.vals (Nat.le_refl _)
        have e2 := amount_rng k q
        have e3 := credit_rng k q
        have e4 := q.len
        exact ⟨by dsimp only [billL]; omega, by dsimp only [billL]; omega, by dsimp only [billL]; omega, by dsimp only [billL]; omega⟩
/-! ### totals -/
def billAt (t : MTariff) (l : List MUse) (i : Nat) : MBill := (makeG t (l.getD i default)).1
def errTo (t : MTariff) (l : List MUse) : Nat → Int
  | 0 => 0
  | n + 1 => if errTo t l n ≠ 0 then errTo t l n else (makeG t (l.getD n default)).2
def sumBill (t : MTariff) (l : List MUse) (n : Nat) : MBill := ⟨sumTo (fun i => (billAt t l i).energy) n, sumTo (fun i => (billAt t l i).amount) n, sumTo (fun i => (billAt t l i).credit) n, sumTo (fun i => (billAt t l i).due) n⟩
def totalG (t : MTariff) (l : List MUse) : List MBill × MBill × Int :=
  if (64 : Int) < l.length then ([], default, 2) else if errTo t l l.length ≠ 0 then ([], default, errTo t l l.length) else ((List.range l.length).map (billAt t l), sumBill t l l.length, 0)
theorem errTo_stay {t : MTariff} {l : List MUse} {n m : Nat} (h : errTo t l n ≠ 0) (hm : n ≤ m) : errTo t l m = errTo t l n := by
  induction m with
  | zero => rw [show n = 0 by omega]
  | succ m ih =>
    rcases Nat.lt_or_ge n (m + 1) with h1 | h1
    · rw [errTo, ih (by omega), if_pos h]
    · rw [show n = m + 1 by omega]
theorem sumBill_rng (t : MTariff) (l : List MUse) (n : Nat) : (0 ≤ (sumBill t l n).energy ∧ (sumBill t l n).energy ≤ n * 100000000) ∧ (0 ≤ (sumBill t l n).amount ∧ (sumBill t l n).amount ≤ n * 101000000000) ∧ (0 ≤ (sumBill t l n).credit ∧ (sumBill t l n).credit ≤ n * 101000000000) ∧ (0 ≤ (sumBill t l n).due ∧ (sumBill t l n).due ≤ n * 101000000000) := by
  have h : ∀ i, BRng (billAt t l i) := fun i => make_rng t _
  exact ⟨⟨sum_nonneg fun i _ => (h i).e.1, sum_le fun i _ => (h i).e.2⟩, ⟨sum_nonneg fun i _ => (h i).a.1, sum_le fun i _ => (h i).a.2⟩, ⟨sum_nonneg fun i _ => (h i).c.1, sum_le fun i _ => (h i).c.2⟩, ⟨sum_nonneg fun i _ => (h i).d.1, sum_le fun i _ => (h i).d.2⟩⟩
end Go.X

/- x[:len(x):len(x)]. No condition. -/
set_option linter.unusedSimpArgs false
set_option linter.unusedVariables false
namespace Go.X
def clipv (v : Value) (sz : Nat) : Value := match v with
  | .slice ad n _ => .slice (if n = 0 then ad else ad.map (·.add (0 * sz))) (n - 0) (n - 0)
  | _ => v
section
variable {P : Program} {ops : Array Oper} {e : Env} {o r : List PHeap} {d : Option Tmp} {ty : TypeId} {pos : String} {aft : Array Edge}
variable {α : Type} {enc : α → List Value} {sz : Nat} {h : PHeap} {xs : List α} {v : Value}
theorem Arr.clip (s : Arr v enc sz h xs) : Arr (clipv v sz) enc sz h xs := ⟨by
  obtain ⟨henc, hm, ad, c, rfl, hle, hnn, hc⟩ := s.pf
  refine ⟨henc, hm, (if xs.length = 0 then ad else ad.map (·.add (0 * sz))), xs.length, rfl, Nat.le_refl _, ?_, fun hp => ?_⟩
  · intro hnone
    split at hnone
    · assumption
    · cases ad with
      | none => have := hnn rfl; omega
      | some a => simp at hnone
  · obtain ⟨b, k, cs, T, fr, rfl, hb, hcs⟩ := hc hp
    refine ⟨b, k, cs, T, fr, ?_, hb, hcs⟩
    rw [if_neg (by omega)]
    simp [add_none]⟩
theorem Q.clip {t el : TypeId} [u : Und P t (.slice el)] [z : TySize P el sz] {x y y' : Operand} {k k' : IntKind} (hx : ev e x = some v) [s : Arr v enc sz h xs] (hy : ev e y = some (.int k (xs.length : Nat))) (hy' : ev e y' = some (.int k' (xs.length : Nat))) :
    Quiet P ops ⟨d, .slice t x none (some y) (some y'), ty, pos, aft, none⟩ e o r (clipv v sz) := .mk fun a w he _ => by
  obtain ⟨henc, hm, ad, c, rfl, hle, hnn, hc⟩ := s.pf
  have hrun : (Instr.sliceAt t (.slice ad xs.length c) none (some (.int k (xs.length : Nat))) (some (.int k' (xs.length : Nat)))).run P w =
      .ok (clipv (.slice ad xs.length c) sz) w := by
    unfold Instr.sliceAt
    rw [bind_ok (u.pf w)]
    simp only
    unfold Instr.slice
    rw [bind_ok (u.pf w)]
    simp only
    have hsb : ∀ (kk : IntKind) (m : Nat) (code : BoundsCode), xs.length ≤ m → (Instr.sliceBound (.int kk ((xs.length : Nat) : Int)) m code).run P w = .ok xs.length w := fun kk m code hm2 => by
      have h0 : (0 : Int) ≤ (xs.length : Nat) := by omega
      unfold Instr.sliceBound
      rw [bind_ok (a := (kk, ((xs.length : Nat) : Int))) (w1 := w) rfl]
      simp only
      rw [if_pos ⟨h0, by omega⟩]
      rfl
    have hb : (Instr.sliceBounds true xs.length c none (some (.int k (xs.length : Nat))) (some (.int k' (xs.length : Nat)))).run P w = .ok (0, xs.length, xs.length) w := by
      unfold Instr.sliceBounds
      simp only [if_true]
      rw [bind_ok (hsb k' c _ hle)]
      rw [bind_ok (hsb k xs.length _ (Nat.le_refl _))]
      rfl
    rw [bind_ok hb]
    simp only
    rw [bind_ok (z.pf w)]
    rfl
  simp only [execOp, ev_rel he hx, Option.map_none, Option.map_some, ev_rel he hy, ev_rel he hy', run_val hrun]
end
end Go.X

/- The chapter's examples of meters and bills. No condition. -/
set_option linter.unusedVariables false
namespace Go.X
def exC : MCase := ⟨[⟨-1, 0, 5⟩, ⟨0, 0, 0⟩, ⟨0, 0, 0⟩], [100, 60, 50]⟩
def exT : MTariff := ⟨List.replicate 24 10, 100, [⟨30, 10⟩, ⟨120, 25⟩], 20⟩
def exU : MUse := ⟨List.replicate 24 5, 150⟩
theorem exC_least : leastG exC = ([[0], [1], [2]], 0) := by decide
theorem exC_repair : repairG exC [1] = ([100, 45, 50], 0) := by decide
theorem exT_make : makeG exT exU = (⟨120, 1300, 260, 1040⟩, 0) := by decide
end Go.X

/- The statement MeterPays, in plain lists. No condition. -/
set_option linter.unusedVariables false
namespace Go.X
structure TSo (ts : List MTier) (m p : Int) (k : Nat) : Prop where
  len : ts.length = k
  hm : 0 ≤ m ∧ m ≤ 5101 * k
  hp : 0 ≤ p ∧ p ≤ 100
  each : ∀ j, j < k → (0 ≤ (ts.getD j default).min ∧ (ts.getD j default).min ≤ m) ∧ 0 ≤ (ts.getD j default).pct ∧ (ts.getD j default).pct ≤ p
  next : ∀ j, 0 < j → j < k → (ts.getD (j - 1) default).min < (ts.getD j default).min ∧ (ts.getD (j - 1) default).pct ≤ (ts.getD j default).pct
theorem tget {l : List MTier} {x : MTier} {i : Nat} : (l ++ [x]).getD i default = if i < l.length then l.getD i default else if i = l.length then x else default := by
  rw [List.getD_eq_getElem?_getD, List.getElem?_append]
  split
  · rw [List.getD_eq_getElem?_getD]
  · split
    · rename_i h1 h2; subst h2; simp
    · rename_i h1 h2
      rw [List.getElem?_eq_none (by simp; omega)]; rfl
theorem TSo.snoc {ts : List MTier} {m p : Int} {k : Nat} (s : TSo ts m p k) {m2 p2 : Int} (hm : m < m2) (hm2 : m2 ≤ m + 5101) (hp : p ≤ p2) (hp2 : p2 ≤ 100) : TSo (ts ++ [⟨m2, p2⟩]) m2 p2 (k + 1) := by
  have h1 := s.hm
  have h2 := s.hp
  have hl := s.len
  refine ⟨by rw [List.length_append, hl]; rfl, by omega, by omega, fun j hj => ?_, fun j h0 hj => ?_⟩
  · rw [tget]
    by_cases hc : j < ts.length
    · rw [if_pos hc]; have := s.each j (by omega); omega
    · rw [if_neg hc, if_pos (by omega)]; dsimp only; omega
  · rw [tget, tget]
    by_cases hc : j < ts.length
    · rw [if_pos hc, if_pos (by omega)]; exact s.next j h0 (by omega)
    · rw [if_neg hc, if_pos (by omega), if_pos (by omega)]
      have := s.each (j - 1) (by omega)
      dsimp only; omega
theorem TSo.ok {ts : List MTier} {m p : Int} {k : Nat} (s : TSo ts m p k) (hk : k ≤ 8) {pr : List Int} {base cr : Int} (hl : pr.length = 24) (hp : ∀ x ∈ pr, 0 ≤ x ∧ x ≤ 1000) (hb : 0 ≤ base ∧ base ≤ 1000000000) (hc : 0 ≤ cr ∧ cr ≤ 100) : TOk11 ⟨pr, base, ts, cr⟩ := by
  refine ⟨hl, by dsimp only; rw [s.len]; exact hk, hp, hb, hc, fun i hi => ?_⟩
  dsimp only at hi
  rw [s.len] at hi
  have h1 := s.each i hi
  have h2 := s.hm
  have h3 := s.hp
  unfold badTier
  dsimp only
  rw [inA_one, inA_one]
  rcases Nat.eq_zero_or_pos i with hz | hz
  · omega
  · have h4 := s.next i hz hi
    rw [show ((i : Int) - 1).toNat = i - 1 by omega]
    omega
end Go.X

/- All sets of so many of n nodes: in lexicographic order, none missing. No condition. -/
set_option linter.unusedVariables false
namespace Go.X
def Chain (n s : Nat) : List (List Nat) → Prop
  | [] => True
  | [x] => nextS n s x = none
  | x :: y :: r => nextS n s x = some y ∧ Chain n s (y :: r)
theorem lastTo_cons {n s b : Nat} {x : List Nat} : ∀ m, m ≤ s → lastTo (freeAt n (s + 1) (b :: x)) (m + 1) = match lastTo (freeAt n s x) m with
    | some i => some (i + 1)
    | none => if freeAt n (s + 1) (b :: x) 0 = true then some 0 else none
  | 0, _ => by rw [lastTo]; rfl
  | m + 1, hm => by
    have ih := lastTo_cons (n := n) (s := s) (b := b) (x := x) m (by omega)
    have e : freeAt n (s + 1) (b :: x) (m + 1) = freeAt n s x m := by
      unfold freeAt
      congr 1
      rw [show (b :: x).getD (m + 1) 0 = x.getD m 0 from rfl]
      congr 1
      rw [eq_iff_iff]
      omega
    rw [lastTo, e, show lastTo (freeAt n s x) (m + 1) = if freeAt n s x m = true then some m else lastTo (freeAt n s x) m from rfl]
    by_cases h : freeAt n s x m = true
    · rw [if_pos h, if_pos h]
    · rw [if_neg h, if_neg h, ih]
theorem bumpTo_cons {b : Nat} {x : List Nat} {i : Nat} : ∀ t, bumpTo (b :: x) (i + 1) t = b :: bumpTo x i t
  | 0 => rfl
  | t + 1 => by
    rw [bumpTo, bumpTo_cons t, bumpTo, show i + 1 + 1 + t = (i + 1 + t) + 1 by omega, show i + 1 + t = (i + t) + 1 by omega]
    rfl
theorem nextS_cons {n s b : Nat} {x : List Nat} : nextS n (s + 1) (b :: x) = match nextS n s x with
    | some y => some (b :: y)
    | none => if freeAt n (s + 1) (b :: x) 0 = true then some (bumpTo (b :: x) 0 s) else none := by
  unfold nextS
  rw [lastTo_cons s (Nat.le_refl _)]
  cases lastTo (freeAt n s x) s with
  | some i =>
    simp only [Option.map_some]
    rw [show s + 1 - 1 - (i + 1) = s - 1 - i by omega, bumpTo_cons]
  | none =>
    simp only [Option.map_none]
    split <;> rfl
/-- b, b + 1, .. -/
def upFrom (b : Nat) : Nat → List Nat
  | 0 => []
  | s + 1 => b :: upFrom (b + 1) s
theorem upFrom_len (b : Nat) : ∀ s, (upFrom b s).length = s
  | 0 => rfl
  | s + 1 => by rw [upFrom, List.length_cons, upFrom_len (b + 1) s]
theorem upFrom_at : ∀ (s b i : Nat), i < s → (upFrom b s).getD i 0 = b + i
  | s + 1, b, 0, _ => rfl
  | s + 1, b, i + 1, h => by
    rw [upFrom, show (b :: upFrom (b + 1) s).getD (i + 1) 0 = (upFrom (b + 1) s).getD i 0 from rfl, upFrom_at s (b + 1) i (by omega)]; omega
theorem ext0 {a b : List Nat} (hl : a.length = b.length) (h : ∀ i, i < a.length → a.getD i 0 = b.getD i 0) : a = b := by
  refine List.ext_getElem hl fun i h1 h2 => ?_
  have := h i h1
  rw [List.getD_eq_getElem?_getD, List.getD_eq_getElem?_getD, List.getElem?_eq_getElem h1, List.getElem?_eq_getElem h2] at this
  simpa using this
theorem bumpTo_low {l : List Nat} {i : Nat} : ∀ {t j}, i + t < l.length → i ≤ j → j ≤ i + t → (bumpTo l i t).getD j 0 = l.getD i 0 + 1 + (j - i)
  | 0, j, h, h1, h2 => by
    rw [show j = i by omega, Nat.sub_self]
    have := bumpTo_at (l := l) (i := i) (t := 0) h
    simpa using this
  | t + 1, j, h, h1, h2 => by
    by_cases hj : j = i + (t + 1)
    · subst hj
      rw [bumpTo_at h]; omega
    · rw [bumpTo, List.getD_eq_getElem?_getD, List.getElem?_set, if_neg (by omega), ← List.getD_eq_getElem?_getD]
      exact bumpTo_low (by omega) h1 (by omega)
theorem bump_zero {b : Nat} {x : List Nat} : bumpTo (b :: x) 0 x.length = upFrom (b + 1) (x.length + 1) := by
  refine ext0 (by rw [bumpTo_len, upFrom_len]; rfl) fun i hi => ?_
  rw [bumpTo_len] at hi
  have hi2 : i < x.length + 1 := by simpa using hi
  rw [bumpTo_low (by simp) (Nat.zero_le _) (by omega), upFrom_at _ _ _ hi2]
  show b + 1 + (i - 0) = b + 1 + i
  omega
theorem combos_nil : ∀ (s a b : Nat), a < s → combos s a b = []
  | s + 1, 0, b, _ => rfl
  | s + 1, a + 1, b, h => by
    rw [combos, combos_nil s a (b + 1) (by omega), combos_nil (s + 1) a (b + 1) (by omega)]; rfl
theorem combos_head : ∀ (s a b : Nat), s ≤ a → ∃ r, combos s a b = upFrom b s :: r
  | 0, a, b, _ => ⟨[], by cases a <;> rfl⟩
  | s + 1, a + 1, b, h => by
    obtain ⟨r, hr⟩ := combos_head s a (b + 1) (by omega)
    exact ⟨r.map (b :: ·) ++ combos (s + 1) a (b + 1), by rw [combos, hr]; rfl⟩
theorem combos_each : ∀ (s a b : Nat), ∀ x ∈ combos s a b, x.length = s ∧ ∀ y ∈ x, b ≤ y ∧ y < b + a
  | 0, a, b, x, hx => by
    have : x = [] := by cases a <;> simpa [combos] using hx
    subst this
    exact ⟨rfl, fun y hy => by cases hy⟩
  | s + 1, 0, b, x, hx => by cases hx
  | s + 1, a + 1, b, x, hx => by
    rw [combos, List.mem_append, List.mem_map] at hx
    rcases hx with ⟨y, hy, rfl⟩ | hx
    · obtain ⟨h1, h2⟩ := combos_each s a (b + 1) y hy
      refine ⟨by rw [List.length_cons, h1], fun z hz => ?_⟩
      rcases List.mem_cons.1 hz with rfl | hz
      · omega
      · have := h2 z hz; omega
    · obtain ⟨h1, h2⟩ := combos_each (s + 1) a (b + 1) x hx
      exact ⟨h1, fun z hz => by have := h2 z hz; omega⟩
theorem chain_map {n s b : Nat} {r : List (List Nat)} (hr : ∀ x ∈ r, x.length = s) (hc : Chain n s r) (tail : List (List Nat)) (ht : Chain n (s + 1) tail)
    (hj : tail = [] ∧ (∀ x : List Nat, freeAt n (s + 1) (b :: x) 0 = false) ∨ ∃ t, tail = upFrom (b + 1) (s + 1) :: t ∧ ∀ x : List Nat, freeAt n (s + 1) (b :: x) 0 = true) : Chain n (s + 1) (r.map (b :: ·) ++ tail) := by
  induction r with
  | nil => simpa using ht
  | cons x r ih =>
    have hl := hr x List.mem_cons_self
    cases r with
    | nil =>
      have hx : nextS n s x = none := hc
      rcases hj with ⟨rfl, hf⟩ | ⟨t, rfl, hf⟩
      · show nextS n (s + 1) (b :: x) = none
        rw [nextS_cons, hx]
        simp only
        rw [if_neg (by rw [hf]; decide)]
      · refine ⟨?_, ht⟩
        rw [nextS_cons, hx]
        simp only
        rw [if_pos (hf x), ← hl, bump_zero]
    | cons y r =>
      obtain ⟨h1, h2⟩ := hc
      refine ⟨?_, ih (fun z hz => hr z (List.mem_cons_of_mem _ hz)) h2⟩
      show nextS n (s + 1) (b :: x) = some (b :: y)
      rw [nextS_cons, h1]
theorem combos_chain : ∀ (s a b : Nat), Chain (b + a) s (combos s a b)
  | 0, a, b => by
    have : combos 0 a b = [[]] := by cases a <;> rfl
    rw [this]
    show nextS (b + a) 0 [] = none
    rfl
  | s + 1, 0, b => trivial
  | s + 1, a + 1, b => by
    rw [combos]
    have h1 := combos_chain s a (b + 1)
    have h2 := combos_chain (s + 1) a (b + 1)
    rw [show b + 1 + a = b + (a + 1) by omega] at h1 h2
    by_cases hs : a < s
    · rw [combos_nil s a (b + 1) hs]; simpa using h2
    · refine chain_map (fun x hx => (combos_each s a (b + 1) x hx).1) h1 _ h2 ?_
      by_cases ha : a = s
      · left
        refine ⟨combos_nil _ _ _ (by omega), fun x => ?_⟩
        unfold freeAt
        rw [Bool.not_eq_false', decide_eq_true_eq]
        show ((b : Nat) : Int) = _
        omega
      · right
        obtain ⟨t, ht⟩ := combos_head (s + 1) a (b + 1) (by omega)
        refine ⟨t, ht, fun x => ?_⟩
        unfold freeAt
        rw [Bool.not_eq_true', decide_eq_false_iff_not]
        show ¬ ((b : Nat) : Int) = _
        omega
theorem chain_next {n s : Nat} : ∀ {l : List (List Nat)}, Chain n s l → ∀ j, j < l.length → nextS n s (l.getD j []) = l[j + 1]?
  | [x], h, 0, _ => h
  | x :: y :: r, h, 0, _ => h.1
  | x :: y :: r, h, j + 1, hj => by
    have := chain_next h.2 j (by simpa using hj)
    simpa using this
theorem upFrom_range (s : Nat) : upFrom 0 s = List.range s := by
  refine ext0 (by rw [upFrom_len]; simp) fun i hi => ?_
  rw [upFrom_len] at hi
  rw [upFrom_at _ _ _ hi, List.getD_eq_getElem?_getD, List.getElem?_eq_getElem (by simpa using hi)]; simp
theorem getD_memL {l : List (List Nat)} {j : Nat} (hj : j < l.length) : l.getD j [] ∈ l := by
  rw [List.getD_eq_getElem?_getD, List.getElem?_eq_getElem hj]; exact List.getElem_mem hj
theorem combos_steps {n s : Nat} (h : s ≤ n) : SetSteps n s (combos s n 0) := by
  obtain ⟨r, hr⟩ := combos_head s n 0 h
  refine ⟨by rw [hr, ← upFrom_range]; rfl, fun j hj => ?_, fun j hj => ?_⟩
  · have := chain_next (combos_chain s n 0) j hj
    rwa [Nat.zero_add] at this
  · obtain ⟨h1, h2⟩ := combos_each s n 0 _ (getD_memL hj)
    exact ⟨h1, fun x hx => by have := h2 x hx; omega⟩
/-- Increasing lists. -/
def Inc : Nat → List Nat → Prop
  | _, [] => True
  | b, x :: l => b ≤ x ∧ Inc (x + 1) l
end Go.X

/- What explains a case: values with which all balances hold; the least of them. No condition. -/
set_option linter.unusedVariables false
namespace Go.X
def sumV (c : MCase) (v : List Int) (i : Nat) (n : Nat) : Int := sumTo (fun q => v.getD ((sonsN c i).getD q 0) 0) n
structure Sol (c : MCase) (set : List Int) (v : List Int) : Prop where
  len : v.length = c.nodes.length
  rng : ∀ i, i < c.nodes.length → 0 ≤ v.getD i 0 ∧ v.getD i 0 ≤ 1000000000
  own : ∀ i, i < c.nodes.length → ¬ (i : Int) ∈ set → v.getD i 0 = c.vals.getD i 0
  bal : ∀ i, i < c.nodes.length → 0 < (sonsN c i).length → (c.nodes.getD i default).low ≤ v.getD i 0 - sumV c v i (sonsN c i).length ∧ v.getD i 0 - sumV c v i (sonsN c i).length ≤ (c.nodes.getD i default).high
theorem mem_any {x : Int} {xs : List Int} : xs.any (fun y => decide (x = y)) = true ↔ x ∈ xs := by
  rw [List.any_eq_true]
  exact ⟨fun ⟨y, hy, h⟩ => by rw [decide_eq_true_eq] at h; exact h ▸ hy, fun h => ⟨x, h, by simp⟩⟩
theorem Sol.wide {c : MCase} {set wide v : List Int} (s : Sol c set v) (h : ∀ x ∈ set, x ∈ wide) : Sol c wide v := ⟨s.len, s.rng, fun i hi hn => s.own i hi (fun hm => hn (h _ hm)), s.bal⟩
/-! ### sons are in order -/
theorem sonsTo_lt {c : MCase} {i : Int} : ∀ {n q p}, q < p → p < (sonsTo c i n).length → (sonsTo c i n).getD q 0 < (sonsTo c i n).getD p 0
  | 0, q, p, _, hp => by simp [sonsTo] at hp
  | n + 1, q, p, hq, hp => by
    rw [sonsTo] at hp ⊢
    split at hp
    · rename_i h
      rw [if_pos h]
      rw [List.length_append] at hp
      have hl : [n].length = 1 := rfl
      have hg : ∀ x, x < (sonsTo c i n).length → (sonsTo c i n ++ [n]).getD x 0 = (sonsTo c i n).getD x 0 := fun x hx => by
        rw [List.getD_eq_getElem?_getD, List.getElem?_append_left hx, List.getD_eq_getElem?_getD]
      rw [hg q (by omega)]
      by_cases hp2 : p < (sonsTo c i n).length
      · rw [hg p hp2]; exact sonsTo_lt hq hp2
      · have hpe : p = (sonsTo c i n).length := by omega
        have : (sonsTo c i n ++ [n]).getD p 0 = n := by rw [hpe, List.getD_eq_getElem?_getD, List.getElem?_append_right (Nat.le_refl _), Nat.sub_self]; rfl
        rw [this]
        exact (sonsTo_mem.1 (getD_mem0 (l := sonsTo c i n) (j := q) (by omega))).1
    · rename_i h
      rw [if_neg h]
      exact sonsTo_lt hq hp
/-! ### what Repair finds -/
section
variable {c : MCase} {set out : List Int} {i : Nat}
def oval (c : MCase) (set out : List Int) (i q : Nat) : Int := max (mayI c set ((sonsN c i).getD q 0)).first ((rAt c set out i q).nf - ((rAt c set out i q).rl - (mayI c set ((sonsN c i).getD q 0)).last))
theorem rAt_succ (q : Nat) : rAt c set out i (q + 1) = rStep (mayI c set) (rAt c set out i q) ((sonsN c i).getD q 0) := rfl
theorem rAt_len : ∀ j, (rAt c set out i j).out.length = out.length
  | 0 => rfl
  | j + 1 => by rw [rAt_succ]; simp only [rStep, List.length_set]; exact rAt_len j
theorem rAt_other {k : Nat} : ∀ j, j ≤ (sonsN c i).length → ¬ k ∈ sonsN c i → (rAt c set out i j).out.getD k 0 = out.getD k 0
  | 0, _, _ => rfl
  | j + 1, hj, hk => by
    rw [rAt_succ]
    simp only [rStep]
    rw [List.getD_eq_getElem?_getD, List.getElem?_set, if_neg (fun (h : (sonsN c i).getD j 0 = k) => hk (by rw [← h]; exact getD_mem0 (by omega))), ← List.getD_eq_getElem?_getD]
    exact rAt_other j (by omega) hk
theorem rAt_son (hl : ∀ k ∈ sonsN c i, k < out.length) {q : Nat} : ∀ j, j ≤ (sonsN c i).length → q < j → (rAt c set out i j).out.getD ((sonsN c i).getD q 0) 0 = oval c set out i q
  | 0, _, hq => by omega
  | j + 1, hj, hq => by
    rw [rAt_succ]
    simp only [rStep]
    rw [List.getD_eq_getElem?_getD, List.getElem?_set]
    by_cases hqj : q = j
    · subst hqj
      rw [if_pos rfl, if_pos (by rw [rAt_len]; exact hl _ (getD_mem0 (by omega)))]; rfl
    · have := sonsTo_lt (c := c) (i := (i : Int)) (n := c.nodes.length) (q := q) (p := j) (by omega) hj
      change (sonsN c i).getD q 0 < (sonsN c i).getD j 0 at this
      rw [if_neg (by omega), ← List.getD_eq_getElem?_getD]
      exact rAt_son hl j (by omega) (by omega)
theorem rAt_nf : ∀ j, (rAt c set out i j).nf = out.getD i 0 - (c.nodes.getD i default).high - sumTo (oval c set out i) j ∧ (rAt c set out i j).nl = out.getD i 0 - (c.nodes.getD i default).low - sumTo (oval c set out i) j
  | 0 => by
    show out.getD i 0 - (c.nodes.getD i default).high = _ - 0 ∧ out.getD i 0 - (c.nodes.getD i default).low = _ - 0
    omega
  | j + 1 => by
    have h := rAt_nf j
    rw [rAt_succ, sumTo]
    have e : oval c set out i j = max (mayI c set ((sonsN c i).getD j 0)).first ((rAt c set out i j).nf - ((rAt c set out i j).rl - (mayI c set ((sonsN c i).getD j 0)).last)) := rfl
    simp only [rStep]
    rw [← e]
    omega
theorem rAt_rl : ∀ j, (rAt c set out i j).rf = sumFirst c set i (sonsN c i).length - sumFirst c set i j ∧ (rAt c set out i j).rl = sumLast c set i (sonsN c i).length - sumLast c set i j
  | 0 => by
    show sumFirst c set i _ = _ - 0 ∧ sumLast c set i _ = _ - 0
    omega
  | j + 1 => by
    have h := rAt_rl j
    rw [rAt_succ]
    simp only [rStep]
    have e1 : sumFirst c set i (j + 1) = sumFirst c set i j + (mayI c set ((sonsN c i).getD j 0)).first := rfl
    have e2 : sumLast c set i (j + 1) = sumLast c set i j + (mayI c set ((sonsN c i).getD j 0)).last := rfl
    omega
end
theorem rTo_len (c : MCase) (set : List Int) : ∀ i, (rTo c set i).length = c.nodes.length
  | 0 => by rw [rTo, List.length_set]; simp
  | i + 1 => by rw [rTo, rAt_len, rTo_len c set i]
/-- A value that is set stays. -/
theorem rTo_stay {c : MCase} {set : List Int} {k i : Nat} (hk : k < c.nodes.length) (hu : (c.nodes.getD k default).up < (i : Int)) : ∀ j, i ≤ j → j ≤ c.nodes.length → (rTo c set j).getD k 0 = (rTo c set i).getD k 0 := by
  intro j
  induction j with
  | zero => intro h _; rw [show i = 0 by omega]
  | succ j ih =>
    intro h hj
    rcases Nat.lt_or_ge i (j + 1) with h1 | h1
    · rw [rTo, rAt_other _ (Nat.le_refl _) (fun hm => by have := (sonsTo_mem.1 hm).2; omega)]
      exact ih (by omega) (by omega)
    · rw [show i = j + 1 by omega]
theorem up_son {c : MCase} (ok : MOk c) {i : Nat} (hi : i < c.nodes.length) (hp : 0 < i) : ∃ u q, u < i ∧ q < (sonsN c u).length ∧ (sonsN c u).getD q 0 = i := by
  obtain ⟨_, _, _, _, h5⟩ := ok.node i hi
  obtain ⟨a, b⟩ := h5 hp
  obtain ⟨u, hu⟩ := Int.eq_ofNat_of_zero_le a
  obtain ⟨q, hq, e⟩ := mem_getD0 (l := sonsN c u) (sonsTo_mem.2 ⟨hi, hu⟩)
  exact ⟨u, q, by omega, hq, e⟩
theorem rep_son {c : MCase} (ok : MOk c) {set : List Int} {u q : Nat} (hu : u < c.nodes.length) (hq : q < (sonsN c u).length) : (repairL c set).getD ((sonsN c u).getD q 0) 0 = oval c set (rTo c set u) u q := by
  obtain ⟨a, b, e⟩ := ok.son (getD_mem0 hq)
  unfold repairL
  rw [rTo_stay (i := u + 1) a (by omega) _ (by omega) (Nat.le_refl _), rTo, rAt_son (fun k hk => by rw [rTo_len]; exact (ok.son hk).1) _ (Nat.le_refl _) hq]
theorem rep_own {c : MCase} (ok : MOk c) {set : List Int} {u : Nat} (hu : u < c.nodes.length) : (rTo c set u).getD u 0 = (repairL c set).getD u 0 := by
  obtain ⟨_, _, _, h4, h5⟩ := ok.node u hu
  unfold repairL
  refine (rTo_stay (i := u) hu ?_ _ (by omega) (Nat.le_refl _)).symm
  rcases Nat.eq_zero_or_pos u with hz | hp
  · rw [h4 hz]; omega
  · exact (h5 hp).2
theorem rep_zero {c : MCase} (ok : MOk c) {set : List Int} : (repairL c set).getD 0 0 = (mayI c set 0).first := by
  have h1 := ok.n1
  rw [← rep_own ok (u := 0) (by omega), rTo, List.getD_eq_getElem?_getD, List.getElem?_set, if_pos rfl, if_pos (by simp; omega)]; rfl
section
variable {c : MCase} (ok : MOk c) {set : List Int} (hd : ∀ i, i < c.nodes.length → okN c set i = true)
include ok hd
theorem node_feas {i : Nat} (hi : i < c.nodes.length) (hp : 0 < (sonsN c i).length) {out : List Int} (h1 : (mayI c set i).first ≤ out.getD i 0) (h2 : out.getD i 0 ≤ (mayI c set i).last) : ∀ j, j ≤ (sonsN c i).length →
    (rAt c set out i j).nf ≤ (rAt c set out i j).rl ∧ (rAt c set out i j).rf ≤ (rAt c set out i j).nl ∧ (rAt c set out i j).nf ≤ (rAt c set out i j).nl ∧ (rAt c set out i j).rf ≤ (rAt c set out i j).rl
  | 0, _ => by
    rw [may_eq ok set hi, if_pos hp] at h1 h2
    dsimp only at h1 h2
    have a := (rAt_nf (c := c) (set := set) (out := out) (i := i) 0)
    have b := (rAt_rl (c := c) (set := set) (out := out) (i := i) 0)
    have z1 : sumTo (oval c set out i) 0 = 0 := rfl
    have z2 : sumFirst c set i 0 = 0 := rfl
    have z3 : sumLast c set i 0 = 0 := rfl
    obtain ⟨_, _, n1, _⟩ := ok.node i hi
    have m1 : sumFirst c set i (sonsN c i).length ≤ sumLast c set i (sonsN c i).length := sum_mono fun q hq => (son_may ok hd hq).2.1
    omega
  | j + 1, hj => by
    have ih := node_feas hi hp h1 h2 j (by omega)
    have hm := son_may ok hd (i := i) (q := j) (by omega)
    have m2 : sumFirst c set i (sonsN c i).length - sumFirst c set i (j + 1) ≤ sumLast c set i (sonsN c i).length - sumLast c set i (j + 1) := by
      have := sum_part (f := fun q => (mayI c set ((sonsN c i).getD q 0)).last - (mayI c set ((sonsN c i).getD q 0)).first) (n := (sonsN c i).length) (m := j + 1) (by omega) (fun q hq => by have := (son_may ok hd hq).2.1; omega)
      have e : ∀ n, sumTo (fun q => (mayI c set ((sonsN c i).getD q 0)).last - (mayI c set ((sonsN c i).getD q 0)).first) n = sumLast c set i n - sumFirst c set i n := fun n => by
        induction n with
        | zero => rfl
        | succ n ihn =>
          have e1 : sumFirst c set i (n + 1) = sumFirst c set i n + (mayI c set ((sonsN c i).getD n 0)).first := rfl
          have e2 : sumLast c set i (n + 1) = sumLast c set i n + (mayI c set ((sonsN c i).getD n 0)).last := rfl
          rw [sumTo, ihn]; omega
      rw [e, e] at this
      omega
    have b := (rAt_rl (c := c) (set := set) (out := out) (i := i) (j + 1))
    rw [rAt_succ] at b ⊢
    simp only [rStep] at b ⊢
    omega
theorem oval_in {i : Nat} (hi : i < c.nodes.length) {out : List Int} (h1 : (mayI c set i).first ≤ out.getD i 0) (h2 : out.getD i 0 ≤ (mayI c set i).last) {q : Nat} (hq : q < (sonsN c i).length) :
    (mayI c set ((sonsN c i).getD q 0)).first ≤ oval c set out i q ∧ oval c set out i q ≤ (mayI c set ((sonsN c i).getD q 0)).last := by
  have h := node_feas ok hd hi (by omega) h1 h2 q (by omega)
  have hm := son_may ok hd hq
  unfold oval
  omega
theorem rep_in : ∀ i, i < c.nodes.length → (mayI c set i).first ≤ (repairL c set).getD i 0 ∧ (repairL c set).getD i 0 ≤ (mayI c set i).last := by
  intro i
  induction i using Nat.strongRecOn with
  | _ i ih =>
    intro hi
    rcases Nat.eq_zero_or_pos i with hz | hp
    · subst hz
      rw [rep_zero ok]
      exact ⟨Int.le_refl _, (may_rng ok set hi (hd 0 hi)).2.1⟩
    · obtain ⟨u, q, hu, hq, e⟩ := up_son ok hi hp
      have h := ih u hu (by omega)
      rw [← rep_own ok (by omega)] at h
      rw [← e, rep_son ok (by omega) hq]
      exact oval_in ok hd (by omega) h.1 h.2 hq
theorem rep_sol : Sol c set (repairL c set) where
  len := rTo_len ..
  rng := fun i hi => by
    have := rep_in ok hd i hi
    have := may_rng ok set hi (hd i hi)
    omega
  own := fun i hi hn => by
    have h := rep_in ok hd i hi
    have e : ownIv c set i = ⟨c.vals.getD i 0, c.vals.getD i 0⟩ := by rw [ownIv, if_neg (fun hm => hn (mem_any.1 hm))]
    rw [may_eq ok set hi] at h
    split at h
    · rw [e] at h; dsimp only at h; omega
    · rw [e] at h; dsimp only at h; omega
  bal := fun i hi hp => by
    have h := rep_in ok hd i hi
    rw [← rep_own ok hi] at h
    have f := node_feas ok hd hi hp h.1 h.2 _ (Nat.le_refl _)
    have a := (rAt_nf (c := c) (set := set) (out := rTo c set i) (i := i) (sonsN c i).length)
    have b := (rAt_rl (c := c) (set := set) (out := rTo c set i) (i := i) (sonsN c i).length)
    have e : sumV c (repairL c set) i (sonsN c i).length = sumTo (oval c set (rTo c set i) i) (sonsN c i).length := sum_congr fun q hq => rep_son ok hi hq
    rw [e, ← rep_own ok hi]
    omega
end
end Go.X

/- Cases that the statements make of numbers: their balances hold. Broken balances. No condition. -/
set_option linter.unusedVariables false
namespace Go.X
def upN (N : List MNode) (k : Nat) : Int := (N.getD k default).up
def hang (N : List MNode) (V : List Int) (j : Nat) (n : Nat) : Int := sumTo (fun k => if upN N k = (j : Int) then V.getD k 0 else 0) n
/-- The nodes made so far. -/
structure MkN (n i : Nat) (N : List MNode) (B : List Bool) : Prop where
  nl : N.length = n
  bl : B.length = n
  node : ∀ j, j < i → (0 ≤ (N.getD j default).low ∧ (N.getD j default).low ≤ (N.getD j default).high ∧ (N.getD j default).high ≤ (N.getD j default).low + 5 ∧ (N.getD j default).high ≤ 8) ∧ (j = 0 → upN N j = -1) ∧ (0 < j → 0 ≤ upN N j ∧ upN N j < j)
  sons : ∀ j, j < n → (B.getD j false = true ↔ ∃ k, k < i ∧ upN N k = (j : Int))
theorem nset {N : List MNode} {i k : Nat} {x : MNode} (hi : i < N.length) : (N.set i x).getD k default = if i = k then x else N.getD k default := by
  rw [List.getD_eq_getElem?_getD, List.getElem?_set]
  by_cases h : i = k
  · subst h; rw [if_pos rfl, if_pos hi, if_pos rfl]; rfl
  · rw [if_neg h, if_neg h, List.getD_eq_getElem?_getD]
theorem bset {B : List Bool} {i k : Nat} {x : Bool} (hi : i < B.length) : (B.set i x).getD k false = if i = k then x else B.getD k false := by
  rw [List.getD_eq_getElem?_getD, List.getElem?_set]
  by_cases h : i = k
  · subst h; rw [if_pos rfl, if_pos hi, if_pos rfl]; rfl
  · rw [if_neg h, if_neg h, List.getD_eq_getElem?_getD]
theorem MkN.more {n i : Nat} {N : List MNode} {B : List Bool} (m : MkN n i N B) (hi0 : 0 < i) (hn : i < n) {u : Nat} (hu : u < i) {lo hi : Int} (h1 : 0 ≤ lo) (h2 : lo ≤ hi) (h3 : hi ≤ lo + 5) (h4 : hi ≤ 8) : MkN n (i + 1) (N.set i ⟨(u : Int), lo, hi⟩) (B.set u true) := by
  have hup : ∀ k, upN (N.set i ⟨(u : Int), lo, hi⟩) k = if i = k then (u : Int) else upN N k := fun k => by
    unfold upN
    rw [nset (by rw [m.nl]; exact hn)]
    split <;> rfl
  refine ⟨by rw [List.length_set]; exact m.nl, by rw [List.length_set]; exact m.bl, fun j hj => ?_, fun j hj => ?_⟩
  · rw [hup, nset (by rw [m.nl]; exact hn)]
    by_cases hij : i = j
    · subst hij
      rw [if_pos rfl, if_pos rfl]
      exact ⟨⟨h1, h2, h3, h4⟩, fun h => by omega, fun _ => by omega⟩
    · rw [if_neg hij, if_neg hij]; exact m.node j (by omega)
  · rw [bset (by rw [m.bl]; omega)]
    by_cases huj : u = j
    · rw [if_pos huj]
      exact ⟨fun _ => ⟨i, by omega, by rw [hup, if_pos rfl, huj]⟩, fun _ => rfl⟩
    · rw [if_neg huj, m.sons j hj]
      constructor
      · rintro ⟨k, hk, e⟩
        exact ⟨k, by omega, by rw [hup, if_neg (by omega)]; exact e⟩
      · rintro ⟨k, hk, e⟩
        rw [hup] at e
        by_cases hik : i = k
        · rw [if_pos hik] at e; omega
        · rw [if_neg hik] at e; exact ⟨k, by omega, e⟩
/-- The values made so far: those from m on. -/
structure MkV (n m : Nat) (N : List MNode) (B : List Bool) (V : List Int) : Prop where
  vl : V.length = n
  nn : ∀ j, j < n → 0 ≤ V.getD j 0
  low : sumTo (fun k => V.getD k 0) m ≤ 108 * (n - m)
  big : ∀ j, m ≤ j → j < n → V.getD j 0 ≤ 972
  pend : ∀ j, j < m → V.getD j 0 = sumTo (fun k => if m ≤ k ∧ upN N k = (j : Int) then V.getD k 0 else 0) n
  bal : ∀ j, m ≤ j → j < n → B.getD j false = true → (N.getD j default).low ≤ V.getD j 0 - hang N V j n ∧ V.getD j 0 - hang N V j n ≤ (N.getD j default).high
theorem sum_getD {V : List Int} {m i : Nat} (hn : ∀ j, j < m → 0 ≤ V.getD j 0) (hi : i < m) : V.getD i 0 ≤ sumTo (fun k => V.getD k 0) m := sum_one (f := fun k => V.getD k 0) hi hn
/-- The sons of node i are behind it. -/
theorem pend_hang {n i : Nat} {N : List MNode} {B : List Bool} {V : List Int} (mn : MkN n n N B) (hi : i < n) : sumTo (fun k => if i + 1 ≤ k ∧ upN N k = (i : Int) then V.getD k 0 else 0) n = hang N V i n := by
  unfold hang
  refine sum_congr fun k hk => ?_
  by_cases h : upN N k = (i : Int)
  · obtain ⟨_, h0, h1⟩ := mn.node k hk
    have : i + 1 ≤ k := by
      rcases Nat.eq_zero_or_pos k with hz | hp
      · have := h0 hz; omega
      · have := (h1 hp).2; omega
    rw [if_pos ⟨this, h⟩, if_pos h]
  · rw [if_neg (fun x => h x.2), if_neg h]
theorem hang_congr {n i : Nat} {N : List MNode} {B : List Bool} {V W : List Int} (mn : MkN n n N B) (h : ∀ k, i < k → k < n → W.getD k 0 = V.getD k 0) : hang N W i n = hang N V i n := by
  unfold hang
  refine sum_congr fun k hk => ?_
  by_cases hu : upN N k = (i : Int)
  · obtain ⟨_, h0, h1⟩ := mn.node k hk
    have : i < k := by
      rcases Nat.eq_zero_or_pos k with hz | hp
      · have := h0 hz; omega
      · have := (h1 hp).2; omega
    rw [if_pos hu, if_pos hu, h k this hk]
  · rw [if_neg hu, if_neg hu]
theorem MkV.room {n i : Nat} {N : List MNode} {B : List Bool} {V : List Int} (mn : MkN n n N B) (hn : n ≤ 9) (v : MkV n (i + 1) N B V) (hi : i < n) : 0 ≤ V.getD i 0 ∧ V.getD i 0 ≤ 864 ∧ V.getD i 0 = hang N V i n := by
  have h1 := v.nn i hi
  have h2 := sum_getD (V := V) (m := i + 1) (fun j hj => v.nn j (by omega)) (by omega : i < i + 1)
  have h3 := v.low
  exact ⟨h1, by omega, (v.pend i (by omega)).trans (pend_hang mn hi)⟩
/-- One more value: x at node i; its parent u gets it, too. -/
theorem MkV.step {n i : Nat} {N : List MNode} {B : List Bool} {V : List Int} (mn : MkN n n N B) (hn : n ≤ 9) (v : MkV n (i + 1) N B V) (hi : i < n) {x : Int} (h0 : 0 ≤ x) (hx : x ≤ V.getD i 0 + 108)
    (hb : B.getD i false = true → (N.getD i default).low ≤ x - V.getD i 0 ∧ x - V.getD i 0 ≤ (N.getD i default).high) (hz : ¬ 0 < i) : MkV n i N B (V.set i x) := by
  have e0 : i = 0 := by omega
  subst e0
  have hg : ∀ k, (V.set 0 x).getD k 0 = if 0 = k then x else V.getD k 0 := fun k => set_getD0 (by rw [v.vl]; exact hi)
  obtain ⟨r1, r2, r3⟩ := v.room mn hn hi
  refine ⟨by rw [List.length_set]; exact v.vl, fun j hj => ?_, by rw [sumTo]; omega, fun j _ hj => ?_, fun j hj => by omega, fun j _ hj hB => ?_⟩
  · rw [hg]; split
    · exact h0
    · exact v.nn j hj
  · rw [hg]; split
    · omega
    · exact v.big j (by omega) hj
  · rw [hang_congr (V := V) mn fun k hk _ => by rw [hg, if_neg (by omega)], hg]
    by_cases hj0 : 0 = j
    · subst hj0; rw [if_pos rfl, ← r3]; exact hb hB
    · rw [if_neg hj0]; exact v.bal j (by omega) hj hB
end Go.X

/- Broken balances. No condition. -/
set_option linter.unusedVariables false
namespace Go.X
def lostAt (c : MCase) (i : Nat) (n : Nat) : Int := c.vals.getD i 0 - sumV c c.vals i n
def isBroken (c : MCase) (i : Nat) : Prop := (0 : Int) < (sonsN c i).length ∧ (lostAt c i (sonsN c i).length < (c.nodes.getD i default).low ∨ (c.nodes.getD i default).high < lostAt c i (sonsN c i).length)
instance (c : MCase) (i : Nat) : Decidable (isBroken c i) := by unfold isBroken; infer_instance
def brokenTo (c : MCase) : Nat → List Nat
  | 0 => []
  | i + 1 => if isBroken c i then brokenTo c i ++ [i] else brokenTo c i
def brokenG (c : MCase) : List Int × Int := if mcheck c ≠ 0 then ([], mcheck c) else (ints (brokenTo c c.nodes.length), 0)
theorem brokenTo_len (c : MCase) : ∀ n, (brokenTo c n).length ≤ n
  | 0 => by simp [brokenTo]
  | n + 1 => by
    have := brokenTo_len c n
    rw [brokenTo]
    split
    · rw [List.length_append]; simp; omega
    · omega
theorem sons_same {c d : MCase} (h : d.nodes = c.nodes) (i : Nat) : sonsN d i = sonsN c i := by
  have e : ∀ n, sonsTo d i n = sonsTo c i n := fun n => by
    induction n with
    | zero => rfl
    | succ n ih => rw [sonsTo, sonsTo, ih, h]
  unfold sonsN
  rw [h, e]
/-- The same tree with other values. -/
theorem MOk.with {c : MCase} (ok : MOk c) {v : List Int} (hl : v.length = c.nodes.length) (hv : ∀ i, i < c.nodes.length → 0 ≤ v.getD i 0 ∧ v.getD i 0 ≤ 1000000000) : MOk ⟨c.nodes, v⟩ :=
  ⟨ok.n1, ok.n2, hl, fun i hi => by
    obtain ⟨a, _, b, d, e⟩ := ok.node i hi
    exact ⟨a, hv i hi, b, d, e⟩⟩
theorem Sol.with {c : MCase} {set v : List Int} {w : List Int} (s : Sol c set v) {set2 : List Int} (h : ∀ i, i < c.nodes.length → ¬ (i : Int) ∈ set2 → v.getD i 0 = w.getD i 0) : Sol ⟨c.nodes, w⟩ set2 v :=
  ⟨s.len, s.rng, h, fun i hi hp => by
    have es : sonsN ⟨c.nodes, w⟩ i = sonsN c i := sons_same (c := c) (d := ⟨c.nodes, w⟩) rfl i
    unfold sumV
    rw [es] at hp ⊢
    exact s.bal i hi hp⟩
theorem set_getDd {l : List Int} {k i : Nat} {x : Int} (hk : k < l.length) : (l.set k x).getD i default = if k = i then x else l.getD i default := set_getD0 hk
end Go.X

/- The statement MeterRepairs, in plain lists. No condition. -/
set_option linter.unusedVariables false
namespace Go.X
theorem inc_at : ∀ {l : List Nat} {b i : Nat}, Inc b l → i + 1 < l.length → l.getD i 0 < l.getD (i + 1) 0
  | [x], b, i, _, hi => by simp at hi
  | x :: y :: l, b, 0, h, _ => by
    show x < y
    have := h.2.1; omega
  | x :: y :: l, b, i + 1, h, hi => by
    show (y :: l).getD i 0 < (y :: l).getD (i + 1) 0
    exact inc_at h.2 (by simpa using hi)
theorem inc_snoc : ∀ {l : List Nat} {b x : Nat}, Inc b l → (∀ y ∈ l, y < x) → b ≤ x → Inc b (l ++ [x])
  | [], b, x, _, _, hb => ⟨hb, trivial⟩
  | y :: l, b, x, h, hy, hb => ⟨h.1, inc_snoc h.2 (fun z hz => hy z (List.mem_cons_of_mem _ hz)) (by have := hy y List.mem_cons_self; omega)⟩
theorem listed_inc {c : MCase} (ok : MOk c) {l : List Nat} (hi : Inc 0 l) (hlt : ∀ x ∈ l, x < c.nodes.length) : listedG c (ints l) = 0 := by
  unfold listedG
  rw [if_neg (by rw [mok_check ok]; decide), if_pos]
  refine allTo_true fun i hil => ?_
  rw [ints_len] at hil
  rw [Bool.not_eq_true', decide_eq_false_iff_not]
  unfold badAt
  have h1 : (ints l).getD i 0 = ((l.getD i 0 : Nat) : Int) := ints_at hil
  have h2 := hlt _ (getD_mem0 hil)
  rw [h1, inA_one]
  rintro (h | ⟨h, h3⟩)
  · omega
  · rw [show ((i : Int) - 1).toNat = i - 1 by omega, show (ints l).getD (i - 1) 0 = ((l.getD (i - 1) 0 : Nat) : Int) from ints_at (by omega)] at h3
    have := inc_at (i := i - 1) hi (by omega)
    rw [show i - 1 + 1 = i by omega] at this
    omega
theorem explains_inc {c : MCase} (ok : MOk c) {l : List Nat} (hi : Inc 0 l) (hlt : ∀ x ∈ l, x < c.nodes.length) : explainsG c (ints l) = (okN c (ints l) 0, 0) := by
  unfold explainsG
  rw [if_neg (by rw [listed_inc ok hi hlt]; decide)]
theorem inc_len : ∀ {l : List Nat} {b n : Nat}, Inc b l → (∀ x ∈ l, x < n) → l.length ≤ n - b
  | [], _, _, _, _ => by simp
  | x :: l, b, n, h, hx => by
    have h1 := inc_len (n := n) h.2 (fun y hy => hx y (List.mem_cons_of_mem _ hy))
    have h2 := hx x List.mem_cons_self
    have h3 := h.1
    rw [List.length_cons]; omega
end Go.X

/- Sorting by insertion; lists in order; the statement MeterNamed, in plain lists. No condition. -/
set_option linter.unusedVariables false
namespace Go.X
/-! ### insertion -/
def Ord (l : List Int) (i : Nat) : Prop := ∀ p q, p < q → q < i → l.getD p 0 ≤ l.getD q 0
/-- Elements 0 .. i are in order but for the one at j, which is less than those behind it. -/
structure Mid (l : List Int) (i j : Nat) : Prop where
  others : ∀ p q, p < q → q ≤ i → p ≠ j → q ≠ j → l.getD p 0 ≤ l.getD q 0
  behind : ∀ q, j < q → q ≤ i → l.getD j 0 ≤ l.getD q 0
theorem Mid.done {l : List Int} {i j : Nat} (m : Mid l i j) (h : j = 0 ∨ l.getD (j - 1) 0 ≤ l.getD j 0) (hj : j ≤ i) : Ord l (i + 1) := fun p q h1 h2 => by
  by_cases hp : p = j
  · subst hp; exact m.behind q h1 (by omega)
  · by_cases hq : q = j
    · subst hq
      rcases h with h | h
      · omega
      · by_cases hp2 : p = q - 1
        · rw [hp2]; exact h
        · have := m.others p (q - 1) (by omega) (by omega) hp (by omega)
          omega
    · exact m.others p q h1 (by omega) hp hq
def swap2 (l : List Int) (j : Nat) : List Int := (l.set (j + 1) (l.getD j 0)).set j (l.getD (j + 1) 0)
theorem swap2_at {l : List Int} {j k : Nat} (hj : j + 1 < l.length) : (swap2 l j).getD k 0 = if k = j then l.getD (j + 1) 0 else if k = j + 1 then l.getD j 0 else l.getD k 0 := by
  unfold swap2
  rw [set_getD0 (by rw [List.length_set]; omega), set_getD0 hj]
  by_cases h1 : k = j
  · rw [if_pos (show j = k from h1.symm), if_pos h1]
  · rw [if_neg (show ¬ j = k from fun h => h1 h.symm), if_neg h1]
    by_cases h2 : k = j + 1
    · rw [if_pos (show j + 1 = k from h2.symm), if_pos h2]
    · rw [if_neg (show ¬ j + 1 = k from fun h => h2 h.symm), if_neg h2]
theorem Mid.swap {l : List Int} {i j : Nat} (m : Mid l i (j + 1)) (hi : i < l.length) (hj : j + 1 ≤ i) (h : l.getD (j + 1) 0 < l.getD j 0) : Mid (swap2 l j) i j := by
  have hg := fun k => swap2_at (l := l) (j := j) (k := k) (by omega)
  refine ⟨fun p q h1 h2 h3 h4 => ?_, fun q h1 h2 => ?_⟩
  · rw [hg, hg, if_neg h3, if_neg h4]
    by_cases hp : p = j + 1
    · rw [if_pos hp, if_neg (by omega)]
      exact m.others j q (by omega) h2 (by omega) (by omega)
    · rw [if_neg hp]
      by_cases hq : q = j + 1
      · rw [if_pos hq]; exact m.others p j (by omega) (by omega) hp (by omega)
      · rw [if_neg hq]; exact m.others p q h1 h2 hp hq
  · rw [hg, hg, if_pos rfl, if_neg (by omega)]
    by_cases hq : q = j + 1
    · rw [if_pos hq]; omega
    · rw [if_neg hq]; exact m.behind q (by omega) h2
end Go.X

/- The statement MeterNamed, in plain lists. No condition. -/
set_option linter.unusedVariables false
namespace Go.X
end Go.X

/- Combinations increase; values that were changed. No condition. -/
set_option linter.unusedVariables false
namespace Go.X
structure Chg (n : Nat) (w V : List Int) (L : List Nat) : Prop where
  own : ∀ i, i < n → ¬ i ∈ L → w.getD i 0 = V.getD i 0
  lt : ∀ x ∈ L, x < n
  one : ∀ k, L.count k ≤ 1
theorem Chg.again {n : Nat} {w V : List Int} {L : List Nat} (h : Chg n w V L) {k : Nat} {x : Int} (hk : k < V.length) (hm : k ∈ L) : Chg n w (V.set k x) L := ⟨fun i hi hn => by
  rw [set_getD0 hk, if_neg (fun e : k = i => hn (e ▸ hm))]; exact h.own i hi hn, h.lt, h.one⟩
theorem Chg.more {n : Nat} {w V : List Int} {L : List Nat} (h : Chg n w V L) {k : Nat} {x : Int} (hk : k < V.length) (hkn : k < n) (hm : ¬ k ∈ L) : Chg n w (V.set k x) (L ++ [k]) := ⟨fun i hi hn => by
  rw [List.mem_append, List.mem_singleton] at hn
  rw [set_getD0 hk, if_neg (fun e : k = i => hn (.inr e.symm))]; exact h.own i hi (fun hl => hn (.inl hl)), fun x hx => by
  rcases List.mem_append.1 hx with h1 | h1
  · exact h.lt x h1
  · rw [List.mem_singleton] at h1; omega, fun j => by
  rw [List.count_append, List.count_singleton]
  have := h.one j
  by_cases hj : k = j
  · subst hj
    rw [List.count_eq_zero.2 hm]; simp
  · simp [hj]; omega⟩
end Go.X

/- The document's bills are the program's. No condition. -/
set_option linter.unusedVariables false
namespace Go.X
def inF (n a b : Int) : Bool := decide (a ≤ n) && decide (n ≤ b)
theorem inF_iff {n a b : Int} : inF n a b = true ↔ a ≤ n ∧ n ≤ b := by
  unfold inF; rw [Bool.and_eq_true, decide_eq_true_eq, decide_eq_true_eq]
def pminT (t : MTariff) : Nat → Int
  | 0 => -1
  | i + 1 => (t.tiers.getD i default).min
def ppctT (t : MTariff) : Nat → Int
  | 0 => 0
  | i + 1 => (t.tiers.getD i default).pct
theorem pm_ok {t : MTariff} : ∀ {i : Nat}, tiersOk t i = true → -1 ≤ pminT t i ∧ pminT t i ≤ 50000 ∧ 0 ≤ ppctT t i
  | 0, _ => ⟨Int.le_refl _, by rw [pminT]; omega, Int.le_refl _⟩
  | i + 1, h => by
    have h1 := allTo_at h (Nat.lt_succ_self i)
    rw [Bool.not_eq_true', decide_eq_false_iff_not] at h1
    unfold badTier at h1
    simp only [not_or, Classical.not_not] at h1
    have a := inA_one.1 h1.1.1
    have b := inA_one.1 h1.1.2
    rw [pminT, ppctT]; omega
theorem tier_ref {t : MTariff} {i : Nat} (h : tiersOk t i = true) : (¬ inF (t.tiers.getD i default).min (pminT t i + 1) 50000 = true ∨ ¬ inF (t.tiers.getD i default).pct (ppctT t i) 100 = true) ↔ badTier t i := by
  have p := pm_ok h
  unfold badTier
  rw [inF_iff, inF_iff, inA_one, inA_one]
  cases i with
  | zero =>
    rw [pminT, ppctT]
    constructor
    · intro h; left; omega
    · intro h; omega
  | succ i =>
    rw [show (((i + 1 : Nat) : Int) - 1).toNat = i by omega]
    rw [pminT, ppctT] at p ⊢
    omega
theorem right_price {t : MTariff} (h1 : ¬ (t.price.length : Int) ≠ 24) (h2 : ¬ (8 : Int) < t.tiers.length) {i : Nat} (hi : i < t.price.length) (h : ¬ inF (t.price.getD i default) 0 1000 = true) : rightG t = 6 := by
  rw [rightG, if_neg h1, if_neg h2, if_pos]
  refine .inl (.inl fun h3 => h (inF_iff.2 (inA_iff.1 h3 _ ?_)))
  rw [List.getD_eq_getElem?_getD, List.getElem?_eq_getElem hi]; exact List.getElem_mem hi
theorem right_tier {t : MTariff} (h1 : ¬ (t.price.length : Int) ≠ 24) (h2 : ¬ (8 : Int) < t.tiers.length) {i : Nat} (hi : i < t.tiers.length) (h : badTier t i) : rightG t = 6 := by
  rw [rightG, if_neg h1, if_neg h2]
  split
  · rfl
  · rw [if_neg]
    rw [tiersOk, allTo_false (s := i) (by omega) (by rw [Bool.not_eq_false', decide_eq_true_eq]; exact h)]; decide
theorem right_rest {t : MTariff} (h1 : ¬ (t.price.length : Int) ≠ 24) (h2 : ¬ (8 : Int) < t.tiers.length) (h : ¬ inF t.base 0 1000000000 = true ∨ ¬ inF t.credit 0 100 = true) : rightG t = 6 := by
  rw [rightG, if_neg h1, if_neg h2, if_pos]
  rw [inF_iff, inF_iff] at h
  rcases h with h | h
  · exact .inl (.inr fun h3 => h (inA_one.1 h3))
  · exact .inr fun h3 => h (inA_one.1 h3)
theorem right_all {t : MTariff} (h1 : ¬ (t.price.length : Int) ≠ 24) (h2 : ¬ (8 : Int) < t.tiers.length) (hp : ∀ j, j < t.price.length → 0 ≤ t.price.getD j 0 ∧ t.price.getD j 0 ≤ 1000) (ht : tiersOk t t.tiers.length = true)
    (h : ¬ (¬ inF t.base 0 1000000000 = true ∨ ¬ inF t.credit 0 100 = true)) : rightG t = 0 := by
  simp only [not_or, Classical.not_not] at h
  rw [rightG, if_neg h1, if_neg h2, if_neg, if_pos ht]
  rw [inA_one.2 (inF_iff.1 h.1), inA_one.2 (inF_iff.1 h.2), inA_iff.2 fun x hx => ?_]
  · simp
  · obtain ⟨j, hj, rfl⟩ := List.mem_iff_getElem.1 hx
    have := hp j hj
    rwa [List.getD_eq_getElem?_getD, List.getElem?_eq_getElem hj] at this
/-! ### a bill -/
theorem ref_rng {t : MTariff} (k : TOk11 t) {v : List Int} {n : Nat} (hv : ∀ j, j < n → 0 ≤ v.getD j 0 ∧ v.getD j 0 ≤ 100000) : (0 ≤ energyTo v n ∧ energyTo v n ≤ n * 100000) ∧ 0 ≤ costTo t.price v n ∧ costTo t.price v n ≤ n * 100000000 := by
  have c : ∀ j, j < n → 0 ≤ v.getD j 0 * t.price.getD (j % 24) 0 ∧ v.getD j 0 * t.price.getD (j % 24) 0 ≤ 100000000 := fun j hj => by
    have h1 := price_at k j
    have h2 := hv j hj
    exact ⟨Int.mul_nonneg h2.1 h1.1, Int.le_trans (Int.mul_le_mul h2.2 h1.2 h1.1 (by omega)) (by decide)⟩
  exact ⟨⟨sum_nonneg fun j hj => (hv j hj).1, sum_le fun j hj => (hv j hj).2⟩, sum_nonneg fun j hj => (c j hj).1, sum_le fun j hj => (c j hj).2⟩
theorem ref_one {t : MTariff} (k : TOk11 t) {x : Int} (hx : 0 ≤ x ∧ x ≤ 100000) (i : Nat) : 0 ≤ x * t.price.getD (i % 24) 0 ∧ x * t.price.getD (i % 24) 0 ≤ 100000000 := by
  have h1 := price_at k i
  exact ⟨Int.mul_nonneg hx.1 h1.1, Int.le_trans (Int.mul_le_mul hx.2 h1.2 h1.1 (by omega)) (by decide)⟩
theorem ref_vals {v : List Int} (hv : ∀ j, j < v.length → 0 ≤ v.getD j 0 ∧ v.getD j 0 ≤ 100000) : ∀ x ∈ v, 0 ≤ x ∧ x ≤ 100000 := fun x hx => by
  obtain ⟨j, hj, rfl⟩ := List.mem_iff_getElem.1 hx
  have := hv j hj
  rwa [List.getD_eq_getElem?_getD, List.getElem?_eq_getElem hj] at this
theorem make_bad_value {t : MTariff} {u : MUse} (h0 : ¬ rightG t ≠ 0) (h1 : ¬ (1000 : Int) < u.values.length) {i : Nat} (hi : i < u.values.length) (h : ¬ inF (u.values.getD i default) 0 100000 = true) : makeG t u = (default, 6) := by
  rw [makeG, if_neg h0, if_neg h1, if_pos]
  refine .inl fun h3 => h (inF_iff.2 (inA_iff.1 h3 _ ?_))
  rw [List.getD_eq_getElem?_getD, List.getElem?_eq_getElem hi]; exact List.getElem_mem hi
theorem make_bad_out {t : MTariff} {u : MUse} (h0 : ¬ rightG t ≠ 0) (h1 : ¬ (1000 : Int) < u.values.length) (h : ¬ inF u.out 0 50000 = true) : makeG t u = (default, 6) := by
  rw [makeG, if_neg h0, if_neg h1, if_pos]
  exact .inr fun h3 => h (inF_iff.2 (inA_one.1 h3))
def pctR (t : MTariff) (out : Int) : Nat → Int
  | 0 => 0
  | n + 1 => if (t.tiers.getD n default).min ≤ out then min (t.tiers.getD n default).pct t.credit else pctR t out n
theorem pctR_eq {t : MTariff} (k : TOk11 t) (out : Int) : ∀ n, pctR t out n = min (pctTo t out n) t.credit
  | 0 => by have := k.credit; rw [pctR, pctTo]; omega
  | n + 1 => by
    rw [pctR, pctTo]
    split
    · rfl
    · exact pctR_eq k out n
theorem pctR_all {t : MTariff} (k : TOk11 t) (out : Int) : pctR t out t.tiers.length = percentL t out := pctR_eq k out _
theorem credit_up {t : MTariff} {u : MUse} (h0 : 0 ≤ amountL t u * percentL t u.out) (h : 50 ≤ amountL t u * percentL t u.out % 100) : amountL t u * percentL t u.out / 100 + 1 = creditL t u := by unfold creditL; omega
theorem credit_down {t : MTariff} {u : MUse} (h0 : 0 ≤ amountL t u * percentL t u.out) (h : ¬ 50 ≤ amountL t u * percentL t u.out % 100) : amountL t u * percentL t u.out / 100 = creditL t u := by unfold creditL; omega
end Go.X

/- Repeated lists. No condition. -/
set_option linter.unusedVariables false
namespace Go.X
theorem repeat_first {α : Type} (x z : α) (n : Nat) : splice (List.replicate n z) [x] 0 = List.replicate (min 1 n) x ++ List.replicate (n - min 1 n) z := by
  unfold splice
  cases n with
  | zero => simp
  | succ n => simp [List.replicate_succ, show min 1 (n + 1) = 1 by omega]
theorem repeat_step {α : Type} (x z : α) {m n : Nat} (h : m ≤ n) :
    splice (List.replicate m x ++ List.replicate (n - m) z) (((List.replicate m x ++ List.replicate (n - m) z).drop 0).take (m - 0)) m =
      List.replicate (m + min m (n - m)) x ++ List.replicate (n - (m + min m (n - m))) z := by
  unfold splice
  have e1 : (List.replicate m x ++ List.replicate (n - m) z).take m = List.replicate m x := by
    rw [List.take_append, List.length_replicate, Nat.sub_self, List.take_zero, List.append_nil, List.take_of_length_le (by simp)]
  have e2 : (List.replicate m x ++ List.replicate (n - m) z).length = n := by simp; omega
  rw [List.drop_zero, Nat.sub_zero, e1, e2, List.length_replicate, List.take_replicate, Nat.min_eq_left (Nat.min_le_left _ _), List.drop_append, List.length_replicate,
    List.drop_of_length_le (l := List.replicate m x) (by simp), List.nil_append, List.drop_replicate, List.replicate_append_replicate]
  congr 2
  omega
end Go.X

/- Structs of numbers, compared. No condition. -/
set_option linter.unusedSimpArgs false
set_option linter.unusedVariables false
namespace Go.X
theorem run_eqInt {P : Program} {t : TypeId} {k' k : IntKind} [u : Und P t (.int k')] {m n : Int} {d : Nat} (w : World) : (Op.equalIn (d + 1) t (.int k m) (.int k n)).run P w = .ok (m == n) w := by
  unfold Op.equalIn
  rw [bind_ok (u.pf w)]
  simp only [if_true]
  rfl
/-- The fields of a struct, each with the values that are compared, and what comes of it. -/
inductive EqF (P : Program) (d : Nat) (xs ys : Array Value) : List Field → Bool → Prop
  | n : EqF P d xs ys [] true
  | c {f : Field} {fs : List Field} {k k' : IntKind} {m n : Int} {r : Bool} (hn : (f.name == "_") = false) (ht : IsAgg P f.type false) (u : Und P f.type (.int k')) (hx : xs[f.offset]? = some (.int k m)) (hy : ys[f.offset]? = some (.int k n)) (hr : EqF P d xs ys fs r) : EqF P d xs ys (f :: fs) (decide (m = n) && r)
theorem run_part {P : Program} {t : TypeId} [ht : IsAgg P t false] {xs : Array Value} {i : Nat} {v : Value} (h : xs[i]? = some v) (w : World) : (part t xs i).run P w = .ok v w := by
  unfold part
  rw [bind_ok (ht.pf w)]
  simp only [Bool.false_eq_true, if_false, h]
  rfl
theorem eq_loop {P : Program} {d : Nat} {xs ys : Array Value} {fs : List Field} {r : Bool} (h : EqF P (d + 1) xs ys fs r) (w : World) :
    (forIn (m := Sem) fs ((none, ()) : Option Bool × Unit) fun f __s =>
                  if f.name ≠ "_" then do
                    let __do_lift ← part f.type xs f.offset
                    let __do_lift_1 ← part f.type ys f.offset
                    let __do_lift ← Op.equalIn (d + 1) f.type __do_lift __do_lift_1
                    if (!__do_lift) = true then pure (ForInStep.done (some false, ()))
                      else pure (ForInStep.yield (none, ()))
                  else pure (ForInStep.yield (none, ()))).run P w = .ok (if r = true then (none, ()) else (some false, ())) w := by
  induction h with
  | n => rfl
  | @c f fs k k' m n r hn ht u hx hy hr ih =>
    rw [List.forIn_cons, if_pos (by intro h; rw [h] at hn; simp at hn)]
    by_cases hmn : m = n
    · subst hmn
      rw [bind_ok (a := ForInStep.yield (none, ())) (w1 := w)]
      · simp only
        rw [ih]; simp
      · rw [bind_ok (run_part (ht := ht) hx w), bind_ok (run_part (ht := ht) hy w), bind_ok (run_eqInt (u := u) w)]
        simp only [beq_self_eq_true, Bool.not_true, Bool.false_eq_true, if_false]
        rfl
    · rw [bind_ok (a := ForInStep.done (some false, ())) (w1 := w)]
      · simp only [hmn, decide_false, Bool.false_and, Bool.false_eq_true, if_false]
        rfl
      · rw [bind_ok (run_part (ht := ht) hx w), bind_ok (run_part (ht := ht) hy w), bind_ok (run_eqInt (u := u) w)]
        have : (m == n) = false := by simp [hmn]
        simp only [this, Bool.not_false, if_true]
        rfl
theorem run_eqStruct {P : Program} {t : TypeId} {fs : List Field} (u : Und P t (.struct fs.toArray)) (hs : P.stoodInHeld t = false) {xs ys : Array Value} {d : Nat} {r : Bool} (h : EqF P (d + 1) xs ys fs r) (w : World) :
    (Op.equalIn (d + 2) t (.agg xs) (.agg ys)).run P w = .ok r w := by
  unfold Op.equalIn
  rw [bind_ok (u.pf w)]
  simp only
  have hp : (program).run P w = .ok P w := rfl
  rw [bind_ok hp, if_neg (by rw [hs]; decide)]
  have hl := eq_loop h w
  rw [bind_ok (a := (if r = true then (none, ()) else (some false, ()))) (w1 := w)]
  · cases r <;> rfl
  · simp only [List.forIn_toArray]
    exact hl
section
variable {P : Program} {ops : Array Oper} {e : Env} {o r : List PHeap} {d : Option Tmp} {ty : TypeId} {pos : String} {aft : Array Edge}
theorem run_guardAgg {t : TypeId} {x y : Operand} {xs ys : Array Value} {op : BinOp} (hg : P.eqGuardType P.depth t = false) (hop : op = .eql ∨ op = .neq) (w : World) : (eqGuard op t x y (.agg xs) (.agg ys)).run P w = .ok () w := by
  have hp : (program).run P w = .ok P w := rfl
  rcases hop with rfl | rfl
  · unfold eqGuard
    simp only [Bool.not_true, Bool.false_eq_true, if_false]
    rw [bind_ok hp, bind_ok hp]
    simp only [hg, Bool.not_false, if_true]
    rfl
  · unfold eqGuard
    simp only [Bool.not_true, Bool.false_eq_true, if_false]
    rw [bind_ok hp, bind_ok hp]
    simp only [hg, Bool.not_false, if_true]
    rfl
theorem Q.eqlS {t t2 : TypeId} {x y : Operand} {fs : List Field} {us vs : List Value} {b : Bool} (hx : ev e x = some (.agg us.toArray)) (hy : ev e y = some (.agg vs.toArray)) (u : Und P t (.struct fs.toArray)) (hs : P.stoodInHeld t = false) (hg : P.eqGuardType P.depth t = false)
    (h : EqF P 9999 us.toArray vs.toArray fs b) : Quiet P ops ⟨d, .binOp .eql t x y t2, ty, pos, aft, none⟩ e o r (.bool b) := .mk fun a w he _ => by
  simp only [execOp, ev_rel he hx, ev_rel he hy]
  refine run_val ?_
  rw [bind_ok (run_guardAgg hg (.inl rfl) w)]
  unfold binOp
  simp only
  have h1 : (Op.equal t (.agg us.toArray) (.agg vs.toArray)).run P w = .ok b w := run_eqStruct (d := 9998) u hs h w
  rw [bind_ok h1]
  rfl
theorem Q.neqS {t t2 : TypeId} {x y : Operand} {fs : List Field} {us vs : List Value} {b : Bool} (hx : ev e x = some (.agg us.toArray)) (hy : ev e y = some (.agg vs.toArray)) (u : Und P t (.struct fs.toArray)) (hs : P.stoodInHeld t = false) (hg : P.eqGuardType P.depth t = false)
    (h : EqF P 9999 us.toArray vs.toArray fs b) : Quiet P ops ⟨d, .binOp .neq t x y t2, ty, pos, aft, none⟩ e o r (.bool (!b)) := .mk fun a w he _ => by
  simp only [execOp, ev_rel he hx, ev_rel he hy]
  refine run_val ?_
  rw [bind_ok (run_guardAgg hg (.inr rfl) w)]
  unfold binOp
  simp only
  have h1 : (Op.equal t (.agg us.toArray) (.agg vs.toArray)).run P w = .ok b w := run_eqStruct (d := 9998) u hs h w
  rw [bind_ok h1]
  rfl
end
end Go.X

/- copy into a part of a slice. No condition. -/
set_option linter.unusedSimpArgs false
set_option linter.unusedVariables false
namespace Go.X
section
variable {P : Program} {ops : Array Oper} {e : Env} {o r : List PHeap} {d : Option Tmp} {ty : TypeId} {pos : String} {aft : Array Edge}
variable {α : Type} {enc : α → List Value} {sz : Nat} {h : PHeap} {xs : List α} {v : Value}
end
section
variable {c : Cx} {ops : Array Oper} {rest : List Oper} {k : List Item} {e : Env} {o r : List PHeap} {d : Nat} {ty : TypeId} {pos : String} {aft : Array Edge}
variable {α : Type} {enc : α → List Value} {sz : Nat} {h : PHeap} {xs : List α} {v : Value}
variable {fl : List Nat} {f : List PHeap} {i0 : Nat} {bb : Bool} {tt uu : Plan}
end
end Go.X

/- Slices of 16-bit numbers. No condition. -/
set_option linter.unusedSimpArgs false
set_option linter.unusedVariables false
namespace Go.X
open Go.ChangeShapes Go.WideShapes Go.Deep
section
variable {H : Type} {enc : TypeId × Value → H} {P : Program} {W : World} {base : Nat} {v : Value} {d : DataW H} {ps : List MemPlace}
end
end Go.X

/- min of three. No condition. -/
set_option linter.unusedVariables false
namespace Go.X
section
variable {P : Program} {ops : Array Oper} {e : Env} {o r : List PHeap} {d : Option Tmp} {ty : TypeId} {pos : String} {aft : Array Edge}
end
end Go.X

/- A byte of a string. No condition. -/
set_option linter.unusedVariables false
namespace Go.X
section
variable {P : Program} {ops : Array Oper} {e : Env} {o r : List PHeap} {d : Option Tmp} {ty : TypeId} {pos : String} {aft : Array Edge}
end
end Go.X

/- Pointers to elements, functions compared with nil. No condition. -/
set_option linter.unusedVariables false
namespace Go.X
section
variable {α : Type} {P : Program} {ops : Array Oper} {e : Env} {o r : List PHeap} {d : Option Tmp} {ty : TypeId} {pos : String} {aft : Array Edge} {v : Value} {enc : α → List Value} {sz : Nat} {h : PHeap} {xs : List α}
theorem Q.nilCheckE {x : Operand} {i k : Nat} (hx : ev e x = some (pat v sz i k)) [s : Arr v enc sz h xs] (hi : i < xs.length) : Quiet P ops ⟨d, .nilCheck x, ty, pos, aft, none⟩ e o r (pat v sz i k) :=
  .mk fun a w he _ => by
    obtain ⟨b, kk, cs, T, fr, c, hv, hb, hp, hc⟩ := s.at' (i := i) hi
    have hx' := ev_rel he hx
    rw [hp] at hx' ⊢
    simp only [execOp, hx']; rfl
end
end Go.X

/- Maps. No condition. -/
set_option linter.unusedSimpArgs false
set_option linter.unusedVariables false
namespace Go.X
section
variable {κ : Type}
def entsK (enc : κ → Value) : Nat → List (κ × Value) → List MapEntry
  | _, [] => []
  | i, (k, v) :: r => { key := enc k, val := v, born := i } :: entsK enc (i + 1) r
def look [DecidableEq κ] (x : κ) : List (κ × Value) → Nat → Option (Nat × Value)
  | [], _ => none
  | (k, v) :: r, i => if x = k then some (i, v) else look x r (i + 1)
/-- What a map has at a key. -/
def getM [DecidableEq κ] (x : κ) : List (κ × Value) → Option Value
  | [] => none
  | (k, v) :: r => if x = k then some v else getM x r
def putM [DecidableEq κ] (x : κ) (u : Value) : List (κ × Value) → List (κ × Value)
  | [] => [(x, u)]
  | (k, v) :: r => if x = k then (x, u) :: r else (k, v) :: putM x u r
theorem look_get [DecidableEq κ] (x : κ) : ∀ (es : List (κ × Value)) (i : Nat), (look x es i).map Prod.snd = getM x es
  | [], _ => rfl
  | (k, v) :: r, i => by
    rw [look, getM]
    split
    · rfl
    · exact look_get x r (i + 1)
theorem look_none [DecidableEq κ] {x : κ} : ∀ {es : List (κ × Value)} {i : Nat} (u : Value), look x es i = none → putM x u es = es ++ [(x, u)]
  | [], _, _, _ => rfl
  | (k, v) :: r, i, u, h => by
    rw [look] at h
    split at h
    · cases h
    · rename_i hk
      rw [putM, if_neg hk, look_none u h, List.cons_append]
theorem look_some [DecidableEq κ] {x : κ} {enc : κ → Value} {u : Value} : ∀ {es : List (κ × Value)} {i b n : Nat} {v : Value}, look x es i = some (n, v) →
    ∃ j, n = i + j ∧ j < es.length ∧ ((entsK enc b es)[j]?).map (·.key) = some (enc x) ∧ (entsK enc b es).modify j (fun e => { e with key := enc x, val := u }) = entsK enc b (putM x u es) ∧ (putM x u es).length = es.length
  | [], _, _, _, _, h => by cases h
  | (k, v') :: r, i, b, n, v, h => by
    rw [look] at h
    split at h
    · rename_i hk
      simp only [Option.some.injEq, Prod.mk.injEq] at h
      subst hk
      refine ⟨0, by omega, by simp, rfl, ?_, by rw [putM, if_pos rfl]; rfl⟩
      rw [putM, if_pos rfl]
      rfl
    · rename_i hk
      obtain ⟨j, h1, h2, h3, h4, h5⟩ := look_some (enc := enc) (u := u) (b := b + 1) h
      refine ⟨j + 1, by omega, by simp; omega, by simpa [entsK] using h3, ?_, by rw [putM, if_neg hk]; simp [h5]⟩
      rw [putM, if_neg hk, entsK, entsK, List.modify_succ_cons, h4]
theorem entsK_snoc (enc : κ → Value) (x : κ) (u : Value) : ∀ (es : List (κ × Value)) (i : Nat), entsK enc i (es ++ [(x, u)]) = entsK enc i es ++ [{ key := enc x, val := u, born := i + es.length }]
  | [], i => by simp [entsK]
  | (k, v) :: r, i => by
    rw [List.cons_append, entsK, entsK_snoc enc x u r, entsK, List.cons_append, List.length_cons, show i + 1 + r.length = i + (r.length + 1) by omega]
def mapO (enc : κ → Value) (es : List (κ × Value)) : Obj := .map (entsK enc 0 es).toArray es.length
def mapH (b : Nat) (enc : κ → Value) (es : List (κ × Value)) : PHeap := sing b (mapO enc es)
class KeyT [DecidableEq κ] (P : Program) (t : TypeId) (enc : κ → Value) : Prop where
  chk : ∀ (b : Bool) x w, (Instr.checkKey b 10000 t (enc x)).run P w = .ok () w
  fnd : ∀ x (es : List (κ × Value)) i w, (Instr.findKey t (enc x) (entsK enc i es)).run P w = .ok (look x es 0) w
  same : ∀ x, Instr.sameBits 10000 (enc x) (enc x) = true
end
/-! ### keys -/
def encK1 (x : Int) : Value := .int .i64 x
def encK2 (x : Int × Int) : Value := .agg #[.int .i64 x.1, .int .i64 x.2]
theorem findNow_int {x : Int} : ∀ (es : List (Int × Value)) (b i : Nat), Instr.findNow (.int .i64) (encK1 x) (entsK encK1 b es) i = some (look x es i)
  | [], _, _ => rfl
  | (k, v) :: r, b, i => by
    rw [entsK, Instr.findNow, look]
    simp only [encK1, Instr.sameNow, if_true]
    by_cases h : x = k
    · subst h
      simp
    · rw [if_neg h]
      have : (x == k) = false := by simp [h]
      simp only [this]
      exact findNow_int r (b + 1) (i + 1)
theorem KeyT.int {P : Program} {t : TypeId} (u : P.underlying t = some (.int .i64)) : KeyT P t encK1 where
  chk b x w := MapKept.run_checkKey u (by simp [encK1, MapKept.IsKey]) b 9999
  fnd x es i w := MapKept.run_findKey u (findNow_int es i 0)
  same x := by simp [encK1, Instr.sameBits]
section
variable {P : Program} {t el : TypeId} {ki : IntKind}
theorem for2 {β : Type} {f : Nat → β → Sem (ForInStep β)} {b0 b1 b2 : β} {w : World} (h0 : (f 0 b0).run P w = .ok (.yield b1) w) (h1 : (f 1 b1).run P w = .ok (.yield b2) w) : (forIn (m := Sem) [0, 1] b0 f).run P w = .ok b2 w := by
  rw [List.forIn_cons, bind_ok h0]
  simp only
  rw [List.forIn_cons, bind_ok h1]
  simp only
  rfl
theorem for2a {β : Type} {f : Nat → β → Sem (ForInStep β)} {b0 b1 : β} {w : World} (h0 : (f 0 b0).run P w = .ok (.done b1) w) : (forIn (m := Sem) [0, 1] b0 f).run P w = .ok b1 w := by
  rw [List.forIn_cons, bind_ok h0]
  rfl
theorem for2b {β : Type} {f : Nat → β → Sem (ForInStep β)} {b0 b1 b2 : β} {w : World} (h0 : (f 0 b0).run P w = .ok (.yield b1) w) (h1 : (f 1 b1).run P w = .ok (.done b2) w) : (forIn (m := Sem) [0, 1] b0 f).run P w = .ok b2 w := by
  rw [List.forIn_cons, bind_ok h0]
  simp only
  rw [List.forIn_cons, bind_ok h1]
  rfl
theorem run_eqPair (u : Und P t (.array 2 el)) (ht : IsAgg P el false) (s : TySize P el 1) (ui : Und P el (.int ki)) (x y : Int × Int) (d : Nat) (w : World) :
    (Op.equalIn (d + 2) t (encK2 x) (encK2 y)).run P w = .ok (decide (x = y)) w := by
  unfold Op.equalIn encK2
  rw [bind_ok (u.pf w)]
  simp only
  rw [bind_ok (s.pf w)]
  simp only [Std.Legacy.Range.forIn_eq_forIn_range', Std.Legacy.Range.size, Nat.sub_zero, Nat.add_one_sub_one, Nat.div_one]
  obtain ⟨x1, x2⟩ := x
  obtain ⟨y1, y2⟩ := y
  show ((forIn (m := Sem) [0, 1] _ _) >>= _).run P w = _
  have p0 : ∀ (a b : Int), (part el #[Value.int .i64 a, .int .i64 b] (0 * 1)).run P w = .ok (.int .i64 a) w := fun a b => run_part (ht := ht) rfl w
  have p1 : ∀ (a b : Int), (part el #[Value.int .i64 a, .int .i64 b] (1 * 1)).run P w = .ok (.int .i64 b) w := fun a b => run_part (ht := ht) rfl w
  by_cases h1 : x1 = y1
  · subst h1
    by_cases h2 : x2 = y2
    · subst h2
      rw [bind_ok (a := (none, ())) (w1 := w) (for2 (b1 := (none, ())) ?_ ?_)]
      · simp only [decide_true]; rfl
      · rw [bind_ok (p0 _ _), bind_ok (p0 _ _), bind_ok (run_eqInt (u := ui) w)]
        simp only [beq_self_eq_true, Bool.not_true, Bool.false_eq_true, if_false]; rfl
      · rw [bind_ok (p1 _ _), bind_ok (p1 _ _), bind_ok (run_eqInt (u := ui) w)]
        simp only [beq_self_eq_true, Bool.not_true, Bool.false_eq_true, if_false]; rfl
    · rw [bind_ok (a := (some false, ())) (w1 := w) (for2b (b1 := (none, ())) ?_ ?_)]
      · simp only [Prod.mk.injEq, h2, and_false, decide_false]; rfl
      · rw [bind_ok (p0 _ _), bind_ok (p0 _ _), bind_ok (run_eqInt (u := ui) w)]
        simp only [beq_self_eq_true, Bool.not_true, Bool.false_eq_true, if_false]; rfl
      · rw [bind_ok (p1 _ _), bind_ok (p1 _ _), bind_ok (run_eqInt (u := ui) w)]
        have : (x2 == y2) = false := by simp [h2]
        simp only [this, Bool.not_false, if_true]; rfl
  · rw [bind_ok (a := (some false, ())) (w1 := w) (for2a ?_)]
    · simp only [Prod.mk.injEq, h1, false_and, decide_false]; rfl
    · rw [bind_ok (p0 _ _), bind_ok (p0 _ _), bind_ok (run_eqInt (u := ui) w)]
      have : (x1 == y1) = false := by simp [h1]
      simp only [this, Bool.not_false, if_true]; rfl
theorem run_chkPair (u : Und P t (.array 2 el)) (ht : IsAgg P el false) (s : TySize P el 1) (ui : Und P el (.int ki)) (x : Int × Int) (b : Bool) (d : Nat) (w : World) :
    (Instr.checkKey b (d + 2) t (encK2 x)).run P w = .ok () w := by
  have ci : ∀ m : Int, (Instr.checkKey b (d + 1) el (.int .i64 m)).run P w = .ok () w := fun m => by
    unfold Instr.checkKey
    rw [bind_ok (ui.pf w)]
    rfl
  unfold Instr.checkKey encK2
  rw [bind_ok (u.pf w)]
  simp only [Std.Legacy.Range.forIn_eq_forIn_range', Std.Legacy.Range.size, Nat.sub_zero, Nat.add_one_sub_one, Nat.div_one]
  obtain ⟨x1, x2⟩ := x
  have p0 : ∀ (a b : Int), (part el #[Value.int .i64 a, .int .i64 b] (0 * 1)).run P w = .ok (.int .i64 a) w := fun a b => run_part (ht := ht) rfl w
  have p1 : ∀ (a b : Int), (part el #[Value.int .i64 a, .int .i64 b] (1 * 1)).run P w = .ok (.int .i64 b) w := fun a b => run_part (ht := ht) rfl w
  show ((forIn (m := Sem) [0, 1] _ _) >>= _).run P w = _
  rw [bind_ok (a := PUnit.unit) (w1 := w) (for2 (b1 := PUnit.unit) ?_ ?_)]
  · rfl
  · rw [bind_ok (s.pf w), bind_ok (p0 _ _), bind_ok (ci _)]; rfl
  · rw [bind_ok (s.pf w), bind_ok (p1 _ _), bind_ok (ci _)]; rfl
theorem ask_pair (u : Und P t (.array 2 el)) (ht : IsAgg P el false) (s : TySize P el 1) (ui : Und P el (.int ki)) (x : Int × Int) (w : World) : ∀ (es : List ((Int × Int) × Value)) (b i : Nat),
    (Instr.findAsking t (encK2 x) (entsK encK2 b es) i).run P w = .ok (look x es i) w
  | [], _, _ => rfl
  | (k, v) :: r, b, i => by
    rw [entsK, Instr.findAsking, look]
    have he : (Op.equal t (encK2 x) (encK2 k)).run P w = .ok (decide (x = k)) w := run_eqPair (d := 9998) u ht s ui x k w
    dsimp only
    rw [bind_ok he]
    by_cases h : x = k
    · rw [if_pos h, if_pos (by simpa using h)]; rfl
    · rw [if_neg h, if_neg (by simpa using h)]
      exact ask_pair u ht s ui x w r (b + 1) (i + 1)
theorem KeyT.pair (hu : P.underlying t = some (.array 2 el)) (u : Und P t (.array 2 el)) (ht : IsAgg P el false) (s : TySize P el 1) (ui : Und P el (.int ki)) : KeyT P t encK2 where
  chk b x w := run_chkPair u ht s ui x b 9998 w
  fnd x es i w := by
    refine (run_findKey_eq (P := P) w (k := t) (by rw [hu]) (encK2 x) (entsK encK2 i es)).trans ?_
    exact ask_pair u ht s ui x w es i 0
  same x := by simp [encK2, Instr.sameBits]
end
/-! ### operations -/
section
variable {P : Program} {ops : Array Oper} {e : Env} {o r : List PHeap} {d : Option Tmp} {ty : TypeId} {pos : String} {aft : Array Edge} {κ : Type} {enc : κ → Value}
theorem Makes.map {t : TypeId} : Makes P ops ⟨d, .makeMap t none, ty, pos, aft, none⟩ e (mapO enc []) (fun b => .map (some b)) := fun a w _ => by
  refine ⟨rfl, ?_⟩
  simp only [execOp]
  refine run_val ?_
  rfl
class HasM (b : Nat) (o r : List PHeap) {κ : outParam Type} (enc : outParam (κ → Value)) (es : outParam (List (κ × Value))) : Prop where
  pf : InM (mapH b enc es) o r
instance (priority := high) HasM.head {b : Nat} {es : List (κ × Value)} {o r : List PHeap} : HasM b (mapH b enc es :: o) r enc es := ⟨⟨.inl List.mem_cons_self⟩⟩
instance HasM.tail {b : Nat} {κ' : Type} {enc' : κ' → Value} {es : List (κ' × Value)} {g : PHeap} {o r : List PHeap} [t : HasM b o r enc' es] : HasM b (g :: o) r enc' es := ⟨⟨orMap t.pf.pf (List.mem_cons_of_mem _) id⟩⟩
instance (priority := low) HasM.readH {b : Nat} {es : List (κ × Value)} {r : List PHeap} : HasM b [] (mapH b enc es :: r) enc es := ⟨⟨.inr List.mem_cons_self⟩⟩
instance (priority := low) HasM.readT {b : Nat} {κ' : Type} {enc' : κ' → Value} {es : List (κ' × Value)} {g : PHeap} {r : List PHeap} [t : HasM b [] r enc' es] : HasM b [] (g :: r) enc' es := ⟨⟨.inr (List.mem_cons_of_mem _ (t.pf.pf.resolve_left (fun h => by cases h)))⟩⟩
theorem HasM.heap {b : Nat} {es : List (κ × Value)} (h : HasM b o r enc es) {w : World} (hr : Rd o r w) : w.heap[b]? = some (mapO enc es) := by
  rcases h.pf.pf with h1 | h1
  · exact hr.1 _ h1 b _ (sing_self _ _)
  · exact hr.2 _ h1 b _ (sing_self _ _)
theorem run_lookup [DecidableEq κ] {t kt et : TypeId} (u : Und P t (.map kt et)) [k : KeyT P kt enc] {z : Value} (hz : ∀ w, (zeroValue et).run P w = .ok z w) {b : Nat} {es : List (κ × Value)} {w : World} (hb : w.heap[b]? = some (mapO enc es)) (x : κ) (c : Bool) :
    (Instr.lookup t (.map (some b)) (enc x) c).run P w = .ok (if c = true then .tuple #[(getM x es).getD z, .bool (getM x es).isSome] else (getM x es).getD z) w := by
  unfold Instr.lookup
  rw [bind_ok (u.pf w)]
  simp only
  have e1 : (getObj b).run P w = .ok (.map (entsK enc 0 es).toArray es.length) w := MapKept.run_getObj_map hb
  rw [bind_ok e1]
  simp only
  rw [bind_ok (a := (entsK enc 0 es).toArray) (w1 := w) rfl]
  rw [bind_ok (k.chk _ x w)]
  have hf := k.fnd x es 0 w
  have hg := look_get x es 0
  rw [bind_ok hf]
  cases hl : look x es 0 with
  | none =>
    rw [hl] at hg
    have hg : none = getM x es := hg
    simp only
    rw [bind_ok (hz w), bind_ok (a := (z, false)) (w1 := w) rfl, ← hg]
    cases c <;> rfl
  | some p =>
    obtain ⟨i, v⟩ := p
    rw [hl] at hg
    have hg : some v = getM x es := hg
    simp only
    rw [bind_ok (a := (v, true)) (w1 := w) rfl, ← hg]
    cases c <;> rfl
theorem Q.lookup [DecidableEq κ] {t kt et : TypeId} [u : Und P t (.map kt et)] [k : KeyT P kt enc] (z : Value) (hz : ∀ w, (zeroValue et).run P w = .ok z w) {b : Nat} {es : List (κ × Value)} {m i : Operand} (x : κ) (hm : ev e m = some (.map (some b))) (hi : ev e i = some (enc x)) [h : HasM b o r enc es] :
    Quiet P ops ⟨d, .lookup t m i false, ty, pos, aft, none⟩ e o r ((getM x es).getD z) := .mk fun a w he hr => by
  simp only [execOp, ev_rel he hm, ev_rel he hi]
  exact run_val (run_lookup (k := k) u hz (h.heap hr) x false)
theorem Q.lookup2 [DecidableEq κ] {t kt et : TypeId} [u : Und P t (.map kt et)] [k : KeyT P kt enc] (z : Value) (hz : ∀ w, (zeroValue et).run P w = .ok z w) {b : Nat} {es : List (κ × Value)} {m i : Operand} (x : κ) (hm : ev e m = some (.map (some b))) (hi : ev e i = some (enc x)) [h : HasM b o r enc es] :
    Quiet P ops ⟨d, .lookup t m i true, ty, pos, aft, none⟩ e o r (.tuple #[(getM x es).getD z, .bool (getM x es).isSome]) := .mk fun a w he hr => by
  simp only [execOp, ev_rel he hm, ev_rel he hi]
  exact run_val (run_lookup (k := k) u hz (h.heap hr) x true)
class TakeM (b : Nat) (o : List PHeap) {κ : outParam Type} (enc : outParam (κ → Value)) (es : outParam (List (κ × Value))) (o1 : outParam (List PHeap)) : Prop where
  pf : o.Perm (mapH b enc es :: o1)
instance (priority := high) TakeM.head {b : Nat} {es : List (κ × Value)} {o : List PHeap} : TakeM b (mapH b enc es :: o) enc es o := ⟨List.Perm.refl _⟩
instance TakeM.tail {b : Nat} {κ' : Type} {enc' : κ' → Value} {es : List (κ' × Value)} {g : PHeap} {o o1 : List PHeap} [t : TakeM b o enc' es o1] : TakeM b (g :: o) enc' es (g :: o1) := ⟨(t.pf.cons g).trans (List.Perm.swap _ _ _)⟩
theorem run_mapUpdate [DecidableEq κ] {t kt et : TypeId} (u : Und P t (.map kt et)) [k : KeyT P kt enc] {b : Nat} {es : List (κ × Value)} {w : World} (hb : w.heap[b]? = some (mapO enc es)) (x : κ) (v : Value) :
    (Instr.mapUpdate t (.map (some b)) (enc x) v).run P w = .ok () { w with heap := w.heap.setIfInBounds b (mapO enc (putM x v es)) } := by
  unfold Instr.mapUpdate
  rw [bind_ok (u.pf w)]
  simp only
  have e1 : (getObj b).run P w = .ok (.map (entsK enc 0 es).toArray es.length) w := MapKept.run_getObj_map hb
  rw [bind_ok e1]
  simp only
  rw [bind_ok (k.chk _ x w)]
  have hf := k.fnd x es 0 w
  rw [bind_ok hf]
  cases hl : look x es 0 with
  | none =>
    simp only
    rw [MapKept.run_setObj_map _ hb]
    simp only [List.push_toArray, mapO, look_none v hl, entsK_snoc, List.length_append, List.length_cons, List.length_nil, Nat.zero_add]
  | some p =>
    obtain ⟨i, v'⟩ := p
    obtain ⟨j, h1, h2, h3, h4, h5⟩ := look_some (enc := enc) (u := v) (b := 0) hl
    obtain rfl : i = j := by omega
    simp only
    have hks : (Instr.keyThatStays ((((entsK enc 0 es).toArray[i]?).map (·.key)).getD (enc x)) (enc x)).run P w = .ok (enc x) w := by
      rw [List.getElem?_toArray, h3]
      unfold Instr.keyThatStays
      rw [Option.getD_some, if_pos (k.same x)]
      rfl
    rw [bind_ok hks, MapKept.run_setObj_map _ hb]
    simp only [List.modify_toArray, h4, mapO, h5]
theorem mapH_none {b x : Nat} {es : List (κ × Value)} (h : mapH b enc es x = none) : x ≠ b := by
  rintro rfl
  simp [mapH, sing] at h
theorem none_mapH {b x : Nat} {es : List (κ × Value)} (h : x ≠ b) : mapH b enc es x = none := by simp [mapH, sing, h]
theorem Stp0.mapUpdate [DecidableEq κ] {t kt et : TypeId} [u : Und P t (.map kt et)] [k : KeyT P kt enc] {b : Nat} {es : List (κ × Value)} {m i y : Operand} {v : Value} {o1 : List PHeap} (x : κ) (hm : ev e m = some (.map (some b))) (hi : ev e i = some (enc x)) (hy : ev e y = some v) [tk : TakeM b o enc es o1] :
    Stp0 P ops ⟨d, .mapUpdate t m i y, ty, pos, aft, none⟩ e o r (fun v' o2 => v' = undef ∧ o2 = mapH b enc (putM x v es) :: o1) := fun a w he hs => by
  have hs1 := hs.perm tk.pf
  have hh : w.heap[b]? = some (mapO enc es) := hs1.so _ List.mem_cons_self b _ (sing_self _ _)
  have hlt : b < w.heap.size := (Array.getElem?_eq_some_iff.1 hh).1
  unfold Does
  simp only [Region.wanted, if_true, execOp, ev_rel he hm, ev_rel he hi, ev_rel he hy, run_unit (run_mapUpdate (k := k) u hh x v)]
  refine ⟨_, ⟨trivial, rfl⟩, Sep.swap hs1 ?_ ?_ ?_ rfl rfl⟩
  · exact fun x hx => none_mapH (mapH_none hx)
  · intro x' ob hb
    obtain ⟨rfl, rfl⟩ := sing_some hb
    simp [hlt]
  · intro x' hx
    have := mapH_none hx
    simp [Ne.symm this]
theorem Stp.mapUpdate [DecidableEq κ] {t kt et : TypeId} [u : Und P t (.map kt et)] [k : KeyT P kt enc] {b : Nat} {es : List (κ × Value)} {m i y : Operand} {v : Value} {o1 : List PHeap} (x : κ) (hm : ev e m = some (.map (some b))) (hi : ev e i = some (enc x)) (hy : ev e y = some v) [tk : TakeM b o enc es o1] :
    Stp P ops ⟨d, .mapUpdate t m i y, ty, pos, aft, none⟩ e o r (fun v' o2 => v' = undef ∧ o2 = mapH b enc (putM x v es) :: o1) := fun D a w he hs =>
  (Stp0.mapUpdate (tk := ⟨(tk.pf.cons D).trans (List.Perm.swap _ _ _)⟩) x hm hi hy a w he hs).mono fun v' w' ⟨o2, ⟨h1, h2⟩, hs'⟩ => ⟨o2, ⟨mapH b enc (putM x v es) :: o1, ⟨h1, rfl⟩, by rw [h2]; exact List.Perm.swap _ _ _⟩, hs'⟩
end
section
variable {c : Cx} {ops : Array Oper} {rest : List Oper} {k : List Item} {e : Env} {o r : List PHeap} {d : Nat} {ty : TypeId} {pos : String} {aft : Array Edge} {κ : Type}
theorem XO.map {t : TypeId} (enc : κ → Value) (h : ∀ b, XO c ops rest k ((d, some (.map (some b))) :: e) (mapH b enc [] :: o) r) :
    XO c ops (⟨some d, .makeMap t none, ty, pos, aft, none⟩ :: rest) k e o r := XO.m (Makes.map (enc := enc)) h
theorem XO.mapUpdate [DecidableEq κ] {enc : κ → Value} {t kt et : TypeId} [u : Und c.P t (.map kt et)] [ky : KeyT c.P kt enc] {b : Nat} {es : List (κ × Value)} {m i y : Operand} {v : Value} {o1 : List PHeap} (x : κ) (hm : ev e m = some (.map (some b))) (hi : ev e i = some (enc x)) (hy : ev e y = some v) [tk : TakeM b o enc es o1]
    (h : XO c ops rest k e (mapH b enc (putM x v es) :: o1) r) : XO c ops (⟨none, .mapUpdate t m i y, ty, pos, aft, none⟩ :: rest) k e o r :=
  XO.s0 (Stp.mapUpdate (k := ky) (tk := tk) x hm hi hy) fun _ _ ⟨_, h2⟩ => by subst h2; exact h
variable {fl : List Nat} {f : List PHeap} {i0 : Nat} {bb : Bool} {tt uu : Plan}
theorem XT.mapUpdate [DecidableEq κ] {enc : κ → Value} {t kt et : TypeId} [u : Und c.P t (.map kt et)] [ky : KeyT c.P kt enc] {b : Nat} {es : List (κ × Value)} {m i y : Operand} {v : Value} {o1 : List PHeap} (hi0 : ops[i0]? = some ⟨none, .mapUpdate t m i y, ty, pos, aft, none⟩) (hok : okOper c.N ⟨none, .mapUpdate t m i y, ty, pos, aft, none⟩ = true)
    (x : κ) (hm : ev e m = some (.map (some b))) (hi : ev e i = some (enc x)) (hy : ev e y = some v) [tk : TakeM b o enc es o1]
    (hn : Keeps bb f (mapH b enc (putM x v es) :: o1) ∧ XT c ops fl f k r tt e (mapH b enc (putM x v es) :: o1)) (hu : XT c ops fl f k r uu e o) : XT c ops fl f k r (.br i0 bb tt uu) e o :=
  XT.s0 hi0 hok (Stp.mapUpdate (k := ky) (tk := tk) x hm hi hy) (fun _ _ ⟨_, h2⟩ => by subst h2; exact hn) hu
end
end Go.X

/- Exclusive or; pairs of numbers compared. No condition. -/
set_option linter.unusedSimpArgs false
set_option linter.unusedVariables false
namespace Go.X
def xorI (k : IntKind) (m n : Int) : Int := k.wrap ((BitVec.ofInt k.bits m ^^^ BitVec.ofInt k.bits n).toNat : Int)
def u64 (n : Int) : Int := IntKind.wrap .u64 n
instance One.map {m : Option Nat} : One (.map m) := ⟨rfl, rfl⟩
def encP (x : Int × Int) : List Value := [.int .i64 x.1, .int .i64 x.2]
section
variable {P : Program} {ops : Array Oper} {e : Env} {o r : List PHeap} {d : Option Tmp} {ty : TypeId} {pos : String} {aft : Array Edge}
theorem Q.xorW {t t2 : TypeId} {x y : Operand} {k : IntKind} {m n : Int} (hx : ev e x = some (.int k m)) (hy : ev e y = some (.int k n)) :
    Quiet P ops ⟨d, .binOp .xor t x y t2, ty, pos, aft, none⟩ e o r (.int k (xorI k m n)) := Q.bin hx hy fun w => by
  have e1 : binOp .xor t (.int k m) (.int k n) = Op.intBits .xor k m n := by simp [binOp]
  rw [e1]
  rfl
theorem Q.neqP {t t2 el : TypeId} {ki : IntKind} {x y : Operand} {a1 a2 b1 b2 : Int} (hx : ev e x = some (.agg #[.int .i64 a1, .int .i64 a2])) (hy : ev e y = some (.agg #[.int .i64 b1, .int .i64 b2])) (u : Und P t (.array 2 el)) (ht : IsAgg P el false) (s : TySize P el 1) (ui : Und P el (.int ki)) (hg : P.eqGuardType P.depth t = false) :
    Quiet P ops ⟨d, .binOp .neq t x y t2, ty, pos, aft, none⟩ e o r (.bool (!decide ((a1, a2) = (b1, b2)))) := .mk fun s' w he _ => by
  simp only [execOp, ev_rel he hx, ev_rel he hy]
  refine run_val ?_
  rw [bind_ok (run_guardAgg hg (.inr rfl) w)]
  unfold binOp
  simp only
  have h1 : (Op.equal t (.agg #[.int .i64 a1, .int .i64 a2]) (.agg #[.int .i64 b1, .int .i64 b2])).run P w = .ok (decide ((a1, a2) = (b1, b2))) w := run_eqPair (d := 9998) u ht s ui (a1, a2) (b1, b2) w
  rw [bind_ok h1]
  rfl
end
end Go.X

/- Chains of signed readings, in plain numbers and lists. No condition. -/
set_option linter.unusedVariables false
namespace Go.X
structure MRd where
  meter : Int
  hour : Int
  value : Int
deriving DecidableEq
instance : Inhabited MRd := ⟨⟨0, 0, 0⟩⟩
structure MLink where
  rd : MRd
  sign : Int
deriving DecidableEq
instance : Inhabited MLink := ⟨⟨default, 0⟩⟩
def mixP (x y : Int) : Int :=
  xorI .u64 (IntKind.wrap .u64 (xorI .u64 (IntKind.wrap .u64 (xorI .u64 x y * 11400714819323198485)) (shrI .u64 (IntKind.wrap .u64 (xorI .u64 x y * 11400714819323198485)) 29) * 13787848793156543929))
    (shrI .u64 (IntKind.wrap .u64 (xorI .u64 (IntKind.wrap .u64 (xorI .u64 x y * 11400714819323198485)) (shrI .u64 (IntKind.wrap .u64 (xorI .u64 x y * 11400714819323198485)) 29) * 13787848793156543929)) 32)
def sigP (key last : Int) (r : MRd) : Int := mixP (mixP (mixP (mixP last (u64 r.meter)) (u64 r.hour)) (u64 r.value)) key
def keyR (r : MRd) : Int × Int := (r.meter, r.hour)
def seenL (rs : List MRd) : List ((Int × Int) × Value) := rs.map fun r => (keyR r, Value.bool true)
def badRd (r : MRd) : Prop := ¬ inA 63 [r.meter] = true ∨ ¬ inA 1000000000 [r.hour, r.value] = true
instance (r : MRd) : Decidable (badRd r) := by unfold badRd; infer_instance
def dupR (rs : List MRd) (r : MRd) : Bool := rs.any fun x => decide (keyR r = keyR x)
def errR (rs : List MRd) (r : MRd) : Int := if badRd r then 6 else if dupR rs r = true then 110 else 0
theorem get_seen (rs : List MRd) (r : MRd) : (getM (keyR r) (seenL rs)).getD (.bool false) = .bool (dupR rs r) := by
  induction rs with
  | nil => rfl
  | cons x rs ih =>
    unfold seenL dupR at *
    rw [List.map_cons, getM, List.any_cons]
    by_cases h : keyR r = keyR x
    · rw [if_pos h]; simp [h]
    · rw [if_neg h, ih]; simp [h]
theorem put_seen {rs : List MRd} {r : MRd} (h : dupR rs r = false) : putM (keyR r) (.bool true) (seenL rs) = seenL (rs ++ [r]) := by
  induction rs with
  | nil => rfl
  | cons x rs ih =>
    unfold seenL dupR at *
    rw [List.any_cons, Bool.or_eq_false_iff, decide_eq_false_iff_not] at h
    rw [List.map_cons, putM, if_neg h.1, ih h.2]; rfl
def lastS (key : Int) (l : List MRd) : Nat → Int
  | 0 => mixP key 1
  | i + 1 => sigP key (lastS key l i) (l.getD i default)
def errAt (l : List MRd) (i : Nat) : Int := errR (l.take i) (l.getD i default)
def linkAt (key : Int) (l : List MRd) (i : Nat) : MLink := ⟨l.getD i default, lastS key l (i + 1)⟩
def links (key : Int) (l : List MRd) (n : Nat) : List MLink := (List.range n).map (linkAt key l)
theorem links_snoc (key : Int) (l : List MRd) (n : Nat) : links key l (n + 1) = links key l n ++ [linkAt key l n] := by
  rw [links, links, List.range_succ, List.map_append]; rfl
theorem links_len (key : Int) (l : List MRd) (n : Nat) : (links key l n).length = n := by rw [links, List.length_map, List.length_range]
/-- The first number that is not zero. -/
def scanTo (f : Nat → Int) : Nat → Option Nat
  | 0 => none
  | n + 1 => match scanTo f n with
    | some i => some i
    | none => if f n ≠ 0 then some n else none
theorem scan_all {f : Nat → Int} : ∀ {n : Nat}, (∀ j, j < n → f j = 0) → scanTo f n = none
  | 0, _ => rfl
  | n + 1, h => by
    rw [scanTo, scan_all fun j hj => h j (by omega)]
    simp [h n (by omega)]
theorem scan_here {f : Nat → Int} {i : Nat} (h : ∀ j, j < i → f j = 0) (hf : f i ≠ 0) : ∀ {n : Nat}, i < n → scanTo f n = some i
  | 0, hi => by omega
  | n + 1, hi => by
    rcases Nat.lt_or_ge i n with h2 | h2
    · rw [scanTo, scan_here h hf h2]
    · obtain rfl : i = n := by omega
      rw [scanTo, scan_all h]
      simp [hf]
theorem scan_none {f : Nat → Int} : ∀ {n : Nat}, scanTo f n = none → ∀ j, j < n → f j = 0
  | 0, _, j, hj => by omega
  | n + 1, h, j, hj => by
    rw [scanTo] at h
    split at h
    · cases h
    · rename_i h2
      split at h
      · cases h
      · rename_i h3
        rcases Nat.lt_or_ge j n with h4 | h4
        · exact scan_none h2 j h4
        · obtain rfl : j = n := by omega
          exact Decidable.of_not_not h3
def signG (key : Int) (l : List MRd) : List MLink × Int :=
  if (4096 : Int) < l.length then ([], 2) else match scanTo (errAt l) l.length with
    | some i => ([], errAt l i)
    | none => (links key l l.length, 0)
def rdsL (ls : List MLink) : List MRd := ls.map (·.rd)
theorem rds_at {ls : List MLink} {i : Nat} (hi : i < ls.length) : (rdsL ls).getD i default = (ls.getD i default).rd := by
  rw [rdsL, List.getD_eq_getElem?_getD, List.getElem?_map, List.getD_eq_getElem?_getD, List.getElem?_eq_getElem hi]; rfl
def chkF (key : Int) (ls : List MLink) (sg : Bool) (i : Nat) : Int :=
  if errAt (rdsL ls) i ≠ 0 then errAt (rdsL ls) i else if sg = true ∧ lastS key (rdsL ls) (i + 1) ≠ (ls.getD i default).sign then 7 else 0
def checkG (key : Int) (ls : List MLink) (sg : Bool) : Int × Int :=
  if (4096 : Int) < ls.length then (0, 2) else match scanTo (chkF key ls sg) ls.length with
    | some i => ((i : Int), chkF key ls sg i)
    | none => ((ls.length : Int), 0)
def meterV (rs : List MRd) (m : Int) (j : Nat) : Int := if (rs.getD j default).meter = m then (rs.getD j default).value else 0
def sumM (rs : List MRd) (m : Int) (n : Nat) : Int := sumTo (meterV rs m) n
def hasM (rs : List MRd) (m : Int) : Bool := rs.any fun r => decide (r.meter = m)
def tabTo (rs : List MRd) : Nat → List (Int × Int)
  | 0 => []
  | m + 1 => if hasM rs m = true then tabTo rs m ++ [((m : Int), sumM rs m rs.length)] else tabTo rs m
def tableG (ls : List MLink) : List (Int × Int) × Int := if (checkG 0 ls false).2 ≠ 0 then ([], (checkG 0 ls false).2) else (tabTo (rdsL ls) 64, 0)
def msumTo (rs : List MRd) : Nat → List (Int × Value)
  | 0 => []
  | i + 1 => putM (rs.getD i default).meter (.int .i64 (sumM rs (rs.getD i default).meter i + (rs.getD i default).value)) (msumTo rs i)
theorem getM_putM {κ : Type} [DecidableEq κ] (x y : κ) (u : Value) : ∀ es : List (κ × Value), getM y (putM x u es) = if y = x then some u else getM y es
  | [] => by simp only [putM, getM]
  | (k, v) :: r => by
    rw [putM]
    by_cases h : x = k
    · subst h
      rw [if_pos rfl, getM, getM]
      split <;> rfl
    · rw [if_neg h, getM, getM, getM_putM x y u r]
      by_cases h2 : y = k
      · subst h2
        rw [if_pos rfl, if_pos rfl, if_neg (Ne.symm h)]
      · rw [if_neg h2, if_neg h2]
theorem take_snocR {l : List MRd} {i : Nat} (hi : i < l.length) : l.take (i + 1) = l.take i ++ [l.getD i default] := by
  rw [List.take_add_one, List.getElem?_eq_getElem hi, List.getD_eq_getElem?_getD, List.getElem?_eq_getElem hi]; rfl
theorem hasM_snoc (l : List MRd) (r : MRd) (m : Int) : hasM (l ++ [r]) m = (hasM l m || decide (r.meter = m)) := by
  rw [hasM, List.any_append, List.any_cons, List.any_nil, Bool.or_false]; rfl
theorem get_msum (rs : List MRd) (m : Int) : ∀ i, i ≤ rs.length → getM m (msumTo rs i) = if hasM (rs.take i) m = true then some (.int .i64 (sumM rs m i)) else none
  | 0, _ => by rw [msumTo, getM, List.take_zero]; rfl
  | i + 1, hi => by
    rw [msumTo, getM_putM, get_msum rs m i (by omega), take_snocR (by omega), hasM_snoc]
    have e : sumM rs m (i + 1) = sumM rs m i + meterV rs m i := rfl
    by_cases h : m = (rs.getD i default).meter
    · rw [if_pos h, if_pos (by simp [h])]
      subst h
      rw [e, meterV, if_pos rfl]
    · rw [if_neg h, e, meterV, if_neg (Ne.symm h), Int.add_zero]
      have : decide ((rs.getD i default).meter = m) = false := decide_eq_false (Ne.symm h)
      rw [this, Bool.or_false]
theorem sum_zeroR {f : Nat → Int} : ∀ {n : Nat}, (∀ j, j < n → f j = 0) → sumTo f n = 0
  | 0, _ => rfl
  | n + 1, h => by rw [sumTo, sum_zeroR fun j hj => h j (by omega), h n (by omega)]; rfl
theorem sum_absent {rs : List MRd} {m : Int} {n : Nat} (hn : n ≤ rs.length) (h : hasM (rs.take n) m = false) : sumM rs m n = 0 := by
  refine sum_zeroR fun j hj => ?_
  rw [meterV, if_neg]
  intro hm
  rw [hasM, List.any_eq_false] at h
  refine h (rs.getD j default) ?_ (by rw [decide_eq_true_eq]; exact hm)
  rw [List.getD_eq_getElem?_getD, List.getElem?_eq_getElem (by omega)]
  exact List.mem_take_iff_getElem.2 ⟨j, by omega, rfl⟩
theorem get_msum0 {rs : List MRd} {m : Int} {i : Nat} (hi : i ≤ rs.length) : (getM m (msumTo rs i)).getD (.int .i64 0) = .int .i64 (sumM rs m i) := by
  rw [get_msum rs m i hi]
  split
  · rfl
  · rename_i h
    rw [sum_absent hi (by simpa using h)]; rfl
theorem has_some {rs : List MRd} {m : Int} : (getM m (msumTo rs rs.length)).isSome = hasM rs m := by
  rw [get_msum rs m _ (Nat.le_refl _), List.take_length]
  cases hasM rs m <;> rfl
end Go.X

/- Chains that were changed: what Verify says of them. No condition. -/
set_option linter.unusedVariables false
namespace Go.X
structure RdsOk (rs : List MRd) : Prop where
  rng : ∀ i, i < rs.length → ¬ badRd (rs.getD i default)
  inj : ∀ a b, a < rs.length → b < rs.length → keyR (rs.getD a default) = keyR (rs.getD b default) → a = b
/-! ### changes -/
theorem RdsOk.of {rs qs : List MRd} (h : RdsOk rs) (f : Nat → Nat) (hf : ∀ a, a < qs.length → f a < rs.length ∧ qs.getD a default = rs.getD (f a) default) (hi : ∀ a b, a < qs.length → b < qs.length → f a = f b → a = b) : RdsOk qs where
  rng i hi' := by rw [(hf i hi').2]; exact h.rng _ (hf i hi').1
  inj a b ha hb he := by
    rw [(hf a ha).2, (hf b hb).2] at he
    exact hi a b ha hb (h.inj _ _ (hf a ha).1 (hf b hb).1 he)
end Go.X
