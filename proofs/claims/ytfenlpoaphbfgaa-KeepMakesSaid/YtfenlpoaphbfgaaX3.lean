/- The operations that only compute or read, and calls. No condition. -/
import Derived.Test.YtfenlpoaphbfgaaX2
import Derived.IntWalk
set_option linter.unusedSimpArgs false
set_option linter.unusedVariables false
namespace Go.X

class IsAgg (P : Program) (t : TypeId) (b : outParam Bool) : Prop where
  pf : ∀ w, (isAgg t).run P w = .ok b w
class TySize (P : Program) (t : TypeId) (n : outParam Nat) : Prop where
  pf : ∀ w, (sizeOf t).run P w = .ok n w
class Und (P : Program) (t : TypeId) (d : outParam TypeDesc) : Prop where
  pf : ∀ w, (underlying t).run P w = .ok d w

theorem run_val {P : Program} {s : Sem Value} {w w' : World} {v : Value} (h : s.run P w = .ok v w') :
    (do pure (.value (← s)) : Sem Next).run P w = .ok (.value v) w' := by rw [run_bind, h]; rfl
theorem run_unit {P : Program} {s : Sem Unit} {w w' : World} (h : s.run P w = .ok () w') :
    (do s; pure .skip : Sem Next).run P w = .ok .skip w' := by rw [run_bind, h]; rfl
theorem bind_ok {α β : Type} {P : Program} {s : Sem α} {g : α → Sem β} {w w1 : World} {a : α} (h : s.run P w = .ok a w1) :
    (s >>= g).run P w = (g a).run P w1 := by rw [run_bind, h]

/-! ### what stands under a guard: a value that is there if the guard says so -/
def lz (b want : Bool) (v : Value) : Value := if b = want then v else undef
theorem lzv {e : Env} {x : Operand} {b want : Bool} {v : Value} (hb : b = want) (h : ev e x = some (lz b want v)) : ev e x = some v := by
  rw [h]; simp [lz, hb]

section
variable {P : Program} {ops : Array Oper} {e : Env} {o r : List PHeap} {d : Option Tmp} {ty : TypeId} {pos : String} {aft : Array Edge}
theorem Quiet.mk {op : Op} {v : Value} (h : ∀ a w, ERel e a → Rd o r w → (execOp (evA a) ⟨d, op, ty, pos, aft, none⟩).run P w = .ok (.value v) w) :
    Quiet P ops ⟨d, op, ty, pos, aft, none⟩ e o r v := fun a w he hr => .inl ⟨rfl, h a w he hr⟩
/-- A guarded operation. -/
theorem Quiet.guard {op : Op} {v : Value} {j : Nat} {want b : Bool} {g : Nat} (hj : (ops[j]?).bind (·.dst) = some g) (hg : find e g = some (.bool b))
    (h : b = want → Quiet P ops ⟨d, op, ty, pos, aft, none⟩ e o r v) : Quiet P ops ⟨d, op, ty, pos, aft, some (j, want)⟩ e o r (lz b want v) := by
  intro a w he hr
  have hv := he g _ hg
  have hy : yielded ops a j = some b := by
    unfold yielded
    rw [hj]
    simp only [Option.bind_some]
    have hlt : g < a.size := by
      rcases Nat.lt_or_ge g a.size with h' | h'
      · exact h'
      · simp [Array.getElem?_eq_none h', undef] at hv
    simp only [Array.getElem?_eq_getElem hlt]
    have : a[g] = .bool b := by simpa [hlt] using hv
    rw [this]
  by_cases hb : b = want
  · rcases h hb a w he hr with ⟨_, h2⟩ | ⟨h1, _⟩
    · left
      refine ⟨by simp [Region.wanted, hy, hb], ?_⟩
      simp only [lz, hb, if_true]
      exact h2
    · simp [Region.wanted] at h1
  · right
    refine ⟨by simp [Region.wanted, hy, hb], by simp [lz, hb]⟩

/-! ### moves, numbers, bools -/
theorem Q.move {x : Operand} {v : Value} (hx : ev e x = some v) : Quiet P ops ⟨d, .move x, ty, pos, aft, none⟩ e o r v :=
  .mk fun a w he _ => by simp only [execOp, ev_rel he hx]; rfl
theorem Q.assign {x : Operand} {v : Value} (hx : ev e x = some v) : Quiet P ops ⟨d, .assign x, ty, pos, aft, none⟩ e o r v :=
  .mk fun a w he _ => by simp only [execOp, ev_rel he hx]; rfl
theorem run_eqGuard_int {op : BinOp} {t : TypeId} {x y : Operand} {k k' : IntKind} {m n : Int} (w : World) : (eqGuard op t x y (.int k m) (.int k' n)).run P w = .ok () w := by
  unfold eqGuard
  cases op <;> rfl
theorem run_eqGuard_bool {op : BinOp} {t : TypeId} {x y : Operand} {m n : Bool} (w : World) : (eqGuard op t x y (.bool m) (.bool n)).run P w = .ok () w := by
  unfold eqGuard
  cases op <;> rfl
theorem Q.bin {op : BinOp} {t t2 : TypeId} {x y : Operand} {k k' : IntKind} {m n : Int} {v : Value} (hx : ev e x = some (.int k m)) (hy : ev e y = some (.int k' n))
    (h : ∀ w, (binOp op t (.int k m) (.int k' n)).run P w = .ok v w) : Quiet P ops ⟨d, .binOp op t x y t2, ty, pos, aft, none⟩ e o r v :=
  .mk fun a w he _ => by
    simp only [execOp, ev_rel he hx, ev_rel he hy]
    refine run_val ?_
    rw [bind_ok (run_eqGuard_int w)]
    exact h w
theorem run_arith {op : BinOp} {t : TypeId} {k : IntKind} {m n : Int} (w : World) :
    (binOp .add t (.int k m) (.int k n)).run P w = .ok (.int k (k.wrap (m + n))) w ∧ (binOp .sub t (.int k m) (.int k n)).run P w = .ok (.int k (k.wrap (m - n))) w ∧
    (binOp .mul t (.int k m) (.int k n)).run P w = .ok (.int k (k.wrap (m * n))) w := by
  simp [binOp, Op.intArith, pure, Sem.run]
def in64 (n : Int) : Prop := -9223372036854775808 ≤ n ∧ n ≤ 9223372036854775807
theorem wrap64_of {n : Int} (h : in64 n) : IntKind.i64.wrap n = n := IntWalk.i64_in n ⟨h.1, h.2⟩
theorem Q.add {t t2 : TypeId} {x y : Operand} {m n : Int} (hx : ev e x = some (.int .i64 m)) (hy : ev e y = some (.int .i64 n)) (hr : in64 (m + n)) :
    Quiet P ops ⟨d, .binOp .add t x y t2, ty, pos, aft, none⟩ e o r (.int .i64 (m + n)) :=
  Q.bin hx hy fun w => by rw [(run_arith (op := .add) w).1, wrap64_of hr]
theorem Q.sub {t t2 : TypeId} {x y : Operand} {m n : Int} (hx : ev e x = some (.int .i64 m)) (hy : ev e y = some (.int .i64 n)) (hr : in64 (m - n)) :
    Quiet P ops ⟨d, .binOp .sub t x y t2, ty, pos, aft, none⟩ e o r (.int .i64 (m - n)) :=
  Q.bin hx hy fun w => by rw [(run_arith (op := .add) w).2.1, wrap64_of hr]
theorem Q.mul {t t2 : TypeId} {x y : Operand} {m n : Int} (hx : ev e x = some (.int .i64 m)) (hy : ev e y = some (.int .i64 n)) (hr : in64 (m * n)) :
    Quiet P ops ⟨d, .binOp .mul t x y t2, ty, pos, aft, none⟩ e o r (.int .i64 (m * n)) :=
  Q.bin hx hy fun w => by rw [(run_arith (op := .add) w).2.2, wrap64_of hr]
theorem Q.addW {t t2 : TypeId} {x y : Operand} {k : IntKind} {m n : Int} (hx : ev e x = some (.int k m)) (hy : ev e y = some (.int k n)) :
    Quiet P ops ⟨d, .binOp .add t x y t2, ty, pos, aft, none⟩ e o r (.int k (k.wrap (m + n))) := Q.bin hx hy fun w => (run_arith (op := .add) w).1
theorem Q.subW {t t2 : TypeId} {x y : Operand} {k : IntKind} {m n : Int} (hx : ev e x = some (.int k m)) (hy : ev e y = some (.int k n)) :
    Quiet P ops ⟨d, .binOp .sub t x y t2, ty, pos, aft, none⟩ e o r (.int k (k.wrap (m - n))) := Q.bin hx hy fun w => (run_arith (op := .add) w).2.1
theorem Q.mulW {t t2 : TypeId} {x y : Operand} {k : IntKind} {m n : Int} (hx : ev e x = some (.int k m)) (hy : ev e y = some (.int k n)) :
    Quiet P ops ⟨d, .binOp .mul t x y t2, ty, pos, aft, none⟩ e o r (.int k (k.wrap (m * n))) := Q.bin hx hy fun w => (run_arith (op := .add) w).2.2
theorem beqd (m n : Int) : (m == n) = decide (m = n) := by by_cases h : m = n <;> simp [h]
theorem Q.lss {t t2 : TypeId} {x y : Operand} {k : IntKind} {m n : Int} (hx : ev e x = some (.int k m)) (hy : ev e y = some (.int k n)) :
    Quiet P ops ⟨d, .binOp .lss t x y t2, ty, pos, aft, none⟩ e o r (.bool (decide (m < n))) := Q.bin hx hy fun w => by simp [binOp, Op.intCmp, pure, Sem.run]
theorem Q.leq {t t2 : TypeId} {x y : Operand} {k : IntKind} {m n : Int} (hx : ev e x = some (.int k m)) (hy : ev e y = some (.int k n)) :
    Quiet P ops ⟨d, .binOp .leq t x y t2, ty, pos, aft, none⟩ e o r (.bool (decide (m ≤ n))) := Q.bin hx hy fun w => by simp [binOp, Op.intCmp, pure, Sem.run]
theorem Q.gtr {t t2 : TypeId} {x y : Operand} {k : IntKind} {m n : Int} (hx : ev e x = some (.int k m)) (hy : ev e y = some (.int k n)) :
    Quiet P ops ⟨d, .binOp .gtr t x y t2, ty, pos, aft, none⟩ e o r (.bool (decide (n < m))) := Q.bin hx hy fun w => by simp [binOp, Op.intCmp, pure, Sem.run]
theorem Q.geq {t t2 : TypeId} {x y : Operand} {k : IntKind} {m n : Int} (hx : ev e x = some (.int k m)) (hy : ev e y = some (.int k n)) :
    Quiet P ops ⟨d, .binOp .geq t x y t2, ty, pos, aft, none⟩ e o r (.bool (decide (n ≤ m))) := Q.bin hx hy fun w => by simp [binOp, Op.intCmp, pure, Sem.run]
theorem Q.eql {t t2 : TypeId} {x y : Operand} {k : IntKind} {m n : Int} (hx : ev e x = some (.int k m)) (hy : ev e y = some (.int k n)) :
    Quiet P ops ⟨d, .binOp .eql t x y t2, ty, pos, aft, none⟩ e o r (.bool (decide (m = n))) := Q.bin hx hy fun w => by simp [binOp, Op.intCmp, pure, Sem.run, beqd]
theorem Q.neq {t t2 : TypeId} {x y : Operand} {k : IntKind} {m n : Int} (hx : ev e x = some (.int k m)) (hy : ev e y = some (.int k n)) :
    Quiet P ops ⟨d, .binOp .neq t x y t2, ty, pos, aft, none⟩ e o r (.bool (decide (m ≠ n))) := Q.bin hx hy fun w => by simp [binOp, Op.intCmp, pure, Sem.run, bne, beqd]
theorem run_eqlB {t : TypeId} [u : Und P t .bool] {m n : Bool} (w : World) : (Op.equal t (.bool m) (.bool n)).run P w = .ok (m == n) w := by
  unfold Op.equal Op.maxDepth
  unfold Op.equalIn
  rw [bind_ok (u.pf w)]
  rfl
theorem Q.eqlB {t t2 : TypeId} [u : Und P t .bool] {x y : Operand} {m n : Bool} (hx : ev e x = some (.bool m)) (hy : ev e y = some (.bool n)) :
    Quiet P ops ⟨d, .binOp .eql t x y t2, ty, pos, aft, none⟩ e o r (.bool (m == n)) := .mk fun a w he _ => by
  simp only [execOp, ev_rel he hx, ev_rel he hy]
  refine run_val ?_
  rw [bind_ok (run_eqGuard_bool w)]
  unfold binOp
  simp only
  rw [bind_ok (run_eqlB w)]
  rfl
theorem Q.neqB {t t2 : TypeId} [u : Und P t .bool] {x y : Operand} {m n : Bool} (hx : ev e x = some (.bool m)) (hy : ev e y = some (.bool n)) :
    Quiet P ops ⟨d, .binOp .neq t x y t2, ty, pos, aft, none⟩ e o r (.bool (m != n)) := .mk fun a w he _ => by
  simp only [execOp, ev_rel he hx, ev_rel he hy]
  refine run_val ?_
  rw [bind_ok (run_eqGuard_bool w)]
  unfold binOp
  simp only
  rw [bind_ok (run_eqlB w)]
  rfl
theorem run_div {t : TypeId} {k : IntKind} {m n : Int} (h : n ≠ 0) (w : World) :
    (binOp .quo t (.int k m) (.int k n)).run P w = .ok (.int k (k.wrap (m.tdiv n))) w ∧ (binOp .rem t (.int k m) (.int k n)).run P w = .ok (.int k (m.tmod n)) w := by
  simp [binOp, Op.intDiv, pure, Sem.run, h]
/-- Division where neither side is negative. -/
theorem Q.quo {t t2 : TypeId} {x y : Operand} {m n : Int} (hx : ev e x = some (.int .i64 m)) (hy : ev e y = some (.int .i64 n)) (hm : 0 ≤ m) (hm' : m ≤ 9223372036854775807) (hn : 0 < n) :
    Quiet P ops ⟨d, .binOp .quo t x y t2, ty, pos, aft, none⟩ e o r (.int .i64 (m / n)) := Q.bin hx hy fun w => by
  rw [(run_div (by omega) w).1, Int.tdiv_eq_ediv_of_nonneg hm, wrap64_of]
  have h1 : 0 ≤ m / n := Int.ediv_nonneg hm (by omega)
  have h2 : m / n ≤ m := Int.ediv_le_self _ hm
  constructor <;> omega
theorem Q.rem {t t2 : TypeId} {x y : Operand} {k : IntKind} {m n : Int} (hx : ev e x = some (.int k m)) (hy : ev e y = some (.int k n)) (hm : 0 ≤ m) (hn : n ≠ 0) :
    Quiet P ops ⟨d, .binOp .rem t x y t2, ty, pos, aft, none⟩ e o r (.int k (m % n)) := Q.bin hx hy fun w => by
  rw [(run_div hn w).2, Int.tmod_eq_emod_of_nonneg hm]
theorem Q.quoT {t t2 : TypeId} {x y : Operand} {k : IntKind} {m n : Int} (hx : ev e x = some (.int k m)) (hy : ev e y = some (.int k n)) (hn : n ≠ 0) :
    Quiet P ops ⟨d, .binOp .quo t x y t2, ty, pos, aft, none⟩ e o r (.int k (k.wrap (m.tdiv n))) := Q.bin hx hy fun w => (run_div hn w).1
theorem Q.remT {t t2 : TypeId} {x y : Operand} {k : IntKind} {m n : Int} (hx : ev e x = some (.int k m)) (hy : ev e y = some (.int k n)) (hn : n ≠ 0) :
    Quiet P ops ⟨d, .binOp .rem t x y t2, ty, pos, aft, none⟩ e o r (.int k (m.tmod n)) := Q.bin hx hy fun w => (run_div hn w).2
theorem Q.not {t : TypeId} {x : Operand} {b : Bool} (hx : ev e x = some (.bool b)) : Quiet P ops ⟨d, .unOp .not t x, ty, pos, aft, none⟩ e o r (.bool (!b)) :=
  .mk fun a w he _ => by simp only [execOp, ev_rel he hx]; rfl
theorem Q.neg {t : TypeId} {x : Operand} {m : Int} (hx : ev e x = some (.int .i64 m)) (h : in64 (0 - m)) : Quiet P ops ⟨d, .unOp .neg t x, ty, pos, aft, none⟩ e o r (.int .i64 (0 - m)) :=
  .mk fun a w he _ => by
    simp only [execOp, ev_rel he hx]
    refine run_val ?_
    simp only [Op.unary, Op.intArith, wrap64_of h]
    rfl
theorem Q.pick {x y z : Operand} {b : Bool} {u v : Value} (hx : ev e x = some (.bool b)) (hy : b = true → ev e y = some u) (hz : b = false → ev e z = some v) :
    Quiet P ops ⟨d, .pick x y z, ty, pos, aft, none⟩ e o r (if b = true then u else v) := .mk fun a w he _ => by
  simp only [execOp, ev_rel he hx]
  cases b with
  | true => simp only [if_true, ev_rel he (hy rfl)]; rfl
  | false => simp only [Bool.false_eq_true, if_false, ev_rel he (hz rfl)]; rfl
/-- x || y -/
theorem Q.or {x z : Operand} {b b2 : Bool} (hx : ev e x = some (.bool b)) (hz : b = false → ev e z = some (.bool b2)) :
    Quiet P ops ⟨d, .pick x (.const (.bool true)) z, ty, pos, aft, none⟩ e o r (.bool (b || b2)) := by
  have := Q.pick (P := P) (ops := ops) (o := o) (r := r) (d := d) (ty := ty) (pos := pos) (aft := aft) (y := .const (.bool true)) (u := .bool true) hx (fun _ => rfl) hz
  cases b <;> exact this
/-- x && y -/
theorem Q.and {x z : Operand} {b b2 : Bool} (hx : ev e x = some (.bool b)) (hz : b = true → ev e z = some (.bool b2)) :
    Quiet P ops ⟨d, .pick x z (.const (.bool false)), ty, pos, aft, none⟩ e o r (.bool (b && b2)) := by
  have := Q.pick (P := P) (ops := ops) (o := o) (r := r) (d := d) (ty := ty) (pos := pos) (aft := aft) (z := .const (.bool false)) (v := .bool false) hx hz (fun _ => rfl)
  cases b <;> exact this
theorem Q.extract {x : Operand} {vs : List Value} {i : Nat} {v : Value} (hx : ev e x = some (.tuple vs.toArray)) (hv : vs[i]? = some v) :
    Quiet P ops ⟨d, .extract x i, ty, pos, aft, none⟩ e o r v := .mk fun a w he _ => by
  simp only [execOp, ev_rel he hx]
  refine run_val ?_
  simp only [Instr.extract, List.getElem?_toArray, hv]
  rfl
theorem Q.conv {s t : TypeId} {x : Operand} {k k' : IntKind} {n : Int} {ds : TypeDesc} [us : Und P s ds] [u : Und P t (.int k)] (hx : ev e x = some (.int k' n)) :
    Quiet P ops ⟨d, .convert s t x, ty, pos, aft, none⟩ e o r (.int k (k.wrap n)) := .mk fun a w he _ => by
  simp only [execOp, ev_rel he hx]
  refine run_val ?_
  unfold convert
  rw [bind_ok (us.pf w), bind_ok (u.pf w)]
  rfl
theorem Q.func {fn : Fn} {l l2 : List Operand} {vs us : List Value} (h1 : ∀ a, ERel e a → l.map (evA a) = vs) (h2 : ∀ a, ERel e a → l2.map (evA a) = us) :
    Quiet P ops ⟨d, .makeFunc fn l.toArray l2.toArray, ty, pos, aft, none⟩ e o r (.func fn vs.toArray us.toArray) := .mk fun a w he _ => by
  simp only [execOp]
  refine run_val ?_
  simp only [List.map_toArray, h1 a he, h2 a he]
  rfl
end
def evs (e : Env) : List Operand → Option (List Value)
  | [] => some []
  | x :: l => match ev e x, evs e l with
    | some v, some vs => some (v :: vs)
    | _, _ => none
theorem evs_rel {e : Env} {a : Array Value} (he : ERel e a) : ∀ {l : List Operand} {vs : List Value}, evs e l = some vs → l.map (evA a) = vs
  | [], vs, h => by simp only [evs, Option.some.injEq] at h; subst h; rfl
  | x :: l, vs, h => by
    simp only [evs] at h
    split at h
    · rename_i v us h1 h2
      simp only [Option.some.injEq] at h
      subst h
      rw [List.map_cons, ev_rel he h1, evs_rel he h2]
    · cases h
end Go.X
