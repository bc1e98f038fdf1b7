/- Tests as propositions; loops that find what they keep; min, max, nil, arrays in a variable. No condition. -/
import Derived.Test.YtfenlpoaphbfgaaX10
set_option linter.unusedSimpArgs false
set_option linter.unusedVariables false
namespace Go.X

/-! ### what a test says -/
class BoolP (b : Bool) (p : outParam Prop) : Prop where
  pf : b = true ↔ p
instance (priority := high) BoolP.dec {p : Prop} [d : Decidable p] : BoolP (decide p) p := ⟨decide_eq_true_iff⟩
instance (priority := high) BoolP.or {a b : Bool} {p q : Prop} [x : BoolP a p] [y : BoolP b q] : BoolP (a || b) (p ∨ q) := ⟨by rw [Bool.or_eq_true, x.pf, y.pf]⟩
instance (priority := high) BoolP.and {a b : Bool} {p q : Prop} [x : BoolP a p] [y : BoolP b q] : BoolP (a && b) (p ∧ q) := ⟨by rw [Bool.and_eq_true, x.pf, y.pf]⟩
instance (priority := high) BoolP.not {a : Bool} {p : Prop} [x : BoolP a p] : BoolP (!a) (¬ p) := ⟨by rw [← x.pf]; simp⟩
instance (priority := high) BoolP.eq {a b : Bool} : BoolP (a == b) (a = b) := ⟨by simp⟩
instance (priority := high) BoolP.ne {a b : Bool} : BoolP (a != b) (a ≠ b) := ⟨by simp⟩
instance (priority := high) BoolP.true : BoolP true True := ⟨by simp⟩
instance (priority := high) BoolP.false : BoolP false False := ⟨by simp⟩
instance (priority := low) BoolP.other {b : Bool} : BoolP b (b = Bool.true) := ⟨Iff.rfl⟩
section
variable {c : Cx} {k : List Item} {e : Env} {o r : List PHeap}
theorem XK.if {x : Operand} {y z : Code} {b : Bool} {p : Prop} (hx : ev e x = some (.bool b)) [t : BoolP b p] (ht : p → XK c (.code y :: k) e o r) (hf : ¬ p → XK c (.code z :: k) e o r) :
    XK c (.code (.cond x y z) :: k) e o r := XK.cond hx (fun h => ht (t.pf.1 h)) (fun h => hf (fun hp => by rw [t.pf.2 hp] at h; cases h))

/-! ### a loop: what is not named is kept -/
class Rest (hs : List PHeap) (o : List PHeap) (ok : outParam (List PHeap)) : Prop where
  pf : ∃ m, (List.replicate m emp ++ o).Perm (hs ++ ok)
instance Rest.nil (o : List PHeap) : Rest [] o o := ⟨0, List.Perm.refl _⟩
instance (priority := high) Rest.emp (hs o ok : List PHeap) [t : Rest hs o ok] : Rest (emp :: hs) o ok := ⟨let ⟨m, h⟩ := t.pf; ⟨m + 1, by rw [List.replicate_succ]; exact h.cons X.emp⟩⟩
instance Rest.cons (h : PHeap) (hs o o1 ok : List PHeap) [t : Take h o o1] [t2 : Rest hs o1 ok] : Rest (h :: hs) o ok :=
  ⟨let ⟨m, hp⟩ := t2.pf; ⟨m, ((t.pf.append_left _).trans List.perm_middle).trans (hp.cons h)⟩⟩
theorem Rest.wk {hs o ok : List PHeap} (t : Rest hs o ok) : Wk o (hs ++ ok) := ⟨let ⟨m, h⟩ := t.pf; ⟨m, [], by rw [List.append_nil]; exact h⟩⟩
/-- 'o0': the heaps that the loop changes, as they are ahead of it. -/
theorem XK.while {X : Type} (ks : List Nat) (up : X → Env) (oc : X → List PHeap) (I : X → Prop) (μ : X → Nat) (x0 : X) (o0 : List PHeap) {ok : List PHeap} {body : Code} [rst : Rest o0 o ok] (ho0 : oc x0 = o0) (h0 : I x0)
    (henv : EnvLe (up x0 ++ kills ks e) e)
    (round : ∀ x, I x → (∀ x' e' o', I x' → μ x' < μ x → EnvLe (up x' ++ kills ks e) e' → Wk o' (oc x' ++ ok) → XK c (.inLoop body :: k) e' o' r) →
      XK c (.code body :: .inLoop body :: k) (up x ++ kills ks e) (oc x ++ ok) r) :
    XK c (.code (.loop body) :: k) e o r := XK.rounds ks up oc ok I μ x0 h0 henv (by rw [ho0]; exact rst.wk) round
/-- Ways that meet again behind the next statement. -/
theorem XK.meet {X : Type} (ks : List Nat) (up : X → Env) (oc : X → List PHeap) (I : X → Prop) (o0 : List PHeap) {ok : List PHeap} {it : Item} [rst : Rest o0 o ok]
    (cont : ∀ x, I x → XK c k (up x ++ kills ks e) (oc x ++ ok) r)
    (first : (∀ x e' o', I x → EnvLe (up x ++ kills ks e) e' → Wk o' (oc x ++ ok) → XK c k e' o' r) → XK c (it :: k) e o r) : XK c (it :: k) e o r :=
  XK.join ks up oc ok I cont first
end

section
variable {P : Program} {ops : Array Oper} {e : Env} {o r : List PHeap} {d : Option Tmp} {ty : TypeId} {pos : String} {aft : Array Edge}
variable {α : Type} {enc : α → List Value} {sz : Nat} {h : PHeap} {xs : List α} {v : Value}
theorem run_min {x y : Operand} {m n : Int} {ty' : Array TypeId} {a : Array Value} {w : World} {cs : Array Bool} (b : Bool) :
    (builtin (if b then .min else .max) ty' ty cs #[.int .i64 m, .int .i64 n]).run P w = .ok (.value (.int .i64 (if b then min m n else max m n))) w := by
  cases b with
  | true =>
    simp only [if_true, builtin]
    refine run_val ?_
    have h1 : Builtin.min_ ty' ty #[.int .i64 m, .int .i64 n] = (pure (.int .i64 (if n < m then n else m)) : Sem Value) := by
      simp [Builtin.min_, Builtin.min2]
    rw [h1]
    have h2 : (if n < m then n else m) = min m n := by omega
    rw [h2]; rfl
  | false =>
    simp only [Bool.false_eq_true, if_false, builtin]
    refine run_val ?_
    have h1 : ∃ z, Builtin.max_ ty' ty #[.int .i64 m, .int .i64 n] = (pure (.int .i64 z) : Sem Value) ∧ z = max m n := by
      refine ⟨_, by simp [Builtin.max_, Builtin.max2]; rfl, ?_⟩
      omega
    obtain ⟨z, h1, rfl⟩ := h1
    rw [h1]; rfl
theorem Q.min {x y : Operand} {tys : Array TypeId} {m n : Int} (hx : ev e x = some (.int .i64 m)) (hy : ev e y = some (.int .i64 n)) :
    Quiet P ops ⟨d, .call ⟨.builtin .min, #[x, y], tys⟩, ty, pos, aft, none⟩ e o r (.int .i64 (min m n)) := .mk fun a w he _ => by
  simp only [execOp, resolve, List.map_toArray, List.map_cons, List.map_nil, ev_rel he hx, ev_rel he hy]
  rw [bind_ok (a := _) (w1 := w) rfl]
  simp only [invoke]
  exact run_min (x := x) (y := y) (a := a) true
theorem Q.max {x y : Operand} {tys : Array TypeId} {m n : Int} (hx : ev e x = some (.int .i64 m)) (hy : ev e y = some (.int .i64 n)) :
    Quiet P ops ⟨d, .call ⟨.builtin .max, #[x, y], tys⟩, ty, pos, aft, none⟩ e o r (.int .i64 (max m n)) := .mk fun a w he _ => by
  simp only [execOp, resolve, List.map_toArray, List.map_cons, List.map_nil, ev_rel he hx, ev_rel he hy]
  rw [bind_ok (a := _) (w1 := w) rfl]
  simp only [invoke]
  exact run_min (x := x) (y := y) (a := a) false
theorem Q.ixA {t el len : TypeId} [u : Und P t (.array len el)] [z : TySize P el sz] {x y : Operand} {k : IntKind} {n : Int} {i b kk : Nat} (hx : ev e x = some (ptr b kk)) (hy : ev e y = some (.int k n))
    [ix : Idx n i] (h0 : 0 ≤ n) (h1 : n < len) : Quiet P ops ⟨d, .indexAddr t x y, ty, pos, aft, none⟩ e o r (ptr b (kk + i * sz)) := .mk fun a w he _ => by
  have hn := ix.pf h0
  subst hn
  simp only [execOp, ev_rel he hx, ev_rel he hy]
  refine run_val ?_
  unfold Instr.indexAt
  rw [bind_ok (a := (k, (i : Int))) (w1 := w) rfl]
  simp only
  rw [bind_ok (u.pf w)]
  simp only
  rw [bind_ok (a := (⟨b, kk, none⟩ : Addr)) (w1 := w) rfl]
  rw [bind_ok (a := (some (⟨b, kk, none⟩ : Addr), len, el)) (w1 := w) rfl]
  rw [bind_ok (u.pf w)]
  simp only
  rw [if_pos ⟨h0, h1⟩]
  rw [bind_ok (z.pf w)]
  simp [add_none, pure, Sem.run]
end
section
variable {c : Cx} {ops : Array Oper} {rest : List Oper} {k : List Item} {e : Env} {o r : List PHeap} {d : Nat} {dd : Option Tmp} {ty : TypeId} {pos : String} {aft : Array Edge}
variable {α : Type} {enc : α → List Value} {sz : Nat} {h : PHeap} {xs : List α} {v : Value}
theorem XO.len {t : TypeId} {el : TypeId} [u : Und c.P t (.slice el)] {x : Operand} (hx : ev e x = some v) [s : Arr v enc sz h xs]
    (hn : xs.length ≤ 140737488355328 → XO c ops rest k ((d, some (.int .i64 xs.length)) :: e) o r) :
    XO c ops (⟨some d, .call ⟨.builtin .len, #[x], #[t]⟩, ty, pos, aft, none⟩ :: rest) k e o r := XO.q (Q.len hx) (hn s.le)
theorem run_eqNil {P : Program} {t el : TypeId} [u : Und P t (.slice el)] {a : Option Addr} {n c : Nat} (w : World) : (Op.equal t (.slice a n c) (.slice none 0 0)).run P w = .ok a.isNone w := by
  unfold Op.equal Op.maxDepth
  unfold Op.equalIn
  rw [bind_ok (u.pf w)]
  cases a <;> rfl
/-- s == nil: if so, s is empty. -/
theorem XO.eqNil {t t2 el : TypeId} [u : Und c.P t (.slice el)] {x : Operand} (hx : ev e x = some v) [s : Arr v enc sz h xs]
    (hn : ∀ b : Bool, (b = true → xs = [] ∧ v = .slice none 0 0) → XO c ops rest k ((d, some (.bool b)) :: e) o r) :
    XO c ops (⟨some d, .binOp .eql t x (.const (.slice none 0 0)) t2, ty, pos, aft, none⟩ :: rest) k e o r := by
  obtain ⟨_, _, ad, cc, rfl, hle, hnn, _⟩ := s.pf
  refine XO.q (v := .bool ad.isNone) (.mk fun a w he _ => ?_) (hn _ fun hb => ?_)
  · have e1 : evA a (.const (.slice none 0 0)) = .slice none 0 0 := rfl
    simp only [execOp, ev_rel he hx, e1]
    refine run_val ?_
    have h1 : (eqGuard .eql t x (.const (.slice none 0 0)) (.slice ad xs.length cc) (.slice none 0 0)).run c.P w = .ok () w := rfl
    rw [bind_ok h1]
    unfold binOp
    simp only
    rw [bind_ok (run_eqNil w)]
    rfl
  · have h1 : ad = none := by simpa using hb
    have h2 := hnn h1
    have h3 : xs = [] := List.length_eq_zero_iff.1 (by omega)
    subst h1 h2 h3
    exact ⟨rfl, rfl⟩
/-- A call that changes one variable of the caller's. -/
theorem XO.callB {g : FuncId} {x : Operand} {l : List Operand} {tys : Array TypeId} {fst vs cap A : List Value} {Hr : List PHeap} {R : Value → List PHeap → Prop} {o1 : List PHeap} (b : Nat) {cs : List Value} {T : TypeId} [hb : HasL b o cs T]
    [t : Take (blk b cs T) o o1] (hc : ∀ args w, (callFunc g args).run c.P w = .ok (.enter g args) w) (hx : ev e x = some (.func (.func g) fst.toArray cap.toArray)) (hl : evs e l = some vs) (hA : fst ++ vs ++ cap = A)
    (hS : Spec c.P g A.toArray [blk b cs T] Hr R) [al : AllIn Hr o1 (c.B :: r)] (h : ∀ v hs, R v hs → XO c ops rest k ((d, some v) :: e) (hs ++ o1) r) :
    XO c ops (⟨some d, .call ⟨.value x, l.toArray, tys⟩, ty, pos, aft, none⟩ :: rest) k e o r :=
  XO.s (Stp.call (Hm := [blk b cs T]) (o1 := o1) (t := ⟨t.pf⟩) hc hx hl hA hS) fun v o2 ⟨hs, hR, h2⟩ => by subst h2; exact h v hs hR
end
/-- The blocks that loops over functions have left are taken at the frame's end. -/
theorem unwinds {P : Program} {f : FuncId} {a : Array Value} {cs : List Frame} {k : List Item} {r : List PHeap} {o : List PHeap} : ∀ (ds : List Nat) (D : PHeap) (w : World), Marked D ds → Sep (D :: o) r w →
    ∃ w', Sep o r w' ∧ Steps P (lone { mk f none a (marks ds) k with mode := .returning } cs w) (lone { mk f none a [] k with mode := .returning } cs w')
  | [], D, w, _, hs => ⟨w, hs.tail, .refl _ _⟩
  | b :: ds, D, w, hD, hs => by
    have hnd := List.nodup_cons.1 hD.1
    have hb : w.heap[b]? = some (.deferred (some [])) := hs.so D List.mem_cons_self b _ (by rw [hD.2 b]; simp)
    let D' : PHeap := ⟨fun x => if x ∈ ds then some (.deferred (some [])) else none, none⟩
    have hD' : Marked D' ds := ⟨hnd.2, fun _ => rfl⟩
    let w1 : World := { w with heap := w.heap.setIfInBounds b (.deferred none) }
    have hw1 : ∀ x, x ≠ b → w1.heap[x]? = w.heap[x]? := fun x hx => by
      simp only [w1]
      rw [Array.getElem?_setIfInBounds_ne (Ne.symm hx)]
    have hnb : ∀ h, Disj D h → h b = none := fun h hd => by
      rcases hd b with h1 | h1
      · rw [hD.2 b] at h1; simp at h1
      · exact h1
    have hsub : ∀ h, Disj D h → sub h w → sub h w1 := fun h hd hsb x ob hx => by
      have hne : x ≠ b := by rintro rfl; rw [hnb h hd] at hx; cases hx
      rw [hw1 x hne]
      exact hsb x ob hx
    have hpw := List.pairwise_cons.1 hs.pw
    have hdd : ∀ h, Disj D h → Disj D' h := fun h hd x => by
      rcases hd x with h1 | h1
      · left
        rw [hD.2 x] at h1
        simp only [D']
        rw [if_neg]
        intro hx
        rw [if_pos (List.mem_cons_of_mem _ hx)] at h1
        cases h1
      · exact .inr h1
    have hs1 : Sep (D' :: o) r w1 := by
      refine ⟨List.pairwise_cons.2 ⟨fun h hh => hdd h (hpw.1 h hh), hpw.2⟩, ?_, ?_, ?_, ?_, fun g hg m hm => hs.sm g hg m hm⟩
      · intro h hh g hg
        rcases List.mem_cons.1 hh with rfl | hh
        · exact hdd g (hs.dr D List.mem_cons_self g hg)
        · exact hs.dr h (List.mem_cons_of_mem _ hh) g hg
      · intro h hh
        rcases List.mem_cons.1 hh with rfl | hh
        · intro x ob hx
          simp only [D'] at hx
          split at hx
          · rename_i hxd
            cases hx
            have hne : x ≠ b := by rintro rfl; exact hnd.1 hxd
            rw [hw1 x hne]
            exact hs.so D List.mem_cons_self x _ (by rw [hD.2 x, if_pos (List.mem_cons_of_mem _ hxd)])
          · cases hx
        · exact hsub h (hpw.1 h hh) (hs.so h (List.mem_cons_of_mem _ hh))
      · exact fun g hg => hsub g (hs.dr D List.mem_cons_self g hg) (hs.sr g hg)
      · intro h hh
        rcases List.mem_cons.1 hh with rfl | hh
        · rfl
        · exact hs.no h (List.mem_cons_of_mem _ hh)
    obtain ⟨w', hS, st⟩ := unwinds (P := P) (f := f) (a := a) (cs := cs) (k := k) ds D' w1 hD' hs1
    refine ⟨w', hS, .head (step_lone_go ?_) st⟩
    have htake : (Instr.takeDeferred b).run P w = .ok [] w1 := by
      have h1 : (getObj b).run P w = .ok (.deferred (some [])) w := by simp [getObj, Sem.run, hb]
      unfold Instr.takeDeferred
      rw [bind_ok h1]
      simp only
      have h2 : (setObj b (.deferred none)).run P w = .ok () w1 := by simp [setObj, Sem.run, hb, w1]
      rw [bind_ok h2]
      rfl
    simp [stepG, unwind, mk, marks, htake]
class Packed (vs : List Value) (v : outParam Value) : Prop where
  pf : packed vs = v
instance Packed.one {v : Value} : Packed [v] v := ⟨rfl⟩
instance Packed.none : Packed [] (.tuple #[]) := ⟨rfl⟩
instance Packed.more {a b : Value} {l : List Value} : Packed (a :: b :: l) (.tuple (a :: b :: l).toArray) := ⟨rfl⟩
class App (a b : List PHeap) (c : outParam (List PHeap)) : Prop where
  pf : a ++ b = c
instance App.nil {b : List PHeap} : App [] b b := ⟨rfl⟩
instance App.cons {h : PHeap} {a b c : List PHeap} [t : App a b c] : App (h :: a) b (h :: c) := ⟨by rw [List.cons_append, t.pf]⟩
/-- Return: 'hs' are the heaps that are handed back. -/
theorem XK.rt {P : Program} {f : FuncId} {N : Nat} {B : PHeap} {R : Value → List PHeap → Prop} {k : List Item} {e : Env} {o r : List PHeap} {fn : Func} {l : List ResultVar} {vs : List Value}
    (hs : List PHeap) [p : Wk o hs] (hf : P.funcs[f]? = some fn) (hl : fn.results = l.toArray) {v : Value} (hv : ResL P o (B :: r) e l vs) [pk : Packed vs v] (hR : R v hs) :
    XK (cx P f N B R) (.code .ret :: k) e o r := fun D ds a w cs _ he hD hm => by
  obtain ⟨w', hS, st⟩ := unwinds (P := P) (f := f) (a := a) (cs := cs) (k := .code .ret :: k) ds D w hD hm
  exact ⟨_, w', ⟨v, hs, rfl, ⟨rfl, rfl, rfl, fn, hf, by rw [← pk.pf]; exact run_results hl hv he hS.rd⟩, hR, (p.sep hS).reads (fun g hg => by simp at hg; subst hg; exact List.mem_cons_self)⟩, .head step_ret st⟩
theorem XK.fn {P : Program} {f : FuncId} {N : Nat} {B : PHeap} {R : Value → List PHeap → Prop} {e : Env} {o r : List PHeap} {fn : Func} {l : List ResultVar} {vs : List Value}
    (hs : List PHeap) [p : Wk o hs] (hf : P.funcs[f]? = some fn) (hl : fn.results = l.toArray) {v : Value} (hv : ResL P o (B :: r) e l vs) [pk : Packed vs v] (hR : R v hs) :
    XK (cx P f N B R) [] e o r := fun D ds a w cs _ he hD hm => by
  obtain ⟨w', hS, st⟩ := unwinds (P := P) (f := f) (a := a) (cs := cs) (k := []) ds D w hD hm
  exact ⟨_, w', ⟨v, hs, rfl, ⟨rfl, rfl, rfl, fn, hf, by rw [← pk.pf]; exact run_results hl hv he hS.rd⟩, hR, (p.sep hS).reads (fun g hg => by simp at hg; subst hg; exact List.mem_cons_self)⟩, .head step_end st⟩
/-- Blocks by their numbers. -/
class SelB (bs : List Nat) (o : List PHeap) (f : outParam (List PHeap)) : Prop where
  pf : ∀ h ∈ f, h ∈ o
instance SelB.nil {o : List PHeap} : SelB [] o [] := ⟨fun _ h => by cases h⟩
instance (priority := high) SelB.cons {b : Nat} {bs : List Nat} {o f : List PHeap} {cs : List Value} {T : TypeId} [x : HasL b o cs T] [y : SelB bs o f] : SelB (b :: bs) o (blk b cs T :: f) :=
  ⟨fun h hh => by
    rcases List.mem_cons.1 hh with rfl | hh
    · exact x.pf
    · exact y.pf h hh⟩
instance (priority := low) SelB.skip {b : Nat} {bs : List Nat} {o f : List PHeap} [y : SelB bs o f] : SelB (b :: bs) o f := ⟨y.pf⟩
theorem XK.drawn {c : Cx} {k : List Item} {r : List PHeap} {id : Nat} {l : List Oper} {e : Env} {o f : List PHeap} (fl : List Nat) (bs : List Nat) (hs : List PHeap) (t : Plan) [sb : SelB bs o f] [al : AllIn hs o []] {ff : List PHeap} [ap : App hs f ff]
    (hmix : c.P.follows .mixedOrders = true) (hl : l.all (okOper c.N) = true)
    (hok : (Region.noSelect l.toArray && t.ok l.toArray fl (Array.replicate l.length false) [] && Nat.ble t.depth l.length) = true)
    (h : XT c l.toArray fl ff k r t e o) : XK c (.code (.region id l.toArray true) :: k) e o r :=
  XK.draw fl ff t hmix hl hok ⟨fun g hg => by
    rw [← ap.pf] at hg
    rcases List.mem_append.1 hg with h1 | h1
    · exact al.pf g h1
    · exact .inl (sb.pf g h1)⟩ h
end Go.X
