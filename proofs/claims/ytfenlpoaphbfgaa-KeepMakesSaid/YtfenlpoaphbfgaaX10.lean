/- A region that draws its order: the operations that only read are taken first; what is left is taken in every order that its edges allow. No condition. -/
import Derived.Test.YtfenlpoaphbfgaaX9
set_option linter.unusedSimpArgs false
set_option linter.unusedVariables false
namespace Go.X

theorem evA_put {a : Array Value} {d : Option Tmp} {v : Value} {x : Operand} (h : ∀ t, d = some t → x ≠ .tmp t) : evA (put a d v) x = evA a x := by
  cases d with
  | none => rfl
  | some t =>
    cases x with
    | tmp s =>
      have hne : t ≠ s := fun e => h t rfl (e ▸ rfl)
      simp [evA, put, Array.getElem?_setIfInBounds_ne hne]
    | _ => rfl
theorem put_comm (a : Array Value) {x y : Option Tmp} (v u : Value) (h : ∀ d, x = some d → y ≠ some d) : put (put a x v) y u = put (put a y u) x v := by
  cases x with
  | none => rfl
  | some d =>
    cases y with
    | none => rfl
    | some e =>
      have hne : d ≠ e := fun he => h d rfl (he ▸ rfl)
      simp [put, Array.setIfInBounds_comm _ _ hne]
section
variable {P : Program} {ops : Array Oper}
theorem execOp_putX (o : Oper) (hs : ∀ cs b, o.op ≠ .select cs b) (a : Array Value) (dst : Option Tmp) (v : Value) (h : ∀ d, dst = some d → d ∉ o.looksAt ops) :
    execOp (evA (put a dst v)) o = execOp (evA a) o :=
  execOp_congr o hs fun x hx => evA_put fun d hd hxd => h d hd (by
    subst hxd
    exact List.mem_append_left _ (List.mem_filterMap.2 ⟨.tmp d, by simpa using hx, rfl⟩))
theorem wanted_putX (o : Oper) (a : Array Value) (dst : Option Tmp) (v : Value) (h : ∀ d, dst = some d → d ∉ o.looksAt ops) :
    Region.wanted o (yielded ops (put a dst v)) = Region.wanted o (yielded ops a) := by
  have := wanted_put (ops := ops) o ⟨a, []⟩ dst v h
  cases dst <;> exact this
/-- What a quiet operation gives at these temporaries, in every world that keeps 'S'. -/
def Yields (P : Program) (ops : Array Oper) (S : World → Prop) (x : Oper) (v : Value) (a : Array Value) : Prop :=
  ∀ w, S w → (Region.wanted x (yielded ops a) = true ∧ (execOp (evA a) x).run P w = .ok (.value v) w) ∨ (Region.wanted x (yielded ops a) = false ∧ v = undef)
theorem Yields.does {S : World → Prop} {x : Oper} {v : Value} {a : Array Value} (y : Yields P ops S x v a) {w : World} (hw : S w) {Q : Value → World → Prop} (h : Q v w) : Does P ops x a w Q := by
  unfold Does
  rcases y w hw with ⟨h1, h2⟩ | ⟨h1, rfl⟩
  · simp only [h1, if_true, h2]; exact h
  · simp only [h1]; exact h
theorem Yields.put {S : World → Prop} {x : Oper} {v : Value} {a : Array Value} (y : Yields P ops S x v a) (hs : ∀ cs b, x.op ≠ .select cs b) (d : Option Tmp) (u : Value) (h : ∀ t, d = some t → t ∉ x.looksAt ops) :
    Yields P ops S x v (put a d u) := fun w hw => by
  rw [wanted_putX x a d u h, execOp_putX x hs a d u h]
  exact y w hw
theorem Does.put {x : Oper} (hs : ∀ cs b, x.op ≠ .select cs b) {a : Array Value} {w : World} {Q : Value → World → Prop} (d : Option Tmp) (u : Value) (h : ∀ t, d = some t → t ∉ x.looksAt ops) :
    Does P ops x (put a d u) w Q ↔ Does P ops x a w Q := by
  unfold Does
  rw [wanted_putX x a d u h, execOp_putX x hs a d u h]
/-- Must the heaps that quiet operations read still be there behind operation j? Not where it stands behind all of them. -/
def need (ops : Array Oper) (fl : List Nat) (j : Nat) : Bool := fl.any fun i => i != j && !(match ops[j]? with
  | some x => x.after.any fun e => Region.binds .any e && e.on == i
  | none => false)
def Any (P : Program) (ops : Array Oper) (S : World → Prop) (fl : List Nat) (Q : Array Value → World → Prop) : Nat → Array Bool → Array Value → World → Prop
  | 0, listed, a, w => Region.ready .any ops listed = [] ∧ Q a w
  | n + 1, listed, a, w => (Region.ready .any ops listed = [] → Q a w) ∧ ∀ i ∈ Region.ready .any ops listed, ∀ x, ops[i]? = some x →
      Does P ops x a w fun v w' => (need ops fl i = true → S w') ∧ Any P ops S fl Q n (listed.setIfInBounds i true) (X.put a x.dst v) w'
theorem need_of {fl : List Nat} {i j : Nat} {x : Oper} (hj : ops[j]? = some x) (hi : i ∈ fl) (hne : j ≠ i) (h : ∀ e ∈ x.after, Region.binds .any e = true → e.on ≠ i) : need ops fl j = true := by
  refine List.any_eq_true.2 ⟨i, hi, ?_⟩
  simp only [hj, Bool.and_eq_true, bne_iff_ne, ne_eq, Bool.not_eq_true', Array.any_eq_false']
  refine ⟨fun h => hne h.symm, ?_⟩
  intro e he
  simp only [Bool.and_eq_true, beq_iff_eq, not_and]
  exact h e he
theorem any_first {S : World → Prop} {fl : List Nat} {Q : Array Value → World → Prop} {i : Nat} {x : Oper} {v : Value} (hi : ops[i]? = some x) (hsel : ∀ (j : Nat) (o : Oper) cs b, ops[j]? = some o → o.op ≠ .select cs b) (hfl : i ∈ fl) :
    ∀ (fuel : Nat) (listed : Array Bool) (a : Array Value) (w : World),
      (∀ j oj, ops[j]? = some oj → j ≠ i → listed.getD j true = false → (∀ e ∈ oj.after, Region.binds .any e = true → e.on ≠ i) → x.apart ops oj = true) →
      i ∈ Region.ready .any ops listed → Yields P ops S x v a → S w →
      Any P ops S fl Q fuel (listed.setIfInBounds i true) (X.put a x.dst v) w → Any P ops S fl Q (fuel + 1) listed a w := by
  intro fuel
  induction fuel with
  | zero =>
    intro listed a w _ hr hy hw H
    refine ⟨fun h => (by rw [h] at hr; cases hr), fun j hj oj hoj => ?_⟩
    by_cases hji : j = i
    · subst hji
      rw [hi] at hoj; cases hoj
      exact hy.does hw ⟨fun _ => hw, H⟩
    · have hj2 := ready_mono hj hji
      rw [H.1] at hj2
      cases hj2
  | succ fuel ih =>
    intro listed a w hfree hr hy hw H
    refine ⟨fun h => (by rw [h] at hr; cases hr), fun j hj oj hoj => ?_⟩
    by_cases hji : j = i
    · subst hji
      rw [hi] at hoj; cases hoj
      exact hy.does hw ⟨fun _ => hw, H⟩
    · have h1 := H.2 j (ready_mono hj hji) oj hoj
      obtain ⟨hjun, oj', hoj', hall⟩ := mem_ready.1 hj
      rw [hoj] at hoj'; cases hoj'
      have hiun := (mem_ready.1 hr).1
      have hnot : ∀ e ∈ oj.after, Region.binds .any e = true → e.on ≠ i := fun e he hb heq => by
        have h1 := hall e he hb
        rw [heq] at h1
        rcases Nat.lt_or_ge i listed.size with h' | h'
        · simp [h'] at hiun h1; rw [hiun] at h1; cases h1
        · simp [Array.getElem?_eq_none h'] at h1
      have hap := hfree j oj hoj hji hjun hnot
      obtain ⟨a1, a2, a3⟩ := Oper.apart_spec hap
      rw [Does.put (hsel j oj · · hoj) x.dst v a1] at h1
      have hfree' : ∀ k ok, ops[k]? = some ok → k ≠ i → (listed.setIfInBounds j true).getD k true = false →
          (∀ e ∈ ok.after, Region.binds .any e = true → e.on ≠ i) → x.apart ops ok = true := fun k ok hk hki hun hno => by
        refine hfree k ok hk hki ?_ hno
        by_cases hjk : j = k
        · subst hjk; exact hjun
        · rw [getD_set_ne true hjk] at hun; exact hun
      have hneed : need ops fl j = true := need_of hoj hfl hji hnot
      refine h1.mono fun u w' ⟨hS, h3⟩ => ⟨fun _ => hS hneed, ?_⟩
      refine ih (listed.setIfInBounds j true) _ w' hfree' (ready_mono hr (Ne.symm hji)) (hy.put (hsel i x · · hi) oj.dst u a3) (hS hneed) ?_
      rw [Array.setIfInBounds_comm _ _ hji, ← put_comm a v u a2]
      exact h3
/-- Any order is one of these. -/
theorem any_steps {S : World → Prop} {fl : List Nat} {Q : Array Value → World → Prop} {f : FuncId} {rd : Option Nat} {ds : List Deferred} {k : List Item} {cs : List Frame} (hn : ∀ (i : Nat) (x : Oper), ops[i]? = some x → noDefer x = true) :
    ∀ (fuel t : Nat) (listed : Array Bool) (a : Array Value) (w : World), Any P ops S fl Q fuel listed a w →
      ∃ a' w', Q a' w' ∧ Steps P (lone (mk f rd a ds (.inRegion ops (Region.linearise.go .any ops fuel t listed []) :: k)) cs w) (lone (mk f rd a' ds k) cs w') := by
  intro fuel
  induction fuel with
  | zero => intro t listed a w h; exact ⟨a, w, h.2, .one step_region_end⟩
  | succ fuel ih =>
    intro t listed a w h
    obtain ⟨h0, h1⟩ := h
    simp only [Region.linearise.go]
    change ∃ a' w', Q a' w' ∧ Steps P (lone (mk f rd a ds (.inRegion ops (match (Region.ready .any ops listed)[t % (Region.ready .any ops listed).length]? with
      | some i => Region.linearise.go .any ops fuel (t / (Region.ready .any ops listed).length) (listed.setIfInBounds i true) [i]
      | none => [].reverse) :: k)) cs w) (lone (mk f rd a' ds k) cs w')
    cases hi : (Region.ready .any ops listed)[t % (Region.ready .any ops listed).length]? with
    | none =>
      have hnil : Region.ready .any ops listed = [] := by
        cases hr : Region.ready .any ops listed with
        | nil => rfl
        | cons x xs =>
          rw [hr] at hi
          have hlt : t % (x :: xs).length < (x :: xs).length := Nat.mod_lt _ (by simp)
          simp at hi
          simp at hlt
          omega
      exact ⟨a, w, h0 hnil, .one step_region_end⟩
    | some i =>
      simp only []
      rw [linearise_go_acc, List.reverse_singleton, List.singleton_append]
      have hmem := List.mem_of_getElem? hi
      obtain ⟨_, x, hx, _⟩ := mem_ready.1 hmem
      obtain ⟨v, w1, ⟨_, h3⟩, st⟩ := does_steps (f := f) (rd := rd) (ds := ds) (k := k) (rest := Region.linearise.go .any ops fuel (t / (Region.ready .any ops listed).length) (listed.setIfInBounds i true) []) (h1 i hmem x hx) hx (hn i x hx) cs
      obtain ⟨a', w', hQ, st'⟩ := ih _ _ _ _ h3
      exact ⟨a', w', hQ, Steps.trans st st'⟩

/-! ### the plan of a region -/
/-- q: an operation that only reads, taken now; br: one of those that may come next, and the others; stop: no other. -/
inductive Plan where
  | done
  | q (i : Nat) (t : Plan)
  | br (i : Nat) (b : Bool) (t : Plan) (u : Plan)
  | stop
def Plan.ok (ops : Array Oper) (fl : List Nat) : Plan → Array Bool → List Nat → Bool
  | .done, l, _ => (Region.ready .any ops l).isEmpty
  | .q i t, l, _ => (Region.ready .any ops l).contains i && Region.free .any ops l i && fl.contains i && t.ok ops fl (l.setIfInBounds i true) []
  | .br i b t u, l, acc => (need ops fl i == b) && (Region.ready .any ops l).contains i && t.ok ops fl (l.setIfInBounds i true) [] && u.ok ops fl l (i :: acc)
  | .stop, l, acc => !(Region.ready .any ops l).isEmpty && (Region.ready .any ops l).all fun i => acc.contains i
def Plan.depth : Plan → Nat
  | .done => 0
  | .q _ t => t.depth + 1
  | .br _ _ t u => max (t.depth + 1) u.depth
  | .stop => 1
def XT (c : Cx) (ops : Array Oper) (fl : List Nat) (f : List PHeap) (k : List Item) (r : List PHeap) : Plan → Env → List PHeap → Prop
  | .done, e, o => XK c k e o r
  | .q i t, e, o => ∃ x v, ops[i]? = some x ∧ okOper c.N x = true ∧ Quiet c.P ops x e f (c.B :: r) v ∧ XT c ops fl f k r t (puts e x.dst v) o
  | .br i b t u, e, o => (∃ x Ψ, ops[i]? = some x ∧ okOper c.N x = true ∧ Stp c.P ops x e o (c.B :: r) Ψ ∧ ∀ v o', Ψ v o' → (b = true → ∀ h ∈ f, h ∈ o') ∧ XT c ops fl f k r t (puts e x.dst v) o') ∧
      XT c ops fl f k r u e o
  | .stop, _, _ => True
def Sf (f r : List PHeap) (w : World) : Prop := Rd f r w
section
variable {c : Cx} {k : List Item} {f r : List PHeap} {fl : List Nat}
/-- What 'br' offers: each operation of the list may come next. -/
def Offers (c : Cx) (ops : Array Oper) (fl : List Nat) (f : List PHeap) (r : List PHeap) (n : Nat) (l : Array Bool) (a : Array Value) (w : World) (Q : Array Value → World → Prop) (i : Nat) : Prop :=
  ∀ x, ops[i]? = some x → Does c.P ops x a w fun v w' => (need ops fl i = true → Sf f (c.B :: r) w') ∧ Any c.P ops (Sf f (c.B :: r)) fl Q n (l.setIfInBounds i true) (X.put a x.dst v) w'
theorem listed_of_ready {ops : Array Oper} {l : Array Bool} {i : Nat} {fl : List Nat} (hr : i ∈ Region.ready .any ops l) (hn : need ops fl i = false) : ∀ j ∈ fl, (l.setIfInBounds i true).getD j true = true := by
  intro j hj
  obtain ⟨_, x, hx, hall⟩ := mem_ready.1 hr
  by_cases hji : i = j
  · subst hji
    by_cases hlt : i < l.size <;> simp [hlt]
  · rw [getD_set_ne true hji]
    unfold need at hn
    have := List.any_eq_false.1 hn j hj
    simp only [hx, Bool.and_eq_true, bne_iff_ne, ne_eq, Bool.not_eq_true', not_and, Bool.not_eq_false] at this
    obtain ⟨ed, he, hb⟩ := Array.any_eq_true'.1 (this (fun h => hji h.symm))
    simp only [Bool.and_eq_true, beq_iff_eq] at hb
    have h1 := hall ed he hb.1
    rw [hb.2] at h1
    rcases Nat.lt_or_ge j l.size with h' | h'
    · simp [h'] at h1 ⊢; exact h1
    · simp [Array.getElem?_eq_none h']
theorem plan_sound {ops : Array Oper} {D : PHeap} (hsel : Region.noSelect ops = true) {Q : Array Value → World → Prop}
    (hQ : ∀ e o, XK c k e o r → ∀ a w, a.size = c.N → ERel e a → Sep (D :: o) (c.B :: r) w → Q a w) :
    ∀ (t : Plan) (n : Nat) (l : Array Bool) (acc : List Nat) (e : Env) (o : List PHeap) (a : Array Value) (w : World), t.ok ops fl l acc = true → t.depth ≤ n → XT c ops fl f k r t e o →
      a.size = c.N → ERel e a → Sep (D :: o) (c.B :: r) w → ((∀ i ∈ fl, l.getD i true = true) ∨ Sf f (c.B :: r) w) → (∀ i ∈ acc, ∀ m, m + 1 = n → Offers c ops fl f r m l a w Q i) →
      Any c.P ops (Sf f (c.B :: r)) fl Q n l a w := by
  intro t
  induction t with
  | done =>
    intro n l acc e o a w hok _ hX ha he hs _ _
    simp only [Plan.ok, List.isEmpty_iff] at hok
    have hq := hQ e o hX a w ha he hs
    cases n with
    | zero => exact ⟨hok, hq⟩
    | succ n => exact ⟨fun _ => hq, by rw [hok]; simp⟩
  | q i t ih =>
    intro n l acc e o a w hok hd hX ha he hs hS _
    simp only [Plan.ok, Bool.and_eq_true] at hok
    obtain ⟨⟨⟨hr, hf⟩, hfl⟩, hok'⟩ := hok
    obtain ⟨x, v, hx, hko, hq, hX'⟩ := hX
    simp only [Plan.depth] at hd
    obtain ⟨m, rfl⟩ : ∃ m, n = m + 1 := ⟨n - 1, by omega⟩
    have hr' : i ∈ Region.ready .any ops l := by simpa using hr
    have hfl' : i ∈ fl := by simpa using hfl
    have hSf : Sf f (c.B :: r) w := by
      rcases hS with h | h
      · have h1 := h i hfl'
        rw [(mem_ready.1 hr').1] at h1; cases h1
      · exact h
    refine any_first hx (Region.noSelect_spec hsel) hfl' m l a w (Region.free_spec hx hf) hr' (fun w' hw' => hq a w' he hw') hSf ?_
    exact ih m _ [] _ o _ w hok' (by omega) hX' (by rw [size_put, ha]) (he.puts ha hko) hs (.inr hSf) (fun i hi => by cases hi)
  | br i b t u iht ihu =>
    intro n l acc e o a w hok hd hX ha he hs hS hacc
    simp only [Plan.ok, Bool.and_eq_true] at hok
    obtain ⟨⟨⟨hb, hr⟩, hokt⟩, hoku⟩ := hok
    have hb := eq_of_beq hb
    subst hb
    obtain ⟨⟨x, Ψ, hx, hko, hst, hnx⟩, hXu⟩ := hX
    simp only [Plan.depth] at hd
    have hr' : i ∈ Region.ready .any ops l := by simpa using hr
    refine ihu n l (i :: acc) e o a w hoku (by omega) hXu ha he hs hS ?_
    intro j hj m hm
    rcases List.mem_cons.1 hj with rfl | hj
    · intro x' hx'
      rw [hx] at hx'; cases hx'
      refine (hst D a w he hs).mono fun v w' ⟨o2, ⟨o', hΨ, hp⟩, hs2⟩ => ?_
      have hs' := hs2.perm hp
      obtain ⟨hkeep, hX'⟩ := hnx v o' hΨ
      have hSf : need ops fl j = true → Sf f (c.B :: r) w' := fun hn => ⟨fun h hh => hs'.so h (List.mem_cons_of_mem _ (hkeep hn h hh)), hs'.sr⟩
      refine ⟨hSf, iht m _ [] _ o' _ w' hokt (by omega) hX' (by rw [size_put, ha]) (he.puts ha hko) hs' ?_ (fun i hi => by cases hi)⟩
      cases hn : need ops fl j with
      | true => exact .inr (hSf hn)
      | false => exact .inl (listed_of_ready hr' hn)
    · exact hacc j hj m hm
  | stop =>
    intro n l acc e o a w hok hd _ _ _ _ _ hacc
    simp only [Plan.ok, Bool.and_eq_true, Bool.not_eq_true', List.all_eq_true] at hok
    simp only [Plan.depth] at hd
    obtain ⟨m, rfl⟩ : ∃ m, n = m + 1 := ⟨n - 1, by omega⟩
    refine ⟨fun h => by rw [h] at hok; simp at hok, fun i hi x hx => ?_⟩
    exact hacc i (by simpa using hok.2 i hi) m rfl x hx
/-- A region that draws: a plan that fits its edges, the operations in the plan's order. -/
theorem XK.draw {id : Nat} {l : List Oper} {e : Env} {o : List PHeap} (fl : List Nat) (f : List PHeap) (t : Plan) (hmix : c.P.follows .mixedOrders = true) (hl : l.all (okOper c.N) = true)
    (hok : (Region.noSelect l.toArray && t.ok l.toArray fl (Array.replicate l.length false) [] && Nat.ble t.depth l.length) = true) (hf : AllIn f o [])
    (h : XT c l.toArray fl f k r t e o) : XK c (.code (.region id l.toArray true) :: k) e o r := fun D ds a w cs ha he hD hs => by
  simp only [Bool.and_eq_true] at hok
  have hs1 : Sep (D :: o) (c.B :: r) { w with drawn := w.drawn + 1 } := ⟨hs.pw, hs.dr, hs.so, hs.sr, hs.no, hs.sm⟩
  have hA := plan_sound (D := D) (Q := fun a' w' => ∀ cs, ∃ fr w'', c.E fr w'' ∧ Steps c.P (lone (mk c.f c.rd a' (marks ds) k) cs w') (lone fr cs w'')) hok.1.1
    (fun e o hX a w ha he hs cs => hX D ds a w cs ha he hD hs) t l.length (Array.replicate l.length false) [] e o a { w with drawn := w.drawn + 1 } hok.1.2 (Nat.le_of_ble_eq_true hok.2) h ha he hs1
    (.inr ⟨fun g hg => hs1.so g (List.mem_cons_of_mem _ ((hf.pf g hg).elim (fun h => h) (fun h => by cases h))), hs1.sr⟩) (fun i hi => by cases hi)
  have hnd : ∀ (i : Nat) (x : Oper), l.toArray[i]? = some x → noDefer x = true := fun i x hx => by
    have := List.all_eq_true.1 hl x (by
      rw [List.getElem?_toArray] at hx
      exact List.mem_of_getElem? hx)
    unfold okOper at this
    simp only [Bool.and_eq_true] at this
    exact this.1
  obtain ⟨a', w', hQ, st⟩ := any_steps (f := c.f) (rd := c.rd) (ds := marks ds) (k := k) (cs := cs) hnd l.length (w.tape w.drawn (.order c.f id)) _ a _ hA
  obtain ⟨fr, w'', hE, st'⟩ := hQ cs
  refine ⟨fr, w'', hE, .head step_region_draw ?_⟩
  have hsch : Region.schedule (c.P.follows .mixedOrders) l.toArray (w.tape w.drawn (.order c.f id)) =
      Region.linearise.go .any l.toArray l.length (w.tape w.drawn (.order c.f id)) (Array.replicate l.length false) [] := by
    simp [Region.schedule, hmix, Region.linearise]
  rw [hsch]
  exact Steps.trans st st'
end

/-! ### rules in a plan -/
section
variable {c : Cx} {ops : Array Oper} {fl : List Nat} {f : List PHeap} {k : List Item} {e : Env} {o r : List PHeap} {i : Nat} {b : Bool} {t u : Plan}
theorem XT.q {d : Nat} {op : Op} {ty : TypeId} {pos : String} {aft : Array Edge} {g : Option (Nat × Bool)} {v : Value} (hx : ops[i]? = some ⟨some d, op, ty, pos, aft, g⟩) (hok : okOper c.N ⟨some d, op, ty, pos, aft, g⟩ = true)
    (q : Quiet c.P ops ⟨some d, op, ty, pos, aft, g⟩ e f (c.B :: r) v) (h : XT c ops fl f k r t ((d, some v) :: e) o) : XT c ops fl f k r (.q i t) e o := ⟨_, v, hx, hok, q, h⟩
class Keeps (b : Bool) (f o' : List PHeap) : Prop where
  pf : b = true → ∀ h ∈ f, h ∈ o'
instance Keeps.no {f o' : List PHeap} : Keeps false f o' := ⟨fun h => by cases h⟩
instance Keeps.nil {b : Bool} {o' : List PHeap} : Keeps b [] o' := ⟨fun _ _ h => by cases h⟩
instance Keeps.yes {f o' : List PHeap} [a : AllIn f o' []] : Keeps true f o' := ⟨fun _ h hh => (a.pf h hh).elim (fun h => h) (fun h => by cases h)⟩
/-- The next operation, whatever it does; b: must the heaps that are read stay? -/
theorem XT.s {d : Nat} {op : Op} {ty : TypeId} {pos : String} {aft : Array Edge} {g : Option (Nat × Bool)} {Ψ : Value → List PHeap → Prop} (hx : ops[i]? = some ⟨some d, op, ty, pos, aft, g⟩)
    (hok : okOper c.N ⟨some d, op, ty, pos, aft, g⟩ = true) (s : Stp c.P ops ⟨some d, op, ty, pos, aft, g⟩ e o (c.B :: r) Ψ)
    (h : ∀ v o', Ψ v o' → Keeps b f o' ∧ XT c ops fl f k r t ((d, some v) :: e) o') (hu : XT c ops fl f k r u e o) : XT c ops fl f k r (.br i b t u) e o :=
  ⟨⟨_, Ψ, hx, hok, s, fun v o' hΨ => ⟨(h v o' hΨ).1.pf, (h v o' hΨ).2⟩⟩, hu⟩
theorem XT.s0 {op : Op} {ty : TypeId} {pos : String} {aft : Array Edge} {g : Option (Nat × Bool)} {Ψ : Value → List PHeap → Prop} (hx : ops[i]? = some ⟨none, op, ty, pos, aft, g⟩)
    (hok : okOper c.N ⟨none, op, ty, pos, aft, g⟩ = true) (s : Stp c.P ops ⟨none, op, ty, pos, aft, g⟩ e o (c.B :: r) Ψ)
    (h : ∀ v o', Ψ v o' → Keeps b f o' ∧ XT c ops fl f k r t e o') (hu : XT c ops fl f k r u e o) : XT c ops fl f k r (.br i b t u) e o :=
  ⟨⟨_, Ψ, hx, hok, s, fun v o' hΨ => ⟨(h v o' hΨ).1.pf, (h v o' hΨ).2⟩⟩, hu⟩
theorem XT.stop : XT c ops fl f k r .stop e o := trivial
theorem XT.done (h : XK c k e o r) : XT c ops fl f k r .done e o := h
end
end
end Go.X
