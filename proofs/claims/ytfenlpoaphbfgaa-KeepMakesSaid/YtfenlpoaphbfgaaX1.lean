/- The core of a small program logic over the machine: symbolic temporaries, memory as partial heaps, one judgement for a frame's todo list and one for a region's operations. No condition. -/
import Derived.Calls
import Derived.Orders
namespace Go.X
theorem orMap {a b c d : Prop} (h : a ∨ b) (f : a → c) (g : b → d) : c ∨ d := h.elim (fun x => Or.inl (f x)) (fun x => Or.inr (g x))

/-! ### temporaries -/
abbrev Env := List (Nat × Option Value)
def find : Env → Nat → Option Value
  | [], _ => none
  | (k, v) :: r, t => match Nat.beq t k with
    | true => v
    | false => find r t
def ERel (e : Env) (a : Array Value) : Prop := ∀ t v, find e t = some v → a.getD t undef = v
def ev (e : Env) : Operand → Option Value
  | .tmp t => find e t
  | .const v => some v
  | .global g => some (.pointer (some ⟨g, 0, none⟩))
  | .func f => some (.func (.func f) #[] #[])
def evA (a : Array Value) : Operand → Value
  | .tmp t => a.getD t undef
  | .const v => v
  | .global g => .pointer (some ⟨g, 0, none⟩)
  | .func f => .func (.func f) #[] #[]
def put (a : Array Value) (d : Option Tmp) (v : Value) : Array Value :=
  match d with
  | some d => a.setIfInBounds d v
  | none => a
theorem ev_rel {e : Env} {a : Array Value} (h : ERel e a) {x : Operand} {v : Value} (hx : ev e x = some v) : evA a x = v := by
  cases x <;> simp only [ev, evA, Option.some.injEq] at * <;> first | exact h _ _ hx | exact hx
theorem size_put (a : Array Value) (d : Option Tmp) (v : Value) : (put a d v).size = a.size := by cases d <;> simp [put]
theorem ERel.put {e : Env} {a : Array Value} {d : Nat} {v : Value} (h : ERel e a) (hd : d < a.size) : ERel ((d, some v) :: e) (put a (some d) v) := by
  intro t u hf
  simp only [find] at hf
  split at hf
  · rename_i hb
    have := Nat.eq_of_beq_eq_true hb
    subst this
    simp only [X.put, Option.some.injEq] at *
    subst hf
    simp [hd]
  · rename_i hb
    have hne : d ≠ t := by rintro rfl; simp [Nat.beq_refl] at hb
    have := h t u hf
    simpa [X.put, Array.getElem?_setIfInBounds_ne hne] using this
theorem ERel.forget {e : Env} {a : Array Value} {d : Nat} {v : Value} (h : ERel e a) : ERel ((d, none) :: e) (X.put a (some d) v) := by
  intro t u hf
  simp only [find] at hf
  split at hf
  · cases hf
  · rename_i hb
    have hne : d ≠ t := by rintro rfl; simp [Nat.beq_refl] at hb
    have := h t u hf
    simpa [X.put, Array.getElem?_setIfInBounds_ne hne] using this

/-! ### memory -/
/-- A part of the heap; 'm' tells, where it is there, what the world says outside the heap. -/
structure PHeap where
  f : Nat → Option Obj
  m : Option (Os × Array (Nat × ByteArray))
instance : CoeFun PHeap (fun _ => Nat → Option Obj) := ⟨PHeap.f⟩
def mt (w : World) : Os × Array (Nat × ByteArray) := (w.os, w.output)
def Disj (h g : PHeap) : Prop := ∀ b, h b = none ∨ g b = none
def sub (h : PHeap) (w : World) : Prop := ∀ b o, h b = some o → w.heap[b]? = some o
theorem Disj.symm {h g : PHeap} (d : Disj h g) : Disj g h := fun b => (d b).symm
def emp : PHeap := ⟨fun _ => none, none⟩
theorem emp_disj (h : PHeap) : Disj emp h := fun _ => .inl rfl
def sing (b : Nat) (o : Obj) : PHeap := ⟨fun x => if x = b then some o else none, none⟩
def blk (b : Nat) (cs : List Value) (T : TypeId) : PHeap := sing b (.cells cs.toArray T (0, 0))
theorem sing_self (b : Nat) (o : Obj) : sing b o b = some o := by simp [sing]
theorem sing_some {b x : Nat} {o o' : Obj} (h : sing b o x = some o') : x = b ∧ o' = o := by
  unfold sing at h; dsimp only at h; split at h
  · exact ⟨‹_›, by simpa using h.symm⟩
  · cases h
structure Sep (o r : List PHeap) (w : World) : Prop where
  pw : o.Pairwise Disj
  dr : ∀ h ∈ o, ∀ g ∈ r, Disj h g
  so : ∀ h ∈ o, sub h w
  sr : ∀ g ∈ r, sub g w
  no : ∀ h ∈ o, h.m = none
  sm : ∀ g ∈ r, ∀ m, g.m = some m → mt w = m
theorem Disj.perm {o o' : List PHeap} (p : o.Perm o') (h : o.Pairwise Disj) : o'.Pairwise Disj := (p.pairwise_iff (fun {_ _} d => Disj.symm d)).1 h
theorem Sep.perm {o o' r : List PHeap} {w : World} (p : o.Perm o') (s : Sep o r w) : Sep o' r w where
  pw := Disj.perm p s.pw
  dr := fun h hh => s.dr h (p.mem_iff.2 hh)
  so := fun h hh => s.so h (p.mem_iff.2 hh)
  sr := s.sr
  no := fun h hh => s.no h (p.mem_iff.2 hh)
  sm := s.sm
theorem sub_lt {h : PHeap} {w : World} (s : sub h w) {b : Nat} {o : Obj} (hb : h b = some o) : b < w.heap.size := by
  have := s b o hb
  exact (Array.getElem?_eq_some_iff.1 this).1

theorem Sep.tail {h : PHeap} {o r : List PHeap} {w : World} (s : Sep (h :: o) r w) : Sep o r w :=
  ⟨(List.pairwise_cons.1 s.pw).2, fun g hg => s.dr g (List.mem_cons_of_mem _ hg), fun g hg => s.so g (List.mem_cons_of_mem _ hg), s.sr, fun g hg => s.no g (List.mem_cons_of_mem _ hg), s.sm⟩
theorem Sep.empC {o r : List PHeap} {w : World} (s : Sep o r w) : Sep (emp :: o) r w :=
  ⟨List.pairwise_cons.2 ⟨fun h _ => emp_disj h, s.pw⟩, fun h hh => by
    rcases List.mem_cons.1 hh with rfl | hh
    · exact fun g _ => emp_disj g
    · exact s.dr h hh, fun h hh => by
    rcases List.mem_cons.1 hh with rfl | hh
    · intro b o hb; cases hb
    · exact s.so h hh, s.sr, fun h hh => by
    rcases List.mem_cons.1 hh with rfl | hh
    · rfl
    · exact s.no h hh, s.sm⟩
/-! ### frames and steps -/
def mk (f : FuncId) (rd : Option Nat) (a : Array Value) (ds : List Deferred) (k : List Item) : Frame :=
  { fn := f, tmps := a, todo := k, defers := ds, mode := .run, kind := .normal, roundOf := rd }
def marks (ds : List Nat) : List Deferred := ds.map fun r => { target := .collected r, args := #[] }
section
variable {P : Program} {f : FuncId} {rd : Option Nat} {a : Array Value} {ds : List Deferred} {k : List Item} {cs : List Frame} {w : World}
theorem step_skip : step P (lone (mk f rd a ds (.code .skip :: k)) cs w) = .next (lone (mk f rd a ds k) cs w) :=
  step_lone_go (by simp [stepG, stepG.exec, mk])
theorem step_label {l : Nat} : step P (lone (mk f rd a ds (.code (.label l) :: k)) cs w) = .next (lone (mk f rd a ds k) cs w) :=
  step_lone_go (by simp [stepG, stepG.exec, mk])
theorem step_inBlock {id : Nat} : step P (lone (mk f rd a ds (.inBlock id :: k)) cs w) = .next (lone (mk f rd a ds k) cs w) :=
  step_lone_go (by simp [stepG, stepG.exec, mk])
theorem step_inScope {c : Code} : step P (lone (mk f rd a ds (.inScope c :: k)) cs w) = .next (lone (mk f rd a ds k) cs w) :=
  step_lone_go (by simp [stepG, stepG.exec, mk])
theorem step_seq {x y : Code} :
    step P (lone (mk f rd a ds (.code (.seq x y) :: k)) cs w) = .next (lone (mk f rd a ds (.code x :: .code y :: k)) cs w) :=
  step_lone_go (by simp [stepG, stepG.exec, mk])
theorem eval_mk (x : Operand) : (mk f rd a ds k).eval x = evA a x := by cases x <;> rfl
theorem step_cond {c : Operand} {x y : Code} {t : Bool} (h : evA a c = .bool t) :
    step P (lone (mk f rd a ds (.code (.cond c x y) :: k)) cs w) = .next (lone (mk f rd a ds (.code (if t then x else y) :: k)) cs w) :=
  step_lone_go (by
    have := eval_mk (f := f) (rd := rd) (a := a) (ds := ds) (k := .code (.cond c x y) :: k) c
    simp only [mk] at this
    simp [stepG, stepG.exec, mk, this, h])
theorem step_block {id : Nat} {c : Code} :
    step P (lone (mk f rd a ds (.code (.block id c) :: k)) cs w) = .next (lone (mk f rd a ds (.code c :: .inBlock id :: k)) cs w) :=
  step_lone_go (by simp [stepG, stepG.exec, mk])
theorem step_scope {c : Code} :
    step P (lone (mk f rd a ds (.code (.scope c) :: k)) cs w) = .next (lone (mk f rd a ds (.code c :: .inScope c :: k)) cs w) :=
  step_lone_go (by simp [stepG, stepG.exec, mk])
theorem step_loop {c : Code} :
    step P (lone (mk f rd a ds (.code (.loop c) :: k)) cs w) = .next (lone (mk f rd a ds (.code c :: .inLoop c :: k)) cs w) :=
  step_lone_go (by simp [stepG, stepG.exec, mk])
theorem step_inLoop {c : Code} :
    step P (lone (mk f rd a ds (.inLoop c :: k)) cs w) = .next (lone (mk f rd a ds (.code c :: .inLoop c :: k)) cs w) :=
  step_lone_go (by simp [stepG, stepG.exec, mk])
theorem step_exit {id : Nat} {k' : List Item} (h : exitTo id k = some k') :
    step P (lone (mk f rd a ds (.code (.exit id) :: k)) cs w) = .next (lone (mk f rd a ds k') cs w) :=
  step_lone_go (by simp [stepG, stepG.exec, mk, h])
theorem step_goto {l : Nat} {k' : List Item} (h : gotoIn l k = some k') :
    step P (lone (mk f rd a ds (.code (.goto l) :: k)) cs w) = .next (lone (mk f rd a ds k') cs w) :=
  step_lone_go (by simp [stepG, stepG.exec, mk, h])
theorem step_region {id : Nat} {ops : Array Oper} :
    step P (lone (mk f rd a ds (.code (.region id ops false) :: k)) cs w) = .next (lone (mk f rd a ds (.inRegion ops (List.range ops.size) :: k)) cs w) :=
  step_lone_go (by simp [stepG, stepG.exec, mk])
theorem step_region_draw {id : Nat} {ops : Array Oper} :
    step P (lone (mk f rd a ds (.code (.region id ops true) :: k)) cs w) =
      .next (lone (mk f rd a ds (.inRegion ops (Region.schedule (P.follows .mixedOrders) ops (w.tape w.drawn (.order f id))) :: k)) cs { w with drawn := w.drawn + 1 }) :=
  step_lone_go (by simp [stepG, stepG.exec, mk, choose, Sem.run, Question.forced, Question.cut])
theorem step_region_end {ops : Array Oper} : step P (lone (mk f rd a ds (.inRegion ops [] :: k)) cs w) = .next (lone (mk f rd a ds k) cs w) :=
  step_lone_go (by simp [stepG, stepG.exec, mk])
theorem step_ret : step P (lone (mk f none a ds (.code .ret :: k)) cs w) = .next (lone { mk f none a ds (.code .ret :: k) with mode := .returning } cs w) :=
  step_lone_go (by simp [stepG, stepG.exec, mk])
theorem step_end : step P (lone (mk f none a ds []) cs w) = .next (lone { mk f none a ds [] with mode := .returning } cs w) :=
  step_lone_go (by simp [stepG, stepG.exec, mk])
theorem finish_region {ops : Array Oper} {i : Nat} {rest : List Nat} (v : Value) :
    (mk f rd a ds (.inRegion ops (i :: rest) :: k)).finish v = mk f rd (put a ((ops[i]?).bind (·.dst)) v) ds (.inRegion ops rest :: k) := by
  cases h : (ops[i]?).bind (·.dst) <;> simp [Frame.finish, mk, put, h]
theorem step_op_skip {ops : Array Oper} {i : Nat} {rest : List Nat} (h : ((ops[i]?).map (Region.wanted · (yielded ops a))).getD false = false) :
    step P (lone (mk f rd a ds (.inRegion ops (i :: rest) :: k)) cs w) =
      .next (lone (mk f rd (put a ((ops[i]?).bind (·.dst)) undef) ds (.inRegion ops rest :: k)) cs w) := by
  rw [← finish_region]
  exact step_lone_go (by
    have h' := h
    simp only [mk] at *
    simp [stepG, stepG.exec, h'])
def noDefer (o : Oper) : Bool := match o.op with
  | .defer _ => false
  | _ => true
theorem stepG_op {ops : Array Oper} {i : Nat} {rest : List Nat} {o : Oper} (ho : ops[i]? = some o) (hw : Region.wanted o (yielded ops a) = true) (hn : noDefer o = true) :
    stepG P true { frame := mk f rd a ds (.inRegion ops (i :: rest) :: k), callers := cs, status := .running, dying := none } w =
      stepG.apply P true (mk f rd a ds (.inRegion ops (i :: rest) :: k)) cs none (execOp (evA a) o) w := by
  have he : (mk f rd a ds (.inRegion ops (i :: rest) :: k)).eval = evA a := funext fun x => eval_mk x
  simp only [mk] at he
  obtain ⟨d, op, ty, pos, aft, g⟩ := o
  cases rd <;> cases op <;> first
    | (simp [noDefer] at hn; done)
    | simp [stepG, stepG.exec, stepG.oper, Frame.oper?, mk, ho, hw, he]
end

/-! ### one operation -/
/-- A round of a range-over-function loop: it returns a bool to whoever yielded. -/
def Rounds (P : Program) (l : Nat) (g : FuncId) (tmps : Array Value) (assign body : Code) (w : World) (Post : Value → World → Prop) : Prop :=
  ∀ (c0 : Frame) (cs : List Frame), ∃ v w', Post v w' ∧ Steps P (lone (Frame.round l g tmps assign body .normal) (c0 :: cs) w) (lone (c0.finish v) cs w')
def Does (P : Program) (ops : Array Oper) (o : Oper) (a : Array Value) (w : World) (Post : Value → World → Prop) : Prop :=
  if Region.wanted o (yielded ops a) = true then
    match (execOp (evA a) o).run P w with
    | .ok (.value v) w' => Post v w'
    | .ok .skip w' => Post undef w'
    | .ok (.enter g args) w' => Calls P g args w' fun e w'' => ∃ v, e = .returned v ∧ Post v w''
    | .ok (.round l g tmps assign body) w' => Rounds P l g tmps assign body w' Post
    | _ => False
  else Post undef w
theorem Does.mono {P : Program} {ops : Array Oper} {o : Oper} {a : Array Value} {w : World} {Q R : Value → World → Prop}
    (h : Does P ops o a w Q) (m : ∀ v w', Q v w' → R v w') : Does P ops o a w R := by
  unfold Does at *
  split
  · rename_i hw
    simp only [hw, if_true] at h
    split at h
    · exact m _ _ h
    · exact m _ _ h
    · exact h.mono fun e w'' ⟨v, he, hv⟩ => ⟨v, he, m _ _ hv⟩
    · exact fun c0 cs => let ⟨v, w', hv, hs⟩ := h c0 cs; ⟨v, w', m _ _ hv, hs⟩
    · exact h.elim
  · rename_i hw
    simp only [hw] at h
    exact m _ _ h
theorem finish_returns {P : Program} {fr c : Frame} {cs : List Frame} {w : World} {v : Value} (h : fr.leaving P w (.returned v)) :
    Steps P (lone fr (c :: cs) w) (lone (c.finish v) cs w) := .one (step_leave_returned h)
theorem does_steps {P : Program} {ops : Array Oper} {o : Oper} {a : Array Value} {w : World} {Post : Value → World → Prop} (h : Does P ops o a w Post)
    {f : FuncId} {rd : Option Nat} {ds : List Deferred} {k : List Item} {i : Nat} {rest : List Nat} (ho : ops[i]? = some o) (hn : noDefer o = true) (cs : List Frame) :
    ∃ v w', Post v w' ∧ Steps P (lone (mk f rd a ds (.inRegion ops (i :: rest) :: k)) cs w) (lone (mk f rd (put a o.dst v) ds (.inRegion ops rest :: k)) cs w') := by
  unfold Does at h
  have hfin : ∀ v, (mk f rd a ds (.inRegion ops (i :: rest) :: k)).finish v = mk f rd (put a o.dst v) ds (.inRegion ops rest :: k) := by
    intro v; rw [finish_region, ho]; rfl
  split at h
  · rename_i hw
    have hg := stepG_op (P := P) (f := f) (rd := rd) (ds := ds) (k := k) (cs := cs) (w := w) (rest := rest) ho hw hn
    split at h
    · rename_i v w' hr
      refine ⟨v, w', h, .one (step_lone_go ?_)⟩
      rw [hg, ← hfin]; simp [stepG.apply, hr]
    · rename_i w' hr
      refine ⟨undef, w', h, .one (step_lone_go ?_)⟩
      rw [hg, ← hfin]; simp [stepG.apply, hr]
    · rename_i g args w' hr
      obtain ⟨e, w'', fr, ⟨v, rfl, hp⟩, hsteps, _, hleave⟩ := h (mk f rd a ds (.inRegion ops (i :: rest) :: k) :: cs)
      have henter : step P (lone (mk f rd a ds (.inRegion ops (i :: rest) :: k)) cs w) =
          .next (lone (Frame.enter P g args .normal) (mk f rd a ds (.inRegion ops (i :: rest) :: k) :: cs) w') :=
        step_lone_go (by rw [hg]; simp [stepG.apply, hr, mk])
      refine ⟨v, w'', hp, .head henter (Steps.trans hsteps ?_)⟩
      rw [← hfin]; exact finish_returns hleave
    · rename_i l g tmps as bd w' hr
      obtain ⟨v, w'', hp, hs⟩ := h (mk f rd a ds (.inRegion ops (i :: rest) :: k)) cs
      have henter : step P (lone (mk f rd a ds (.inRegion ops (i :: rest) :: k)) cs w) =
          .next (lone (Frame.round l g tmps as bd .normal) (mk f rd a ds (.inRegion ops (i :: rest) :: k) :: cs) w') :=
        step_lone_go (by rw [hg]; simp [stepG.apply, hr])
      refine ⟨v, w'', hp, .head henter ?_⟩
      rw [← hfin]; exact hs
    · exact h.elim
  · rename_i hw
    refine ⟨undef, w, h, .one ?_⟩
    have := step_op_skip (P := P) (f := f) (rd := rd) (a := a) (ds := ds) (k := k) (cs := cs) (w := w) (ops := ops) (i := i) (rest := rest) (by simp [ho]; simpa using hw)
    rw [this]
    simp [ho]

/-! ### the judgements -/
structure Cx where
  P : Program
  f : FuncId
  rd : Option Nat
  N : Nat
  B : PHeap
  E : Frame → World → Prop
/-- The blocks that range-over-function loops leave for the frame's end. -/
def Marked (D : PHeap) (ds : List Nat) : Prop := ds.Nodup ∧ ∀ b, D b = if b ∈ ds then some (.deferred (some [])) else none
def XK (c : Cx) (k : List Item) (e : Env) (o r : List PHeap) : Prop :=
  ∀ D ds a w cs, a.size = c.N → ERel e a → Marked D ds → Sep (D :: o) (c.B :: r) w →
    ∃ fr w', c.E fr w' ∧ Steps c.P (lone (mk c.f c.rd a (marks ds) k) cs w) (lone fr cs w')
def okOper (N : Nat) (o : Oper) : Bool :=
  noDefer o && match o.dst with
    | some d => Nat.blt d N
    | none => true
def XO (c : Cx) (ops : Array Oper) (rest : List Oper) (k : List Item) (e : Env) (o r : List PHeap) : Prop :=
  ∀ j, ops.toList.drop j = rest → rest.all (okOper c.N) = true →
    ∀ D ds a w cs, a.size = c.N → ERel e a → Marked D ds → Sep (D :: o) (c.B :: r) w →
      ∃ fr w', c.E fr w' ∧ Steps c.P (lone (mk c.f c.rd a (marks ds) (.inRegion ops (List.range' j rest.length) :: k)) cs w) (lone fr cs w')

section
variable {c : Cx} {k : List Item} {e : Env} {o r : List PHeap}
theorem XK.of_step {k' : List Item} (hs : ∀ ds a cs w, step c.P (lone (mk c.f c.rd a (marks ds) k) cs w) = .next (lone (mk c.f c.rd a (marks ds) k') cs w))
    (h : XK c k' e o r) : XK c k e o r := fun D ds a w cs ha he hD hm =>
  let ⟨fr, w', hE, st⟩ := h D ds a w cs ha he hD hm
  ⟨fr, w', hE, .head (hs ds a cs w) st⟩
theorem XK.skip (h : XK c k e o r) : XK c (.code .skip :: k) e o r := .of_step (fun _ _ _ _ => step_skip) h
theorem XK.label {l : Nat} (h : XK c k e o r) : XK c (.code (.label l) :: k) e o r := .of_step (fun _ _ _ _ => step_label) h
theorem XK.inBlock {l : Nat} (h : XK c k e o r) : XK c (.inBlock l :: k) e o r := .of_step (fun _ _ _ _ => step_inBlock) h
theorem XK.inScope {b : Code} (h : XK c k e o r) : XK c (.inScope b :: k) e o r := .of_step (fun _ _ _ _ => step_inScope) h
theorem XK.seq {x y : Code} (h : XK c (.code x :: .code y :: k) e o r) : XK c (.code (.seq x y) :: k) e o r := .of_step (fun _ _ _ _ => step_seq) h
theorem XK.block {id : Nat} {x : Code} (h : XK c (.code x :: .inBlock id :: k) e o r) : XK c (.code (.block id x) :: k) e o r := .of_step (fun _ _ _ _ => step_block) h
theorem XK.scope {x : Code} (h : XK c (.code x :: .inScope x :: k) e o r) : XK c (.code (.scope x) :: k) e o r := .of_step (fun _ _ _ _ => step_scope) h
theorem XK.loop' {x : Code} (h : XK c (.code x :: .inLoop x :: k) e o r) : XK c (.code (.loop x) :: k) e o r := .of_step (fun _ _ _ _ => step_loop) h
theorem XK.inLoop' {x : Code} (h : XK c (.code x :: .inLoop x :: k) e o r) : XK c (.inLoop x :: k) e o r := .of_step (fun _ _ _ _ => step_inLoop) h
theorem XK.exit {id : Nat} {k' : List Item} (hx : exitTo id k = some k') (h : XK c k' e o r) : XK c (.code (.exit id) :: k) e o r := .of_step (fun _ _ _ _ => step_exit hx) h
theorem XK.goto {l : Nat} {k' : List Item} (hx : gotoIn l k = some k') (h : XK c k' e o r) : XK c (.code (.goto l) :: k) e o r := .of_step (fun _ _ _ _ => step_goto hx) h
theorem XK.cond {x : Operand} {y z : Code} {t : Bool} (hx : ev e x = some (.bool t)) (ht : t = true → XK c (.code y :: k) e o r) (hf : t = false → XK c (.code z :: k) e o r) :
    XK c (.code (.cond x y z) :: k) e o r := fun D ds a w cs ha he hD hm => by
  have hv := ev_rel he hx
  cases t with
  | true =>
    obtain ⟨fr, w', hE, st⟩ := ht rfl D ds a w cs ha he hD hm
    exact ⟨fr, w', hE, .head (step_cond hv) st⟩
  | false =>
    obtain ⟨fr, w', hE, st⟩ := hf rfl D ds a w cs ha he hD hm
    exact ⟨fr, w', hE, .head (step_cond hv) st⟩
theorem XK.region {id : Nat} {l : List Oper} (hok : l.all (okOper c.N) = true) (h : XO c l.toArray l k e o r) :
    XK c (.code (.region id l.toArray false) :: k) e o r := fun D ds a w cs ha he hD hm => by
  obtain ⟨fr, w', hE, st⟩ := h 0 rfl hok D ds a w cs ha he hD hm
  refine ⟨fr, w', hE, .head step_region ?_⟩
  simpa [List.range_eq_range'] using st
theorem XO.done {ops : Array Oper} (h : XK c k e o r) : XO c ops [] k e o r := fun _ _ _ D ds a w cs ha he hD hm =>
  let ⟨fr, w', hE, st⟩ := h D ds a w cs ha he hD hm
  ⟨fr, w', hE, .head step_region_end st⟩

/-- Two states: what is known in the second is known in the first. -/
theorem XK.weaken {e' : Env} {o' r' : List PHeap} (h : XK c k e' o' r') (he : ∀ a, ERel e a → ERel e' a) (hm : ∀ D w, Sep (D :: o) (c.B :: r) w → Sep (D :: o') (c.B :: r') w) :
    XK c k e o r := fun D ds a w cs ha h1 hD h2 => h D ds a w cs ha (he a h1) hD (hm D w h2)

/-! ### a loop -/
/-- The state at a loop's head is given by 'x'. -/
theorem XK.loop {X : Type} (ex : X → Env) (ox rx : X → List PHeap) (I : X → Prop) (μ : X → Nat) (x0 : X) {body : Code} (h0 : I x0)
    (henv : ∀ a, ERel e a → ERel (ex x0) a) (hmem : ∀ D w, Sep (D :: o) (c.B :: r) w → Sep (D :: ox x0) (c.B :: rx x0) w)
    (round : ∀ x, I x → (∀ x', I x' → μ x' < μ x → XK c (.inLoop body :: k) (ex x') (ox x') (rx x')) →
      XK c (.code body :: .inLoop body :: k) (ex x) (ox x) (rx x)) :
    XK c (.code (.loop body) :: k) e o r := by
  have key : ∀ n x, μ x = n → I x → XK c (.code body :: .inLoop body :: k) (ex x) (ox x) (rx x) := by
    intro n
    induction n using Nat.strongRecOn with
    | _ n ih =>
      intro x hn hI
      exact round x hI fun x' hI' hlt => XK.inLoop' (ih (μ x') (hn ▸ hlt) x' rfl hI')
  exact XK.loop' (XK.weaken (key _ x0 rfl h0) henv hmem)
end

/-! ### rules for one operation: it only reads; it makes one block; anything else -/
def Rd (o r : List PHeap) (w : World) : Prop := (∀ h ∈ o, sub h w) ∧ ∀ h ∈ r, sub h w
def Quiet (P : Program) (ops : Array Oper) (x : Oper) (e : Env) (o r : List PHeap) (v : Value) : Prop :=
  ∀ a w, ERel e a → Rd o r w → (Region.wanted x (yielded ops a) = true ∧ (execOp (evA a) x).run P w = .ok (.value v) w) ∨ (Region.wanted x (yielded ops a) = false ∧ v = undef)
def Makes (P : Program) (ops : Array Oper) (x : Oper) (e : Env) (ob : Obj) (g : Nat → Value) : Prop :=
  ∀ a w, ERel e a → Region.wanted x (yielded ops a) = true ∧ (execOp (evA a) x).run P w = .ok (.value (g w.heap.size)) { w with heap := w.heap.push ob }
def Stp0 (P : Program) (ops : Array Oper) (x : Oper) (e : Env) (o r : List PHeap) (Ψ : Value → List PHeap → Prop) : Prop :=
  ∀ a w, ERel e a → Sep o r w → Does P ops x a w fun v w' => ∃ o', Ψ v o' ∧ Sep o' r w'
/-- Whatever else the frame owns stays. -/
def Stp (P : Program) (ops : Array Oper) (x : Oper) (e : Env) (o r : List PHeap) (Ψ : Value → List PHeap → Prop) : Prop :=
  ∀ D, Stp0 P ops x e (D :: o) r fun v o2 => ∃ o', Ψ v o' ∧ o2.Perm (D :: o')
theorem Quiet.does {P : Program} {ops : Array Oper} {x : Oper} {e : Env} {o r : List PHeap} {v : Value} (q : Quiet P ops x e o r v) {a : Array Value} {w : World}
    (he : ERel e a) (hr : Rd o r w) {Post : Value → World → Prop} (hp : Post v w) : Does P ops x a w Post := by
  unfold Does
  rcases q a w he hr with ⟨hw, hx⟩ | ⟨hw, rfl⟩
  · simp only [hw, if_true, hx]; exact hp
  · simp only [hw]; exact hp
theorem Sep.rd {o r : List PHeap} {w : World} (s : Sep o r w) : Rd o r w := ⟨s.so, s.sr⟩
theorem sub_push {h : PHeap} {w : World} (s : sub h w) (ob : Obj) : sub h { w with heap := w.heap.push ob } := fun b x hb => by
  have := s b x hb
  have hlt := sub_lt s hb
  simp [Array.getElem?_push, Nat.ne_of_lt hlt, this]
theorem disj_push {h : PHeap} {w : World} (s : sub h w) (ob : Obj) : Disj (sing w.heap.size ob) h := fun b => by
  by_cases hb : b = w.heap.size
  · right
    cases hh : h b with
    | none => rfl
    | some x => have := sub_lt s hh; omega
  · left; simp [sing, hb]
theorem Sep.push {o r : List PHeap} {w : World} (s : Sep o r w) (ob : Obj) : Sep (sing w.heap.size ob :: o) r { w with heap := w.heap.push ob } where
  pw := List.pairwise_cons.2 ⟨fun h hh => disj_push (s.so h hh) ob, s.pw⟩
  dr := fun h hh g hg => by
    rcases List.mem_cons.1 hh with rfl | hh
    · exact disj_push (s.sr g hg) ob
    · exact s.dr h hh g hg
  so := fun h hh => by
    rcases List.mem_cons.1 hh with rfl | hh
    · intro b x hb
      obtain ⟨rfl, rfl⟩ := sing_some hb
      simp
    · exact sub_push (s.so h hh) ob
  sr := fun g hg => sub_push (s.sr g hg) ob
  no := fun h hh => by
    rcases List.mem_cons.1 hh with rfl | hh
    · rfl
    · exact s.no h hh
  sm := s.sm
theorem Makes.stp {P : Program} {ops : Array Oper} {x : Oper} {e : Env} {ob : Obj} {g : Nat → Value} (m : Makes P ops x e ob g) (o r : List PHeap) :
    Stp P ops x e o r fun v o' => ∃ b, v = g b ∧ o' = sing b ob :: o := fun D a w he hs => by
  obtain ⟨hw, hx⟩ := m a w he
  unfold Does
  simp only [hw, if_true, hx]
  exact ⟨_, ⟨_, ⟨_, rfl, rfl⟩, List.Perm.swap _ _ _⟩, hs.push ob⟩

section
variable {c : Cx} {ops : Array Oper} {rest : List Oper} {k : List Item} {e : Env} {o r : List PHeap}
theorem drop_succ {l rest : List Oper} {x : Oper} {j : Nat} (h : l.drop j = x :: rest) : l.drop (j + 1) = rest ∧ l[j]? = some x := by
  have hlt : j < l.length := by
    rcases Nat.lt_or_ge j l.length with h' | h'
    · exact h'
    · rw [List.drop_of_length_le h'] at h; cases h
  rw [List.drop_eq_getElem_cons hlt] at h
  simp only [List.cons.injEq] at h
  exact ⟨h.2, by simp [hlt, h.1]⟩
def puts (e : Env) (d : Option Tmp) (v : Value) : Env := match d with
  | some d => (d, some v) :: e
  | none => e
theorem ERel.puts {e : Env} {a : Array Value} {N : Nat} {x : Oper} {v : Value} (h : ERel e a) (hN : a.size = N) (hx : okOper N x = true) : ERel (X.puts e x.dst v) (X.put a x.dst v) := by
  unfold okOper at hx
  cases hd : x.dst with
  | none => exact h
  | some d =>
    simp only [hd, Bool.and_eq_true] at hx
    exact h.put (by have := hx.2; rw [Nat.blt_eq] at this; omega)
/-- Anything else. -/
theorem XO.stp' {x : Oper} {Ψ : Value → List PHeap → Prop} (s : Stp c.P ops x e o (c.B :: r) Ψ)
    (h : ∀ v o', Ψ v o' → XO c ops rest k (X.puts e x.dst v) o' r) : XO c ops (x :: rest) k e o r := by
  intro j hj hok D ds a w cs ha he hD hm
  obtain ⟨hj', hget⟩ := drop_succ hj
  simp only [List.all_cons, Bool.and_eq_true] at hok
  have hn : noDefer x = true := by have := hok.1; unfold okOper at this; simp only [Bool.and_eq_true] at this; exact this.1
  have hget' : ops[j]? = some x := by rw [← Array.getElem?_toList]; exact hget
  obtain ⟨v, w1, ⟨o2, ⟨o', hΨ, hp⟩, hm'⟩, st⟩ := does_steps (f := c.f) (rd := c.rd) (ds := marks ds) (k := k) (rest := List.range' (j + 1) rest.length) (s D a w he hm) hget' hn cs
  obtain ⟨fr, w', hE, st'⟩ := h v o' hΨ (j + 1) hj' hok.2 D ds (put a x.dst v) w1 cs (by rw [size_put, ha]) (he.puts ha hok.1) hD (hm'.perm hp)
  exact ⟨fr, w', hE, Steps.trans st st'⟩
theorem XO.s {d : Nat} {op : Op} {ty : TypeId} {pos : String} {aft : Array Edge} {g : Option (Nat × Bool)} {Ψ : Value → List PHeap → Prop}
    (s : Stp c.P ops ⟨some d, op, ty, pos, aft, g⟩ e o (c.B :: r) Ψ) (h : ∀ v o', Ψ v o' → XO c ops rest k ((d, some v) :: e) o' r) :
    XO c ops (⟨some d, op, ty, pos, aft, g⟩ :: rest) k e o r := XO.stp' s h
theorem XO.s0 {op : Op} {ty : TypeId} {pos : String} {aft : Array Edge} {g : Option (Nat × Bool)} {Ψ : Value → List PHeap → Prop}
    (s : Stp c.P ops ⟨none, op, ty, pos, aft, g⟩ e o (c.B :: r) Ψ) (h : ∀ v o', Ψ v o' → XO c ops rest k e o' r) :
    XO c ops (⟨none, op, ty, pos, aft, g⟩ :: rest) k e o r := XO.stp' s h
theorem Quiet.stp {P : Program} {x : Oper} {v : Value} (q : Quiet P ops x e o r v) : Stp P ops x e o r fun v' o' => v' = v ∧ o' = o :=
  fun D _ _ he hm => q.does he ⟨fun h hh => hm.so h (List.mem_cons_of_mem _ hh), hm.sr⟩ ⟨D :: o, ⟨o, ⟨rfl, rfl⟩, List.Perm.refl _⟩, hm⟩
/-- It only reads. -/
theorem XO.q {d : Nat} {op : Op} {ty : TypeId} {pos : String} {aft : Array Edge} {g : Option (Nat × Bool)} {v : Value}
    (q : Quiet c.P ops ⟨some d, op, ty, pos, aft, g⟩ e o (c.B :: r) v) (h : XO c ops rest k ((d, some v) :: e) o r) :
    XO c ops (⟨some d, op, ty, pos, aft, g⟩ :: rest) k e o r := XO.s q.stp fun _ _ ⟨hv, ho⟩ => by subst hv ho; exact h
/-- It makes one block. -/
theorem XO.m {d : Nat} {op : Op} {ty : TypeId} {pos : String} {aft : Array Edge} {g : Option (Nat × Bool)} {ob : Obj} {F : Nat → Value}
    (m : Makes c.P ops ⟨some d, op, ty, pos, aft, g⟩ e ob F) (h : ∀ b, XO c ops rest k ((d, some (F b)) :: e) (sing b ob :: o) r) :
    XO c ops (⟨some d, op, ty, pos, aft, g⟩ :: rest) k e o r := XO.s (m.stp _ _) fun _ _ ⟨b, hv, ho⟩ => by subst hv ho; exact h b
end
end Go.X
