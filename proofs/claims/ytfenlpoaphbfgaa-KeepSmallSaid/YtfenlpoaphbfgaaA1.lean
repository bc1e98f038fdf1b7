/- A part of the proof: a small program logic, plain laws and contracts of functions, each proved by a walk through its operations. No condition but those that stand in each theorem. -/
import Derived.Calls
import Derived.IntWalk
import Derived.Laws.Sem
import Derived.Laws.World
import Derived.Orders
import Derived.RangeFuncRecord
/- The core of a small program logic over the machine: symbolic temporaries, memory as partial heaps, one judgement for a frame's todo list and one for a region's operations. No condition. -/
namespace Go.X
theorem orMap {a b c d : Prop} (h : a ∨ b) (f : a → c) (g : b → d) : c ∨ d := h.elim (fun x => Or.inl (f x)) (fun x => Or.inr (g x))

/-! ### temporaries -/
abbrev Env := List (Nat × Option Value)
def find : Env → Nat → Option Value
  | [], _ => none
  | (k, v) :: r, t => match Nat.beq t k with
    | true => v
    | false => find r t
def ERel (e : Env) (a : Array Value) : Prop := ∀ t v, find e t = some v → a.getD t undef = v
def ev (e : Env) : Operand → Option Value
  | .tmp t => find e t
  | .const v => some v
  | .global g => some (.pointer (some ⟨g, 0, none⟩))
  | .func f => some (.func (.func f) #[] #[])
def evA (a : Array Value) : Operand → Value
  | .tmp t => a.getD t undef
  | .const v => v
  | .global g => .pointer (some ⟨g, 0, none⟩)
  | .func f => .func (.func f) #[] #[]
def put (a : Array Value) (d : Option Tmp) (v : Value) : Array Value :=
  match d with
  | some d => a.setIfInBounds d v
  | none => a
theorem ev_rel {e : Env} {a : Array Value} (h : ERel e a) {x : Operand} {v : Value} (hx : ev e x = some v) : evA a x = v := by
  cases x <;> simp only [ev, evA, Option.some.injEq] at * <;> first | exact h _ _ hx | exact hx
theorem size_put (a : Array Value) (d : Option Tmp) (v : Value) : (put a d v).size = a.size := by cases d <;> simp [put]
theorem ERel.put {e : Env} {a : Array Value} {d : Nat} {v : Value} (h : ERel e a) (hd : d < a.size) : ERel ((d, some v) :: e) (put a (some d) v) := by
  intro t u hf
  simp only [find] at hf
  split at hf
  · rename_i hb
    have := Nat.eq_of_beq_eq_true hb
    subst this
    simp only [X.put, Option.some.injEq] at *
    subst hf
    simp [hd]
  · rename_i hb
    have hne : d ≠ t := by rintro rfl; simp [Nat.beq_refl] at hb
    have := h t u hf
    simpa [X.put, Array.getElem?_setIfInBounds_ne hne] using this
theorem ERel.forget {e : Env} {a : Array Value} {d : Nat} {v : Value} (h : ERel e a) : ERel ((d, none) :: e) (X.put a (some d) v) := by
  intro t u hf
  simp only [find] at hf
  split at hf
  · cases hf
  · rename_i hb
    have hne : d ≠ t := by rintro rfl; simp [Nat.beq_refl] at hb
    have := h t u hf
    simpa [X.put, Array.getElem?_setIfInBounds_ne hne] using this

/-! ### memory -/
/-- A part of the heap; 'm' tells, where it is there, what the world says outside the heap. -/
structure PHeap where
  f : Nat → Option Obj
  m : Option (Os × Array (Nat × ByteArray))
instance : CoeFun PHeap (fun _ => Nat → Option Obj) := ⟨PHeap.f⟩
def mt (w : World) : Os × Array (Nat × ByteArray) := (w.os, w.output)
def Disj (h g : PHeap) : Prop := ∀ b, h b = none ∨ g b = none
def sub (h : PHeap) (w : World) : Prop := ∀ b o, h b = some o → w.heap[b]? = some o
theorem Disj.symm {h g : PHeap} (d : Disj h g) : Disj g h := fun b => (d b).symm
def emp : PHeap := ⟨fun _ => none, none⟩
theorem emp_disj (h : PHeap) : Disj emp h := fun _ => .inl rfl
def sing (b : Nat) (o : Obj) : PHeap := ⟨fun x => if x = b then some o else none, none⟩
def blk (b : Nat) (cs : List Value) (T : TypeId) : PHeap := sing b (.cells cs.toArray T (0, 0))
theorem sing_self (b : Nat) (o : Obj) : sing b o b = some o := by simp [sing]
theorem sing_some {b x : Nat} {o o' : Obj} (h : sing b o x = some o') : x = b ∧ o' = o := by
  unfold sing at h; dsimp only at h; split at h
  · exact ⟨‹_›, by simpa using h.symm⟩
  · cases h
structure Sep (o r : List PHeap) (w : World) : Prop where
  pw : o.Pairwise Disj
  dr : ∀ h ∈ o, ∀ g ∈ r, Disj h g
  so : ∀ h ∈ o, sub h w
  sr : ∀ g ∈ r, sub g w
  no : ∀ h ∈ o, h.m = none
  sm : ∀ g ∈ r, ∀ m, g.m = some m → mt w = m
theorem Disj.perm {o o' : List PHeap} (p : o.Perm o') (h : o.Pairwise Disj) : o'.Pairwise Disj := (p.pairwise_iff (fun {_ _} d => Disj.symm d)).1 h
theorem Sep.perm {o o' r : List PHeap} {w : World} (p : o.Perm o') (s : Sep o r w) : Sep o' r w where
  pw := Disj.perm p s.pw
  dr := fun h hh => s.dr h (p.mem_iff.2 hh)
  so := fun h hh => s.so h (p.mem_iff.2 hh)
  sr := s.sr
  no := fun h hh => s.no h (p.mem_iff.2 hh)
  sm := s.sm
theorem sub_lt {h : PHeap} {w : World} (s : sub h w) {b : Nat} {o : Obj} (hb : h b = some o) : b < w.heap.size := by
  have := s b o hb
  exact (Array.getElem?_eq_some_iff.1 this).1

theorem Sep.tail {h : PHeap} {o r : List PHeap} {w : World} (s : Sep (h :: o) r w) : Sep o r w :=
  ⟨(List.pairwise_cons.1 s.pw).2, fun g hg => s.dr g (List.mem_cons_of_mem _ hg), fun g hg => s.so g (List.mem_cons_of_mem _ hg), s.sr, fun g hg => s.no g (List.mem_cons_of_mem _ hg), s.sm⟩
theorem Sep.empC {o r : List PHeap} {w : World} (s : Sep o r w) : Sep (emp :: o) r w :=
  ⟨List.pairwise_cons.2 ⟨fun h _ => emp_disj h, s.pw⟩, fun h hh => by
    rcases List.mem_cons.1 hh with rfl | hh
    · exact fun g _ => emp_disj g
    · exact s.dr h hh, fun h hh => by
    rcases List.mem_cons.1 hh with rfl | hh
    · intro b o hb; cases hb
    · exact s.so h hh, s.sr, fun h hh => by
    rcases List.mem_cons.1 hh with rfl | hh
    · rfl
    · exact s.no h hh, s.sm⟩
/-! ### frames and steps -/
def mk (f : FuncId) (rd : Option Nat) (a : Array Value) (ds : List Deferred) (k : List Item) : Frame :=
  { fn := f, tmps := a, todo := k, defers := ds, mode := .run, kind := .normal, roundOf := rd }
def marks (ds : List Nat) : List Deferred := ds.map fun r => { target := .collected r, args := #[] }
section
variable {P : Program} {f : FuncId} {rd : Option Nat} {a : Array Value} {ds : List Deferred} {k : List Item} {cs : List Frame} {w : World}
theorem step_skip : step P (lone (mk f rd a ds (.code .skip :: k)) cs w) = .next (lone (mk f rd a ds k) cs w) :=
  step_lone_go (by simp [stepG, stepG.exec, mk])
theorem step_label {l : Nat} : step P (lone (mk f rd a ds (.code (.label l) :: k)) cs w) = .next (lone (mk f rd a ds k) cs w) :=
  step_lone_go (by simp [stepG, stepG.exec, mk])
theorem step_inBlock {id : Nat} : step P (lone (mk f rd a ds (.inBlock id :: k)) cs w) = .next (lone (mk f rd a ds k) cs w) :=
  step_lone_go (by simp [stepG, stepG.exec, mk])
theorem step_inScope {c : Code} : step P (lone (mk f rd a ds (.inScope c :: k)) cs w) = .next (lone (mk f rd a ds k) cs w) :=
  step_lone_go (by simp [stepG, stepG.exec, mk])
theorem step_seq {x y : Code} :
    step P (lone (mk f rd a ds (.code (.seq x y) :: k)) cs w) = .next (lone (mk f rd a ds (.code x :: .code y :: k)) cs w) :=
  step_lone_go (by simp [stepG, stepG.exec, mk])
theorem eval_mk (x : Operand) : (mk f rd a ds k).eval x = evA a x := by cases x <;> rfl
theorem step_cond {c : Operand} {x y : Code} {t : Bool} (h : evA a c = .bool t) :
    step P (lone (mk f rd a ds (.code (.cond c x y) :: k)) cs w) = .next (lone (mk f rd a ds (.code (if t then x else y) :: k)) cs w) :=
  step_lone_go (by
    have := eval_mk (f := f) (rd := rd) (a := a) (ds := ds) (k := .code (.cond c x y) :: k) c
    simp only [mk] at this
    simp [stepG, stepG.exec, mk, this, h])
theorem step_block {id : Nat} {c : Code} :
    step P (lone (mk f rd a ds (.code (.block id c) :: k)) cs w) = .next (lone (mk f rd a ds (.code c :: .inBlock id :: k)) cs w) :=
  step_lone_go (by simp [stepG, stepG.exec, mk])
theorem step_scope {c : Code} :
    step P (lone (mk f rd a ds (.code (.scope c) :: k)) cs w) = .next (lone (mk f rd a ds (.code c :: .inScope c :: k)) cs w) :=
  step_lone_go (by simp [stepG, stepG.exec, mk])
theorem step_loop {c : Code} :
    step P (lone (mk f rd a ds (.code (.loop c) :: k)) cs w) = .next (lone (mk f rd a ds (.code c :: .inLoop c :: k)) cs w) :=
  step_lone_go (by simp [stepG, stepG.exec, mk])
theorem step_inLoop {c : Code} :
    step P (lone (mk f rd a ds (.inLoop c :: k)) cs w) = .next (lone (mk f rd a ds (.code c :: .inLoop c :: k)) cs w) :=
  step_lone_go (by simp [stepG, stepG.exec, mk])
theorem step_exit {id : Nat} {k' : List Item} (h : exitTo id k = some k') :
    step P (lone (mk f rd a ds (.code (.exit id) :: k)) cs w) = .next (lone (mk f rd a ds k') cs w) :=
  step_lone_go (by simp [stepG, stepG.exec, mk, h])
theorem step_goto {l : Nat} {k' : List Item} (h : gotoIn l k = some k') :
    step P (lone (mk f rd a ds (.code (.goto l) :: k)) cs w) = .next (lone (mk f rd a ds k') cs w) :=
  step_lone_go (by simp [stepG, stepG.exec, mk, h])
theorem step_region {id : Nat} {ops : Array Oper} :
    step P (lone (mk f rd a ds (.code (.region id ops false) :: k)) cs w) = .next (lone (mk f rd a ds (.inRegion ops (List.range ops.size) :: k)) cs w) :=
  step_lone_go (by simp [stepG, stepG.exec, mk])
theorem step_region_draw {id : Nat} {ops : Array Oper} :
    step P (lone (mk f rd a ds (.code (.region id ops true) :: k)) cs w) =
      .next (lone (mk f rd a ds (.inRegion ops (Region.schedule (P.follows .mixedOrders) ops (w.tape w.drawn (.order f id))) :: k)) cs { w with drawn := w.drawn + 1 }) :=
  step_lone_go (by simp [stepG, stepG.exec, mk, choose, Sem.run, Question.forced, Question.cut])
theorem step_region_end {ops : Array Oper} : step P (lone (mk f rd a ds (.inRegion ops [] :: k)) cs w) = .next (lone (mk f rd a ds k) cs w) :=
  step_lone_go (by simp [stepG, stepG.exec, mk])
theorem step_ret : step P (lone (mk f none a ds (.code .ret :: k)) cs w) = .next (lone { mk f none a ds (.code .ret :: k) with mode := .returning } cs w) :=
  step_lone_go (by simp [stepG, stepG.exec, mk])
theorem step_end : step P (lone (mk f none a ds []) cs w) = .next (lone { mk f none a ds [] with mode := .returning } cs w) :=
  step_lone_go (by simp [stepG, stepG.exec, mk])
theorem finish_region {ops : Array Oper} {i : Nat} {rest : List Nat} (v : Value) :
    (mk f rd a ds (.inRegion ops (i :: rest) :: k)).finish v = mk f rd (put a ((ops[i]?).bind (·.dst)) v) ds (.inRegion ops rest :: k) := by
  cases h : (ops[i]?).bind (·.dst) <;> simp [Frame.finish, mk, put, h]
theorem step_op_skip {ops : Array Oper} {i : Nat} {rest : List Nat} (h : ((ops[i]?).map (Region.wanted · (yielded ops a))).getD false = false) :
    step P (lone (mk f rd a ds (.inRegion ops (i :: rest) :: k)) cs w) =
      .next (lone (mk f rd (put a ((ops[i]?).bind (·.dst)) undef) ds (.inRegion ops rest :: k)) cs w) := by
  rw [← finish_region]
  exact step_lone_go (by
    have h' := h
    simp only [mk] at *
    simp [stepG, stepG.exec, h'])
def noDefer (o : Oper) : Bool := match o.op with
  | .defer _ => false
  | _ => true
theorem stepG_op {ops : Array Oper} {i : Nat} {rest : List Nat} {o : Oper} (ho : ops[i]? = some o) (hw : Region.wanted o (yielded ops a) = true) (hn : noDefer o = true) :
    stepG P true { frame := mk f rd a ds (.inRegion ops (i :: rest) :: k), callers := cs, status := .running, dying := none } w =
      stepG.apply P true (mk f rd a ds (.inRegion ops (i :: rest) :: k)) cs none (execOp (evA a) o) w := by
  have he : (mk f rd a ds (.inRegion ops (i :: rest) :: k)).eval = evA a := funext fun x => eval_mk x
  simp only [mk] at he
  obtain ⟨d, op, ty, pos, aft, g⟩ := o
  cases rd <;> cases op <;> first
    | (simp [noDefer] at hn; done)
    | simp [stepG, stepG.exec, stepG.oper, Frame.oper?, mk, ho, hw, he]
end

/-! ### one operation -/
/-- A round of a range-over-function loop: it returns a bool to whoever yielded. -/
def Rounds (P : Program) (l : Nat) (g : FuncId) (tmps : Array Value) (assign body : Code) (w : World) (Post : Value → World → Prop) : Prop :=
  ∀ (c0 : Frame) (cs : List Frame), ∃ v w', Post v w' ∧ Steps P (lone (Frame.round l g tmps assign body .normal) (c0 :: cs) w) (lone (c0.finish v) cs w')
def Does (P : Program) (ops : Array Oper) (o : Oper) (a : Array Value) (w : World) (Post : Value → World → Prop) : Prop :=
  if Region.wanted o (yielded ops a) = true then
    match (execOp (evA a) o).run P w with
    | .ok (.value v) w' => Post v w'
    | .ok .skip w' => Post undef w'
    | .ok (.enter g args) w' => Calls P g args w' fun e w'' => ∃ v, e = .returned v ∧ Post v w''
    | .ok (.round l g tmps assign body) w' => Rounds P l g tmps assign body w' Post
    | _ => False
  else Post undef w
theorem Does.mono {P : Program} {ops : Array Oper} {o : Oper} {a : Array Value} {w : World} {Q R : Value → World → Prop}
    (h : Does P ops o a w Q) (m : ∀ v w', Q v w' → R v w') : Does P ops o a w R := by
  unfold Does at *
  split
  · rename_i hw
    simp only [hw, if_true] at h
    split at h
    · exact m _ _ h
    · exact m _ _ h
    · exact h.mono fun e w'' ⟨v, he, hv⟩ => ⟨v, he, m _ _ hv⟩
    · exact fun c0 cs => let ⟨v, w', hv, hs⟩ := h c0 cs; ⟨v, w', m _ _ hv, hs⟩
    · exact h.elim
  · rename_i hw
    simp only [hw] at h
    exact m _ _ h
theorem finish_returns {P : Program} {fr c : Frame} {cs : List Frame} {w : World} {v : Value} (h : fr.leaving P w (.returned v)) :
    Steps P (lone fr (c :: cs) w) (lone (c.finish v) cs w) := .one (step_leave_returned h)
theorem does_steps {P : Program} {ops : Array Oper} {o : Oper} {a : Array Value} {w : World} {Post : Value → World → Prop} (h : Does P ops o a w Post)
    {f : FuncId} {rd : Option Nat} {ds : List Deferred} {k : List Item} {i : Nat} {rest : List Nat} (ho : ops[i]? = some o) (hn : noDefer o = true) (cs : List Frame) :
    ∃ v w', Post v w' ∧ Steps P (lone (mk f rd a ds (.inRegion ops (i :: rest) :: k)) cs w) (lone (mk f rd (put a o.dst v) ds (.inRegion ops rest :: k)) cs w') := by
  unfold Does at h
  have hfin : ∀ v, (mk f rd a ds (.inRegion ops (i :: rest) :: k)).finish v = mk f rd (put a o.dst v) ds (.inRegion ops rest :: k) := by
    intro v; rw [finish_region, ho]; rfl
  split at h
  · rename_i hw
    have hg := stepG_op (P := P) (f := f) (rd := rd) (ds := ds) (k := k) (cs := cs) (w := w) (rest := rest) ho hw hn
    split at h
    · rename_i v w' hr
      refine ⟨v, w', h, .one (step_lone_go ?_)⟩
      rw [hg, ← hfin]; simp [stepG.apply, hr]
    · rename_i w' hr
      refine ⟨undef, w', h, .one (step_lone_go ?_)⟩
      rw [hg, ← hfin]; simp [stepG.apply, hr]
    · rename_i g args w' hr
      obtain ⟨e, w'', fr, ⟨v, rfl, hp⟩, hsteps, _, hleave⟩ := h (mk f rd a ds (.inRegion ops (i :: rest) :: k) :: cs)
      have henter : step P (lone (mk f rd a ds (.inRegion ops (i :: rest) :: k)) cs w) =
          .next (lone (Frame.enter P g args .normal) (mk f rd a ds (.inRegion ops (i :: rest) :: k) :: cs) w') :=
        step_lone_go (by rw [hg]; simp [stepG.apply, hr, mk])
      refine ⟨v, w'', hp, .head henter (Steps.trans hsteps ?_)⟩
      rw [← hfin]; exact finish_returns hleave
    · rename_i l g tmps asn bd w' hr
      obtain ⟨v, w'', hp, hs⟩ := h (mk f rd a ds (.inRegion ops (i :: rest) :: k)) cs
      have henter : step P (lone (mk f rd a ds (.inRegion ops (i :: rest) :: k)) cs w) =
          .next (lone (Frame.round l g tmps asn bd .normal) (mk f rd a ds (.inRegion ops (i :: rest) :: k) :: cs) w') :=
        step_lone_go (by rw [hg]; simp [stepG.apply, hr])
      refine ⟨v, w'', hp, .head henter ?_⟩
      rw [← hfin]; exact hs
    · exact h.elim
  · rename_i hw
    refine ⟨undef, w, h, .one ?_⟩
    have := step_op_skip (P := P) (f := f) (rd := rd) (a := a) (ds := ds) (k := k) (cs := cs) (w := w) (ops := ops) (i := i) (rest := rest) (by simp [ho]; simpa using hw)
    rw [this]
    simp [ho]

/-! ### the judgements -/
structure Cx where
  P : Program
  f : FuncId
  rd : Option Nat
  N : Nat
  B : PHeap
  E : Frame → World → Prop
/-- The blocks that range-over-function loops leave for the frame's end. -/
def Marked (D : PHeap) (ds : List Nat) : Prop := ds.Nodup ∧ ∀ b, D b = if b ∈ ds then some (.deferred (some [])) else none
def XK (c : Cx) (k : List Item) (e : Env) (o r : List PHeap) : Prop :=
  ∀ D ds a w cs, a.size = c.N → ERel e a → Marked D ds → Sep (D :: o) (c.B :: r) w →
    ∃ fr w', c.E fr w' ∧ Steps c.P (lone (mk c.f c.rd a (marks ds) k) cs w) (lone fr cs w')
def okOper (N : Nat) (o : Oper) : Bool :=
  noDefer o && match o.dst with
    | some d => Nat.blt d N
    | none => true
def XO (c : Cx) (ops : Array Oper) (rest : List Oper) (k : List Item) (e : Env) (o r : List PHeap) : Prop :=
  ∀ j, ops.toList.drop j = rest → rest.all (okOper c.N) = true →
    ∀ D ds a w cs, a.size = c.N → ERel e a → Marked D ds → Sep (D :: o) (c.B :: r) w →
      ∃ fr w', c.E fr w' ∧ Steps c.P (lone (mk c.f c.rd a (marks ds) (.inRegion ops (List.range' j rest.length) :: k)) cs w) (lone fr cs w')

section
variable {c : Cx} {k : List Item} {e : Env} {o r : List PHeap}
theorem XK.of_step {k' : List Item} (hs : ∀ ds a cs w, step c.P (lone (mk c.f c.rd a (marks ds) k) cs w) = .next (lone (mk c.f c.rd a (marks ds) k') cs w))
    (h : XK c k' e o r) : XK c k e o r := fun D ds a w cs ha he hD hm =>
  let ⟨fr, w', hE, st⟩ := h D ds a w cs ha he hD hm
  ⟨fr, w', hE, .head (hs ds a cs w) st⟩
theorem XK.skip (h : XK c k e o r) : XK c (.code .skip :: k) e o r := .of_step (fun _ _ _ _ => step_skip) h
theorem XK.label {l : Nat} (h : XK c k e o r) : XK c (.code (.label l) :: k) e o r := .of_step (fun _ _ _ _ => step_label) h
theorem XK.inBlock {l : Nat} (h : XK c k e o r) : XK c (.inBlock l :: k) e o r := .of_step (fun _ _ _ _ => step_inBlock) h
theorem XK.inScope {b : Code} (h : XK c k e o r) : XK c (.inScope b :: k) e o r := .of_step (fun _ _ _ _ => step_inScope) h
theorem XK.seq {x y : Code} (h : XK c (.code x :: .code y :: k) e o r) : XK c (.code (.seq x y) :: k) e o r := .of_step (fun _ _ _ _ => step_seq) h
theorem XK.block {id : Nat} {x : Code} (h : XK c (.code x :: .inBlock id :: k) e o r) : XK c (.code (.block id x) :: k) e o r := .of_step (fun _ _ _ _ => step_block) h
theorem XK.scope {x : Code} (h : XK c (.code x :: .inScope x :: k) e o r) : XK c (.code (.scope x) :: k) e o r := .of_step (fun _ _ _ _ => step_scope) h
theorem XK.loop' {x : Code} (h : XK c (.code x :: .inLoop x :: k) e o r) : XK c (.code (.loop x) :: k) e o r := .of_step (fun _ _ _ _ => step_loop) h
theorem XK.inLoop' {x : Code} (h : XK c (.code x :: .inLoop x :: k) e o r) : XK c (.inLoop x :: k) e o r := .of_step (fun _ _ _ _ => step_inLoop) h
theorem XK.exit {id : Nat} {k' : List Item} (hx : exitTo id k = some k') (h : XK c k' e o r) : XK c (.code (.exit id) :: k) e o r := .of_step (fun _ _ _ _ => step_exit hx) h
theorem XK.goto {l : Nat} {k' : List Item} (hx : gotoIn l k = some k') (h : XK c k' e o r) : XK c (.code (.goto l) :: k) e o r := .of_step (fun _ _ _ _ => step_goto hx) h
theorem XK.cond {x : Operand} {y z : Code} {t : Bool} (hx : ev e x = some (.bool t)) (ht : t = true → XK c (.code y :: k) e o r) (hf : t = false → XK c (.code z :: k) e o r) :
    XK c (.code (.cond x y z) :: k) e o r := fun D ds a w cs ha he hD hm => by
  have hv := ev_rel he hx
  cases t with
  | true =>
    obtain ⟨fr, w', hE, st⟩ := ht rfl D ds a w cs ha he hD hm
    exact ⟨fr, w', hE, .head (step_cond hv) st⟩
  | false =>
    obtain ⟨fr, w', hE, st⟩ := hf rfl D ds a w cs ha he hD hm
    exact ⟨fr, w', hE, .head (step_cond hv) st⟩
theorem XK.region {id : Nat} {l : List Oper} (hok : l.all (okOper c.N) = true) (h : XO c l.toArray l k e o r) :
    XK c (.code (.region id l.toArray false) :: k) e o r := fun D ds a w cs ha he hD hm => by
  obtain ⟨fr, w', hE, st⟩ := h 0 rfl hok D ds a w cs ha he hD hm
  refine ⟨fr, w', hE, .head step_region ?_⟩
  simpa [List.range_eq_range'] using st
theorem XO.done {ops : Array Oper} (h : XK c k e o r) : XO c ops [] k e o r := fun _ _ _ D ds a w cs ha he hD hm =>
  let ⟨fr, w', hE, st⟩ := h D ds a w cs ha he hD hm
  ⟨fr, w', hE, .head step_region_end st⟩

/-- Two states: what is known in the second is known in the first. -/
theorem XK.weaken {e' : Env} {o' r' : List PHeap} (h : XK c k e' o' r') (he : ∀ a, ERel e a → ERel e' a) (hm : ∀ D w, Sep (D :: o) (c.B :: r) w → Sep (D :: o') (c.B :: r') w) :
    XK c k e o r := fun D ds a w cs ha h1 hD h2 => h D ds a w cs ha (he a h1) hD (hm D w h2)

/-! ### a loop -/
/-- The state at a loop's head is given by 'x'. -/
theorem XK.loop {X : Type} (ex : X → Env) (ox rx : X → List PHeap) (I : X → Prop) (μ : X → Nat) (x0 : X) {body : Code} (h0 : I x0)
    (henv : ∀ a, ERel e a → ERel (ex x0) a) (hmem : ∀ D w, Sep (D :: o) (c.B :: r) w → Sep (D :: ox x0) (c.B :: rx x0) w)
    (round : ∀ x, I x → (∀ x', I x' → μ x' < μ x → XK c (.inLoop body :: k) (ex x') (ox x') (rx x')) →
      XK c (.code body :: .inLoop body :: k) (ex x) (ox x) (rx x)) :
    XK c (.code (.loop body) :: k) e o r := by
  have key : ∀ n x, μ x = n → I x → XK c (.code body :: .inLoop body :: k) (ex x) (ox x) (rx x) := by
    intro n
    induction n using Nat.strongRecOn with
    | _ n ih =>
      intro x hn hI
      exact round x hI fun x' hI' hlt => XK.inLoop' (ih (μ x') (hn ▸ hlt) x' rfl hI')
  exact XK.loop' (XK.weaken (key _ x0 rfl h0) henv hmem)
end

/-! ### rules for one operation: it only reads; it makes one block; anything else -/
def Rd (o r : List PHeap) (w : World) : Prop := (∀ h ∈ o, sub h w) ∧ ∀ h ∈ r, sub h w
def Quiet (P : Program) (ops : Array Oper) (x : Oper) (e : Env) (o r : List PHeap) (v : Value) : Prop :=
  ∀ a w, ERel e a → Rd o r w → (Region.wanted x (yielded ops a) = true ∧ (execOp (evA a) x).run P w = .ok (.value v) w) ∨ (Region.wanted x (yielded ops a) = false ∧ v = undef)
def Makes (P : Program) (ops : Array Oper) (x : Oper) (e : Env) (ob : Obj) (g : Nat → Value) : Prop :=
  ∀ a w, ERel e a → Region.wanted x (yielded ops a) = true ∧ (execOp (evA a) x).run P w = .ok (.value (g w.heap.size)) { w with heap := w.heap.push ob }
def Stp0 (P : Program) (ops : Array Oper) (x : Oper) (e : Env) (o r : List PHeap) (Ψ : Value → List PHeap → Prop) : Prop :=
  ∀ a w, ERel e a → Sep o r w → Does P ops x a w fun v w' => ∃ o', Ψ v o' ∧ Sep o' r w'
/-- Whatever else the frame owns stays. -/
def Stp (P : Program) (ops : Array Oper) (x : Oper) (e : Env) (o r : List PHeap) (Ψ : Value → List PHeap → Prop) : Prop :=
  ∀ D, Stp0 P ops x e (D :: o) r fun v o2 => ∃ o', Ψ v o' ∧ o2.Perm (D :: o')
theorem Quiet.does {P : Program} {ops : Array Oper} {x : Oper} {e : Env} {o r : List PHeap} {v : Value} (q : Quiet P ops x e o r v) {a : Array Value} {w : World}
    (he : ERel e a) (hr : Rd o r w) {Post : Value → World → Prop} (hp : Post v w) : Does P ops x a w Post := by
  unfold Does
  rcases q a w he hr with ⟨hw, hx⟩ | ⟨hw, rfl⟩
  · simp only [hw, if_true, hx]; exact hp
  · simp only [hw]; exact hp
theorem Sep.rd {o r : List PHeap} {w : World} (s : Sep o r w) : Rd o r w := ⟨s.so, s.sr⟩
theorem sub_push {h : PHeap} {w : World} (s : sub h w) (ob : Obj) : sub h { w with heap := w.heap.push ob } := fun b x hb => by
  have := s b x hb
  have hlt := sub_lt s hb
  simp [Array.getElem?_push, Nat.ne_of_lt hlt, this]
theorem disj_push {h : PHeap} {w : World} (s : sub h w) (ob : Obj) : Disj (sing w.heap.size ob) h := fun b => by
  by_cases hb : b = w.heap.size
  · right
    cases hh : h b with
    | none => rfl
    | some x => have := sub_lt s hh; omega
  · left; simp [sing, hb]
theorem Sep.push {o r : List PHeap} {w : World} (s : Sep o r w) (ob : Obj) : Sep (sing w.heap.size ob :: o) r { w with heap := w.heap.push ob } where
  pw := List.pairwise_cons.2 ⟨fun h hh => disj_push (s.so h hh) ob, s.pw⟩
  dr := fun h hh g hg => by
    rcases List.mem_cons.1 hh with rfl | hh
    · exact disj_push (s.sr g hg) ob
    · exact s.dr h hh g hg
  so := fun h hh => by
    rcases List.mem_cons.1 hh with rfl | hh
    · intro b x hb
      obtain ⟨rfl, rfl⟩ := sing_some hb
      simp
    · exact sub_push (s.so h hh) ob
  sr := fun g hg => sub_push (s.sr g hg) ob
  no := fun h hh => by
    rcases List.mem_cons.1 hh with rfl | hh
    · rfl
    · exact s.no h hh
  sm := s.sm
theorem Makes.stp {P : Program} {ops : Array Oper} {x : Oper} {e : Env} {ob : Obj} {g : Nat → Value} (m : Makes P ops x e ob g) (o r : List PHeap) :
    Stp P ops x e o r fun v o' => ∃ b, v = g b ∧ o' = sing b ob :: o := fun D a w he hs => by
  obtain ⟨hw, hx⟩ := m a w he
  unfold Does
  simp only [hw, if_true, hx]
  exact ⟨_, ⟨_, ⟨_, rfl, rfl⟩, List.Perm.swap _ _ _⟩, hs.push ob⟩

section
variable {c : Cx} {ops : Array Oper} {rest : List Oper} {k : List Item} {e : Env} {o r : List PHeap}
theorem drop_succ {l rest : List Oper} {x : Oper} {j : Nat} (h : l.drop j = x :: rest) : l.drop (j + 1) = rest ∧ l[j]? = some x := by
  have hlt : j < l.length := by
    rcases Nat.lt_or_ge j l.length with h' | h'
    · exact h'
    · rw [List.drop_of_length_le h'] at h; cases h
  rw [List.drop_eq_getElem_cons hlt] at h
  simp only [List.cons.injEq] at h
  exact ⟨h.2, by simp [hlt, h.1]⟩
def puts (e : Env) (d : Option Tmp) (v : Value) : Env := match d with
  | some d => (d, some v) :: e
  | none => e
theorem ERel.puts {e : Env} {a : Array Value} {N : Nat} {x : Oper} {v : Value} (h : ERel e a) (hN : a.size = N) (hx : okOper N x = true) : ERel (X.puts e x.dst v) (X.put a x.dst v) := by
  unfold okOper at hx
  cases hd : x.dst with
  | none => exact h
  | some d =>
    simp only [hd, Bool.and_eq_true] at hx
    exact h.put (by have := hx.2; rw [Nat.blt_eq] at this; omega)
/-- Anything else. -/
theorem XO.stp' {x : Oper} {Ψ : Value → List PHeap → Prop} (s : Stp c.P ops x e o (c.B :: r) Ψ)
    (h : ∀ v o', Ψ v o' → XO c ops rest k (X.puts e x.dst v) o' r) : XO c ops (x :: rest) k e o r := by
  intro j hj hok D ds a w cs ha he hD hm
  obtain ⟨hj', hget⟩ := drop_succ hj
  simp only [List.all_cons, Bool.and_eq_true] at hok
  have hn : noDefer x = true := by have := hok.1; unfold okOper at this; simp only [Bool.and_eq_true] at this; exact this.1
  have hget' : ops[j]? = some x := by rw [← Array.getElem?_toList]; exact hget
  obtain ⟨v, w1, ⟨o2, ⟨o', hΨ, hp⟩, hm'⟩, st⟩ := does_steps (f := c.f) (rd := c.rd) (ds := marks ds) (k := k) (rest := List.range' (j + 1) rest.length) (s D a w he hm) hget' hn cs
  obtain ⟨fr, w', hE, st'⟩ := h v o' hΨ (j + 1) hj' hok.2 D ds (put a x.dst v) w1 cs (by rw [size_put, ha]) (he.puts ha hok.1) hD (hm'.perm hp)
  exact ⟨fr, w', hE, Steps.trans st st'⟩
theorem XO.s {d : Nat} {op : Op} {ty : TypeId} {pos : String} {aft : Array Edge} {g : Option (Nat × Bool)} {Ψ : Value → List PHeap → Prop}
    (s : Stp c.P ops ⟨some d, op, ty, pos, aft, g⟩ e o (c.B :: r) Ψ) (h : ∀ v o', Ψ v o' → XO c ops rest k ((d, some v) :: e) o' r) :
    XO c ops (⟨some d, op, ty, pos, aft, g⟩ :: rest) k e o r := XO.stp' s h
theorem XO.s0 {op : Op} {ty : TypeId} {pos : String} {aft : Array Edge} {g : Option (Nat × Bool)} {Ψ : Value → List PHeap → Prop}
    (s : Stp c.P ops ⟨none, op, ty, pos, aft, g⟩ e o (c.B :: r) Ψ) (h : ∀ v o', Ψ v o' → XO c ops rest k e o' r) :
    XO c ops (⟨none, op, ty, pos, aft, g⟩ :: rest) k e o r := XO.stp' s h
theorem Quiet.stp {P : Program} {x : Oper} {v : Value} (q : Quiet P ops x e o r v) : Stp P ops x e o r fun v' o' => v' = v ∧ o' = o :=
  fun D _ _ he hm => q.does he ⟨fun h hh => hm.so h (List.mem_cons_of_mem _ hh), hm.sr⟩ ⟨D :: o, ⟨o, ⟨rfl, rfl⟩, List.Perm.refl _⟩, hm⟩
/-- It only reads. -/
theorem XO.q {d : Nat} {op : Op} {ty : TypeId} {pos : String} {aft : Array Edge} {g : Option (Nat × Bool)} {v : Value}
    (q : Quiet c.P ops ⟨some d, op, ty, pos, aft, g⟩ e o (c.B :: r) v) (h : XO c ops rest k ((d, some v) :: e) o r) :
    XO c ops (⟨some d, op, ty, pos, aft, g⟩ :: rest) k e o r := XO.s q.stp fun _ _ ⟨hv, ho⟩ => by subst hv ho; exact h
/-- It makes one block. -/
theorem XO.m {d : Nat} {op : Op} {ty : TypeId} {pos : String} {aft : Array Edge} {g : Option (Nat × Bool)} {ob : Obj} {F : Nat → Value}
    (m : Makes c.P ops ⟨some d, op, ty, pos, aft, g⟩ e ob F) (h : ∀ b, XO c ops rest k ((d, some (F b)) :: e) (sing b ob :: o) r) :
    XO c ops (⟨some d, op, ty, pos, aft, g⟩ :: rest) k e o r := XO.s (m.stp _ _) fun _ _ ⟨b, hv, ho⟩ => by subst hv ho; exact h b
end
end Go.X

/- Contracts, calls, returns; the operations that only compute. No condition. -/
namespace Go.X

/-! ### lists of heaps: taking one out, finding one -/
class Take (h : PHeap) (o : List PHeap) (o1 : outParam (List PHeap)) : Prop where
  pf : o.Perm (h :: o1)
instance (priority := high) Take.head (h : PHeap) (o : List PHeap) : Take h (h :: o) o := ⟨List.Perm.refl _⟩
instance Take.tail (h g : PHeap) (o o1 : List PHeap) [t : Take h o o1] : Take h (g :: o) (g :: o1) := ⟨(t.pf.cons g).trans (List.Perm.swap _ _ _)⟩
class Takes (hs : List PHeap) (o : List PHeap) (o1 : outParam (List PHeap)) : Prop where
  pf : o.Perm (hs ++ o1)
instance Takes.nil (o : List PHeap) : Takes [] o o := ⟨List.Perm.refl _⟩
instance Takes.cons (h : PHeap) (hs o o1 o2 : List PHeap) [t : Take h o o1] [t2 : Takes hs o1 o2] : Takes (h :: hs) o o2 := ⟨t.pf.trans (t2.pf.cons h)⟩
class InL (h : PHeap) (o : List PHeap) : Prop where
  pf : h ∈ o
instance (priority := high) InL.head (h : PHeap) (o : List PHeap) : InL h (h :: o) := ⟨List.mem_cons_self⟩
instance InL.tail (h g : PHeap) (o : List PHeap) [t : InL h o] : InL h (g :: o) := ⟨List.mem_cons_of_mem _ t.pf⟩
class InM (h : PHeap) (o r : List PHeap) : Prop where
  pf : h ∈ o ∨ h ∈ r
instance InM.own (h : PHeap) (o r : List PHeap) [t : InL h o] : InM h o r := ⟨.inl t.pf⟩
instance InM.read (h : PHeap) (o r : List PHeap) [t : InL h r] : InM h o r := ⟨.inr t.pf⟩
class AllIn (hs o r : List PHeap) : Prop where
  pf : ∀ h ∈ hs, h ∈ o ∨ h ∈ r
instance AllIn.nil (o r : List PHeap) : AllIn [] o r := ⟨fun _ h => by cases h⟩
instance AllIn.cons (h : PHeap) (hs o r : List PHeap) [t : InM h o r] [t2 : AllIn hs o r] : AllIn (h :: hs) o r :=
  ⟨fun g hg => by
    rcases List.mem_cons.1 hg with rfl | hg
    · exact t.pf
    · exact t2.pf g hg⟩
instance (priority := low) AllIn.same (hs o : List PHeap) : AllIn hs o hs := ⟨fun _ h => .inr h⟩
instance (priority := low) AllIn.skip (h : PHeap) (hs o r : List PHeap) [t : AllIn hs o r] : AllIn hs o (h :: r) := ⟨fun g hg => orMap (t.pf g hg) id (List.mem_cons_of_mem _)⟩
theorem Sep.left {o1 o2 r : List PHeap} {w : World} (s : Sep (o1 ++ o2) r w) : Sep o1 r w where
  pw := (List.pairwise_append.1 s.pw).1
  dr := fun h hh => s.dr h (List.mem_append_left _ hh)
  so := fun h hh => s.so h (List.mem_append_left _ hh)
  sr := s.sr
  no := fun h hh => s.no h (List.mem_append_left _ hh)
  sm := s.sm
theorem Sep.right {o1 o2 r : List PHeap} {w : World} (s : Sep (o1 ++ o2) r w) : Sep o2 r w where
  pw := (List.pairwise_append.1 s.pw).2.1
  dr := fun h hh => s.dr h (List.mem_append_right _ hh)
  so := fun h hh => s.so h (List.mem_append_right _ hh)
  sr := s.sr
  no := fun h hh => s.no h (List.mem_append_right _ hh)
  sm := s.sm
theorem Sep.reads {o r r' : List PHeap} {w : World} (s : Sep o r w) (h : ∀ g ∈ r', g ∈ r) : Sep o r' w :=
  ⟨s.pw, fun a ha g hg => s.dr a ha g (h g hg), s.so, fun g hg => s.sr g (h g hg), s.no, fun g hg => s.sm g (h g hg)⟩

/-! ### a contract -/
/-- Called in a world in which the heaps 'Hm' (its own to change) and 'Hr' (to read) are there: it returns v; in the place of Hm there are the heaps hs; nothing else has turned. -/
def Spec (P : Program) (f : FuncId) (args : Array Value) (Hm Hr : List PHeap) (R : Value → List PHeap → Prop) : Prop :=
  ∀ o r w, Sep (Hm ++ o) r w → (∀ h ∈ Hr, h ∈ o ∨ h ∈ r) → Calls P f args w fun e w' => ∃ v hs, e = .returned v ∧ R v hs ∧ Sep (hs ++ o) r w'
theorem Spec.mono {P : Program} {f : FuncId} {args : Array Value} {Hm Hr : List PHeap} {R R' : Value → List PHeap → Prop} (h : Spec P f args Hm Hr R)
    (m : ∀ v hs, R v hs → R' v hs) : Spec P f args Hm Hr R' :=
  fun o r w hs hr => (h o r w hs hr).mono fun _ _ ⟨v, hs, he, hR, hS⟩ => ⟨v, hs, he, m v hs hR, hS⟩
def hole (w : World) (Hm : List PHeap) : PHeap := ⟨fun b => open Classical in if ∃ h ∈ Hm, h b ≠ none then none else w.heap[b]?, some (mt w)⟩
theorem le_hole {w : World} {Hm : List PHeap} {h : PHeap} (hs : sub h w) (hd : ∀ g ∈ Hm, Disj g h) {b : Nat} {ob : Obj} (hb : h b = some ob) : hole w Hm b = some ob := by
  unfold hole; dsimp only
  rw [if_neg, hs b ob hb]
  rintro ⟨g, hg, hn⟩
  rcases hd g hg b with h1 | h1
  · exact hn h1
  · rw [h1] at hb; cases hb
def envArgs : Nat → List Value → Env
  | _, [] => []
  | i, v :: vs => (i, some v) :: envArgs (i + 1) vs
theorem find_envArgs {vs : List Value} {i t : Nat} {v : Value} (h : find (envArgs i vs) t = some v) : i ≤ t ∧ vs[t - i]? = some v := by
  induction vs generalizing i with
  | nil => cases h
  | cons u us ih =>
    simp only [envArgs, find] at h
    split at h
    · rename_i hb
      have := Nat.eq_of_beq_eq_true hb
      subst this
      simp at h
      simp [h]
    · rename_i hb
      obtain ⟨h1, h2⟩ := ih h
      have hne : t ≠ i := by rintro rfl; simp [Nat.beq_refl] at hb
      obtain ⟨m, hm⟩ : ∃ m, t - i = m + 1 := ⟨t - i - 1, by omega⟩
      refine ⟨by omega, ?_⟩
      rw [hm, List.getElem?_cons_succ]
      rw [show t - (i + 1) = m by omega] at h2
      exact h2
abbrev cx (P : Program) (f : FuncId) (N : Nat) (B : PHeap) (R : Value → List PHeap → Prop) : Cx :=
  { P, f, rd := none, N, B, E := fun fr w' => ∃ v hs, fr.fn = f ∧ fr.leaving P w' (.returned v) ∧ R v hs ∧ Sep hs [B] w' }
/-- A contract by its body. -/
theorem Spec.intro {P : Program} {f : FuncId} {fn : Func} {N : Nat} {code : Code} {args : List Value} {Hm Hr : List PHeap} {R : Value → List PHeap → Prop}
    (hf : P.funcs[f]? = some fn) (hb : fn.body = some code) (hN : fn.ntmps = N) (hlen : Nat.ble args.length N = true)
    (h : ∀ B, XK (cx P f N B R) [.code code] (envArgs 0 args) Hm Hr) : Spec P f args.toArray Hm Hr R := by
  intro o r w hs hr cs
  have hle := Nat.le_of_ble_eq_true hlen
  have henter : Frame.enter P f args.toArray .normal = mk f none (args.toArray ++ Array.replicate (N - args.length) undef) [] [.code code] := by
    simp [Frame.enter, mk, hf, hb, hN]
  have hdis : ∀ h ∈ Hr, ∀ g ∈ Hm, Disj g h := fun h hh g hg => by
    rcases hr h hh with h1 | h1
    · exact (List.pairwise_append.1 hs.pw).2.2 g hg h h1
    · exact hs.dr g (List.mem_append_left _ hg) h h1
  have hsub : ∀ h ∈ Hr, sub h w := fun h hh => by
    rcases hr h hh with h1 | h1
    · exact hs.so h (List.mem_append_right _ h1)
    · exact hs.sr h h1
  have hS : Sep Hm ((cx P f N (hole w Hm) R).B :: Hr) w := by
    refine ⟨hs.left.pw, ?_, hs.left.so, ?_, hs.left.no, ?_⟩
    · intro g hg x hx
      rcases List.mem_cons.1 hx with rfl | hx
      · intro b
        by_cases hn : g b = none
        · exact .inl hn
        · right
          change hole w Hm b = none
          unfold hole; dsimp only
          rw [if_pos ⟨g, hg, hn⟩]
      · exact hdis x hx g hg
    · intro x hx
      rcases List.mem_cons.1 hx with rfl | hx
      · intro b ob hb
        change hole w Hm b = some ob at hb
        unfold hole at hb; dsimp only at hb
        split at hb
        · cases hb
        · exact hb
      · exact hsub x hx
    · intro x hx m hm
      rcases List.mem_cons.1 hx with rfl | hx
      · exact Option.some.inj hm
      · rcases hr x hx with h1 | h1
        · rw [hs.right.no x h1] at hm; cases hm
        · exact hs.sm x h1 m hm
  obtain ⟨fr, w', ⟨v, hs', hfn, hlv, hR, hS'⟩, st⟩ := h (hole w Hm) emp [] (args.toArray ++ Array.replicate (N - args.length) undef) w cs
    (by simp; omega)
    (by
      intro t v hv
      obtain ⟨_, h2⟩ := find_envArgs hv
      simp only [Nat.sub_zero] at h2
      have hlt : t < args.length := (List.getElem?_eq_some_iff.1 h2).1
      have h3 := (List.getElem?_eq_some_iff.1 h2).2
      simp [Array.getElem?_append, hlt, h3]) ⟨List.nodup_nil, fun b => by simp [emp]⟩ hS.empC
  rw [henter]
  have hBw : ∀ b ob, hole w Hm b = some ob → w'.heap[b]? = some ob := hS'.sr (hole w Hm) List.mem_cons_self
  have hfr : ∀ h, sub h w → (∀ g ∈ Hm, Disj g h) → sub h w' ∧ ∀ x ∈ hs', Disj x h := fun h h1 h2 =>
    ⟨fun b ob hb => hBw b ob (le_hole h1 h2 hb), fun x hx b => by
      rcases hS'.dr x hx (hole w Hm) List.mem_cons_self b with h3 | h3
      · exact .inl h3
      · right
        cases hh : h b with
        | none => rfl
        | some ob => rw [le_hole h1 h2 hh] at h3; cases h3⟩
  have ho : ∀ h ∈ o, sub h w ∧ ∀ g ∈ Hm, Disj g h := fun h hh => ⟨hs.right.so h hh, fun g hg => (List.pairwise_append.1 hs.pw).2.2 g hg h hh⟩
  have hrr : ∀ h ∈ r, sub h w ∧ ∀ g ∈ Hm, Disj g h := fun h hh => ⟨hs.sr h hh, fun g hg => hs.dr g (List.mem_append_left _ hg) h hh⟩
  refine ⟨.returned v, w', fr, ⟨v, hs', rfl, hR, ?_⟩, st, hfn, hlv⟩
  have hmt : mt w' = mt w := hS'.sm _ List.mem_cons_self _ rfl
  refine ⟨List.pairwise_append.2 ⟨hS'.pw, hs.right.pw, fun x hx h hh => (hfr h (ho h hh).1 (ho h hh).2).2 x hx⟩, ?_, ?_, ?_, ?_, fun g hg m hm => hmt.trans (hs.sm g hg m hm)⟩
  · intro x hx g hg
    rcases List.mem_append.1 hx with hx | hx
    · exact (hfr g (hrr g hg).1 (hrr g hg).2).2 x hx
    · exact hs.right.dr x hx g hg
  · intro x hx
    rcases List.mem_append.1 hx with hx | hx
    · exact hS'.so x hx
    · exact (hfr x (ho x hx).1 (ho x hx).2).1
  · exact fun g hg => (hfr g (hrr g hg).1 (hrr g hg).2).1
  · intro x hx
    rcases List.mem_append.1 hx with hx | hx
    · exact hS'.no x hx
    · exact hs.right.no x hx

/-! ### return -/
def QSem {α : Type} (P : Program) (s : Sem α) (o r : List PHeap) (v : α) : Prop := ∀ w, Rd o r w → s.run P w = .ok v w
def ResL (P : Program) (o r : List PHeap) (e : Env) : List ResultVar → List Value → Prop
  | [], vs => vs = []
  | .tmp t :: l, vs => ∃ v us, vs = v :: us ∧ find e t = some v ∧ ResL P o r e l us
  | .cell t ty :: l, vs => ∃ v us ad, vs = v :: us ∧ find e t = some (.pointer (some ad)) ∧ QSem P (loadVar ty ad) o r v ∧ ResL P o r e l us
theorem run_bind {α β : Type} (P : Program) (s : Sem α) (g : α → Sem β) (w : World) :
    (s >>= g).run P w = match s.run P w with
      | .ok v w' => (g v).run P w'
      | .halt h w' => .halt h w' := Sem.run_bind ..
def packed (vs : List Value) : Value := match vs with
  | [v] => v
  | vs => .tuple vs.toArray
def resGet (a : Array Value) : ResultVar → Sem Value
  | .tmp t => pure (a.getD t undef)
  | .cell d t => do loadVar t (← asAddr (a.getD d undef))
theorem run_resGet {P : Program} {o r : List PHeap} {e : Env} {a : Array Value} {w : World} (he : ERel e a) (hr : Rd o r w) :
    ∀ (l : List ResultVar) (vs : List Value), ResL P o r e l vs → (l.mapM (resGet a)).run P w = .ok vs w := by
  intro l
  induction l with
  | nil => intro vs h; simp only [ResL] at h; subst h; rfl
  | cons x l ih =>
    intro vs h
    cases x with
    | tmp t =>
      obtain ⟨v, us, rfl, hv, hl⟩ := h
      have := ih us hl
      have hv' := he t v hv
      rw [List.mapM_cons, run_bind]
      have h1 : (resGet a (.tmp t)).run P w = .ok v w := by simp only [resGet, hv']; rfl
      rw [h1]
      simp only [run_bind]
      rw [this]
      rfl
    | cell t ty =>
      obtain ⟨v, us, ad, rfl, hv, hq, hl⟩ := h
      have := ih us hl
      have hv' := he t _ hv
      rw [List.mapM_cons, run_bind]
      have h1 : (resGet a (.cell t ty)).run P w = .ok v w := by
        simp only [resGet, hv', run_bind]
        exact hq w hr
      rw [h1]
      simp only [run_bind]
      rw [this]
      rfl
theorem run_results {P : Program} {o r : List PHeap} {e : Env} {fn : Func} {l : List ResultVar} {vs : List Value} (hl : fn.results = l.toArray) (h : ResL P o r e l vs)
    {a : Array Value} {w : World} (he : ERel e a) (hr : Rd o r w) : (results fn a).run P w = .ok (packed vs) w := by
  have hk := run_resGet he hr l vs h
  have hd : results fn a = (do
      let vs ← fn.results.mapM (resGet a)
      pure (if h : vs.size = 1 then vs[0] else .tuple vs)) := by
    unfold results
    congr 1
  rw [hd, hl, List.mapM_toArray, run_bind]
  have h2 : (Functor.map List.toArray (List.mapM (resGet a) l)).run P w = .ok vs.toArray w := by
    rw [map_eq_pure_bind, run_bind, hk]
    rfl
  rw [h2]
  match vs with
  | [] => rfl
  | [v] => rfl
  | v :: u :: us => simp [packed, pure]
/-- What a function hands back, out of its owned heaps. -/
theorem Sep.cons {h : PHeap} {o o' r : List PHeap} {w : World} (s : Sep (h :: o) r w) (s' : Sep o' r w) (hd : ∀ g ∈ o', Disj h g) : Sep (h :: o') r w where
  pw := List.pairwise_cons.2 ⟨hd, s'.pw⟩
  dr := fun g hg => by
    rcases List.mem_cons.1 hg with rfl | hg
    · exact s.dr g List.mem_cons_self
    · exact s'.dr g hg
  so := fun g hg => by
    rcases List.mem_cons.1 hg with rfl | hg
    · exact s.so g List.mem_cons_self
    · exact s'.so g hg
  sr := s.sr
  no := fun g hg => by
    rcases List.mem_cons.1 hg with rfl | hg
    · exact s.no g List.mem_cons_self
    · exact s'.no g hg
  sm := s.sm
end Go.X

/- The operations that only compute or read, and calls. No condition. -/
set_option linter.unusedSimpArgs false
set_option linter.unusedVariables false
namespace Go.X

class IsAgg (P : Program) (t : TypeId) (b : outParam Bool) : Prop where
  pf : ∀ w, (isAgg t).run P w = .ok b w
class TySize (P : Program) (t : TypeId) (n : outParam Nat) : Prop where
  pf : ∀ w, (sizeOf t).run P w = .ok n w
class Und (P : Program) (t : TypeId) (d : outParam TypeDesc) : Prop where
  pf : ∀ w, (underlying t).run P w = .ok d w

theorem run_val {P : Program} {s : Sem Value} {w w' : World} {v : Value} (h : s.run P w = .ok v w') :
    (do pure (.value (← s)) : Sem Next).run P w = .ok (.value v) w' := by rw [run_bind, h]; rfl
theorem run_unit {P : Program} {s : Sem Unit} {w w' : World} (h : s.run P w = .ok () w') :
    (do s; pure .skip : Sem Next).run P w = .ok .skip w' := by rw [run_bind, h]; rfl
theorem bind_ok {α β : Type} {P : Program} {s : Sem α} {g : α → Sem β} {w w1 : World} {a : α} (h : s.run P w = .ok a w1) :
    (s >>= g).run P w = (g a).run P w1 := by rw [run_bind, h]

/-! ### what stands under a guard: a value that is there if the guard says so -/
def lz (b want : Bool) (v : Value) : Value := if b = want then v else undef
theorem lzv {e : Env} {x : Operand} {b want : Bool} {v : Value} (hb : b = want) (h : ev e x = some (lz b want v)) : ev e x = some v := by
  rw [h]; simp [lz, hb]

section
variable {P : Program} {ops : Array Oper} {e : Env} {o r : List PHeap} {d : Option Tmp} {ty : TypeId} {pos : String} {aft : Array Edge}
theorem Quiet.mk {op : Op} {v : Value} (h : ∀ a w, ERel e a → Rd o r w → (execOp (evA a) ⟨d, op, ty, pos, aft, none⟩).run P w = .ok (.value v) w) :
    Quiet P ops ⟨d, op, ty, pos, aft, none⟩ e o r v := fun a w he hr => .inl ⟨rfl, h a w he hr⟩
/-- A guarded operation. -/
theorem Quiet.guard {op : Op} {v : Value} {j : Nat} {want b : Bool} {g : Nat} (hj : (ops[j]?).bind (·.dst) = some g) (hg : find e g = some (.bool b))
    (h : b = want → Quiet P ops ⟨d, op, ty, pos, aft, none⟩ e o r v) : Quiet P ops ⟨d, op, ty, pos, aft, some (j, want)⟩ e o r (lz b want v) := by
  intro a w he hr
  have hv := he g _ hg
  have hy : yielded ops a j = some b := by
    unfold yielded
    rw [hj]
    simp only [Option.bind_some]
    have hlt : g < a.size := by
      rcases Nat.lt_or_ge g a.size with h' | h'
      · exact h'
      · simp [Array.getElem?_eq_none h', undef] at hv
    simp only [Array.getElem?_eq_getElem hlt]
    have : a[g] = .bool b := by simpa [hlt] using hv
    rw [this]
  by_cases hb : b = want
  · rcases h hb a w he hr with ⟨_, h2⟩ | ⟨h1, _⟩
    · left
      refine ⟨by simp [Region.wanted, hy, hb], ?_⟩
      simp only [lz, hb, if_true]
      exact h2
    · simp [Region.wanted] at h1
  · right
    refine ⟨by simp [Region.wanted, hy, hb], by simp [lz, hb]⟩

/-! ### moves, numbers, bools -/
theorem Q.move {x : Operand} {v : Value} (hx : ev e x = some v) : Quiet P ops ⟨d, .move x, ty, pos, aft, none⟩ e o r v :=
  .mk fun a w he _ => by simp only [execOp, ev_rel he hx]; rfl
theorem Q.assign {x : Operand} {v : Value} (hx : ev e x = some v) : Quiet P ops ⟨d, .assign x, ty, pos, aft, none⟩ e o r v :=
  .mk fun a w he _ => by simp only [execOp, ev_rel he hx]; rfl
theorem run_eqGuard_int {op : BinOp} {t : TypeId} {x y : Operand} {k k' : IntKind} {m n : Int} (w : World) : (eqGuard op t x y (.int k m) (.int k' n)).run P w = .ok () w := by
  unfold eqGuard
  cases op <;> rfl
theorem run_eqGuard_bool {op : BinOp} {t : TypeId} {x y : Operand} {m n : Bool} (w : World) : (eqGuard op t x y (.bool m) (.bool n)).run P w = .ok () w := by
  unfold eqGuard
  cases op <;> rfl
theorem Q.bin {op : BinOp} {t t2 : TypeId} {x y : Operand} {k k' : IntKind} {m n : Int} {v : Value} (hx : ev e x = some (.int k m)) (hy : ev e y = some (.int k' n))
    (h : ∀ w, (binOp op t (.int k m) (.int k' n)).run P w = .ok v w) : Quiet P ops ⟨d, .binOp op t x y t2, ty, pos, aft, none⟩ e o r v :=
  .mk fun a w he _ => by
    simp only [execOp, ev_rel he hx, ev_rel he hy]
    refine run_val ?_
    rw [bind_ok (run_eqGuard_int w)]
    exact h w
theorem run_arith {op : BinOp} {t : TypeId} {k : IntKind} {m n : Int} (w : World) :
    (binOp .add t (.int k m) (.int k n)).run P w = .ok (.int k (k.wrap (m + n))) w ∧ (binOp .sub t (.int k m) (.int k n)).run P w = .ok (.int k (k.wrap (m - n))) w ∧
    (binOp .mul t (.int k m) (.int k n)).run P w = .ok (.int k (k.wrap (m * n))) w := by
  simp [binOp, Op.intArith, pure, Sem.run]
def in64 (n : Int) : Prop := -9223372036854775808 ≤ n ∧ n ≤ 9223372036854775807
theorem wrap64_of {n : Int} (h : in64 n) : IntKind.i64.wrap n = n := IntWalk.i64_in n ⟨h.1, h.2⟩
theorem Q.add {t t2 : TypeId} {x y : Operand} {m n : Int} (hx : ev e x = some (.int .i64 m)) (hy : ev e y = some (.int .i64 n)) (hr : in64 (m + n)) :
    Quiet P ops ⟨d, .binOp .add t x y t2, ty, pos, aft, none⟩ e o r (.int .i64 (m + n)) :=
  Q.bin hx hy fun w => by rw [(run_arith (op := .add) w).1, wrap64_of hr]
theorem Q.sub {t t2 : TypeId} {x y : Operand} {m n : Int} (hx : ev e x = some (.int .i64 m)) (hy : ev e y = some (.int .i64 n)) (hr : in64 (m - n)) :
    Quiet P ops ⟨d, .binOp .sub t x y t2, ty, pos, aft, none⟩ e o r (.int .i64 (m - n)) :=
  Q.bin hx hy fun w => by rw [(run_arith (op := .add) w).2.1, wrap64_of hr]
theorem Q.mul {t t2 : TypeId} {x y : Operand} {m n : Int} (hx : ev e x = some (.int .i64 m)) (hy : ev e y = some (.int .i64 n)) (hr : in64 (m * n)) :
    Quiet P ops ⟨d, .binOp .mul t x y t2, ty, pos, aft, none⟩ e o r (.int .i64 (m * n)) :=
  Q.bin hx hy fun w => by rw [(run_arith (op := .add) w).2.2, wrap64_of hr]
theorem Q.addW {t t2 : TypeId} {x y : Operand} {k : IntKind} {m n : Int} (hx : ev e x = some (.int k m)) (hy : ev e y = some (.int k n)) :
    Quiet P ops ⟨d, .binOp .add t x y t2, ty, pos, aft, none⟩ e o r (.int k (k.wrap (m + n))) := Q.bin hx hy fun w => (run_arith (op := .add) w).1
theorem Q.subW {t t2 : TypeId} {x y : Operand} {k : IntKind} {m n : Int} (hx : ev e x = some (.int k m)) (hy : ev e y = some (.int k n)) :
    Quiet P ops ⟨d, .binOp .sub t x y t2, ty, pos, aft, none⟩ e o r (.int k (k.wrap (m - n))) := Q.bin hx hy fun w => (run_arith (op := .add) w).2.1
theorem Q.mulW {t t2 : TypeId} {x y : Operand} {k : IntKind} {m n : Int} (hx : ev e x = some (.int k m)) (hy : ev e y = some (.int k n)) :
    Quiet P ops ⟨d, .binOp .mul t x y t2, ty, pos, aft, none⟩ e o r (.int k (k.wrap (m * n))) := Q.bin hx hy fun w => (run_arith (op := .add) w).2.2
theorem beqd (m n : Int) : (m == n) = decide (m = n) := by by_cases h : m = n <;> simp [h]
theorem Q.lss {t t2 : TypeId} {x y : Operand} {k : IntKind} {m n : Int} (hx : ev e x = some (.int k m)) (hy : ev e y = some (.int k n)) :
    Quiet P ops ⟨d, .binOp .lss t x y t2, ty, pos, aft, none⟩ e o r (.bool (decide (m < n))) := Q.bin hx hy fun w => by simp [binOp, Op.intCmp, pure, Sem.run]
theorem Q.leq {t t2 : TypeId} {x y : Operand} {k : IntKind} {m n : Int} (hx : ev e x = some (.int k m)) (hy : ev e y = some (.int k n)) :
    Quiet P ops ⟨d, .binOp .leq t x y t2, ty, pos, aft, none⟩ e o r (.bool (decide (m ≤ n))) := Q.bin hx hy fun w => by simp [binOp, Op.intCmp, pure, Sem.run]
theorem Q.gtr {t t2 : TypeId} {x y : Operand} {k : IntKind} {m n : Int} (hx : ev e x = some (.int k m)) (hy : ev e y = some (.int k n)) :
    Quiet P ops ⟨d, .binOp .gtr t x y t2, ty, pos, aft, none⟩ e o r (.bool (decide (n < m))) := Q.bin hx hy fun w => by simp [binOp, Op.intCmp, pure, Sem.run]
theorem Q.geq {t t2 : TypeId} {x y : Operand} {k : IntKind} {m n : Int} (hx : ev e x = some (.int k m)) (hy : ev e y = some (.int k n)) :
    Quiet P ops ⟨d, .binOp .geq t x y t2, ty, pos, aft, none⟩ e o r (.bool (decide (n ≤ m))) := Q.bin hx hy fun w => by simp [binOp, Op.intCmp, pure, Sem.run]
theorem Q.eql {t t2 : TypeId} {x y : Operand} {k : IntKind} {m n : Int} (hx : ev e x = some (.int k m)) (hy : ev e y = some (.int k n)) :
    Quiet P ops ⟨d, .binOp .eql t x y t2, ty, pos, aft, none⟩ e o r (.bool (decide (m = n))) := Q.bin hx hy fun w => by simp [binOp, Op.intCmp, pure, Sem.run, beqd]
theorem Q.neq {t t2 : TypeId} {x y : Operand} {k : IntKind} {m n : Int} (hx : ev e x = some (.int k m)) (hy : ev e y = some (.int k n)) :
    Quiet P ops ⟨d, .binOp .neq t x y t2, ty, pos, aft, none⟩ e o r (.bool (decide (m ≠ n))) := Q.bin hx hy fun w => by simp [binOp, Op.intCmp, pure, Sem.run, bne, beqd]
theorem run_eqlB {t : TypeId} [u : Und P t .bool] {m n : Bool} (w : World) : (Op.equal t (.bool m) (.bool n)).run P w = .ok (m == n) w := by
  unfold Op.equal Op.maxDepth
  unfold Op.equalIn
  rw [bind_ok (u.pf w)]
  rfl
theorem Q.eqlB {t t2 : TypeId} [u : Und P t .bool] {x y : Operand} {m n : Bool} (hx : ev e x = some (.bool m)) (hy : ev e y = some (.bool n)) :
    Quiet P ops ⟨d, .binOp .eql t x y t2, ty, pos, aft, none⟩ e o r (.bool (m == n)) := .mk fun a w he _ => by
  simp only [execOp, ev_rel he hx, ev_rel he hy]
  refine run_val ?_
  rw [bind_ok (run_eqGuard_bool w)]
  unfold binOp
  simp only
  rw [bind_ok (run_eqlB w)]
  rfl
theorem Q.neqB {t t2 : TypeId} [u : Und P t .bool] {x y : Operand} {m n : Bool} (hx : ev e x = some (.bool m)) (hy : ev e y = some (.bool n)) :
    Quiet P ops ⟨d, .binOp .neq t x y t2, ty, pos, aft, none⟩ e o r (.bool (m != n)) := .mk fun a w he _ => by
  simp only [execOp, ev_rel he hx, ev_rel he hy]
  refine run_val ?_
  rw [bind_ok (run_eqGuard_bool w)]
  unfold binOp
  simp only
  rw [bind_ok (run_eqlB w)]
  rfl
theorem run_div {t : TypeId} {k : IntKind} {m n : Int} (h : n ≠ 0) (w : World) :
    (binOp .quo t (.int k m) (.int k n)).run P w = .ok (.int k (k.wrap (m.tdiv n))) w ∧ (binOp .rem t (.int k m) (.int k n)).run P w = .ok (.int k (m.tmod n)) w := by
  simp [binOp, Op.intDiv, pure, Sem.run, h]
/-- Division where neither side is negative. -/
theorem Q.quo {t t2 : TypeId} {x y : Operand} {m n : Int} (hx : ev e x = some (.int .i64 m)) (hy : ev e y = some (.int .i64 n)) (hm : 0 ≤ m) (hm' : m ≤ 9223372036854775807) (hn : 0 < n) :
    Quiet P ops ⟨d, .binOp .quo t x y t2, ty, pos, aft, none⟩ e o r (.int .i64 (m / n)) := Q.bin hx hy fun w => by
  rw [(run_div (by omega) w).1, Int.tdiv_eq_ediv_of_nonneg hm, wrap64_of]
  have h1 : 0 ≤ m / n := Int.ediv_nonneg hm (by omega)
  have h2 : m / n ≤ m := Int.ediv_le_self _ hm
  constructor <;> omega
theorem Q.rem {t t2 : TypeId} {x y : Operand} {k : IntKind} {m n : Int} (hx : ev e x = some (.int k m)) (hy : ev e y = some (.int k n)) (hm : 0 ≤ m) (hn : n ≠ 0) :
    Quiet P ops ⟨d, .binOp .rem t x y t2, ty, pos, aft, none⟩ e o r (.int k (m % n)) := Q.bin hx hy fun w => by
  rw [(run_div hn w).2, Int.tmod_eq_emod_of_nonneg hm]
theorem Q.quoT {t t2 : TypeId} {x y : Operand} {k : IntKind} {m n : Int} (hx : ev e x = some (.int k m)) (hy : ev e y = some (.int k n)) (hn : n ≠ 0) :
    Quiet P ops ⟨d, .binOp .quo t x y t2, ty, pos, aft, none⟩ e o r (.int k (k.wrap (m.tdiv n))) := Q.bin hx hy fun w => (run_div hn w).1
theorem Q.remT {t t2 : TypeId} {x y : Operand} {k : IntKind} {m n : Int} (hx : ev e x = some (.int k m)) (hy : ev e y = some (.int k n)) (hn : n ≠ 0) :
    Quiet P ops ⟨d, .binOp .rem t x y t2, ty, pos, aft, none⟩ e o r (.int k (m.tmod n)) := Q.bin hx hy fun w => (run_div hn w).2
theorem Q.not {t : TypeId} {x : Operand} {b : Bool} (hx : ev e x = some (.bool b)) : Quiet P ops ⟨d, .unOp .not t x, ty, pos, aft, none⟩ e o r (.bool (!b)) :=
  .mk fun a w he _ => by simp only [execOp, ev_rel he hx]; rfl
theorem Q.neg {t : TypeId} {x : Operand} {m : Int} (hx : ev e x = some (.int .i64 m)) (h : in64 (0 - m)) : Quiet P ops ⟨d, .unOp .neg t x, ty, pos, aft, none⟩ e o r (.int .i64 (0 - m)) :=
  .mk fun a w he _ => by
    simp only [execOp, ev_rel he hx]
    refine run_val ?_
    simp only [Op.unary, Op.intArith, wrap64_of h]
    rfl
theorem Q.pick {x y z : Operand} {b : Bool} {u v : Value} (hx : ev e x = some (.bool b)) (hy : b = true → ev e y = some u) (hz : b = false → ev e z = some v) :
    Quiet P ops ⟨d, .pick x y z, ty, pos, aft, none⟩ e o r (if b = true then u else v) := .mk fun a w he _ => by
  simp only [execOp, ev_rel he hx]
  cases b with
  | true => simp only [if_true, ev_rel he (hy rfl)]; rfl
  | false => simp only [Bool.false_eq_true, if_false, ev_rel he (hz rfl)]; rfl
/-- x || y -/
theorem Q.or {x z : Operand} {b b2 : Bool} (hx : ev e x = some (.bool b)) (hz : b = false → ev e z = some (.bool b2)) :
    Quiet P ops ⟨d, .pick x (.const (.bool true)) z, ty, pos, aft, none⟩ e o r (.bool (b || b2)) := by
  have := Q.pick (P := P) (ops := ops) (o := o) (r := r) (d := d) (ty := ty) (pos := pos) (aft := aft) (y := .const (.bool true)) (u := .bool true) hx (fun _ => rfl) hz
  cases b <;> exact this
/-- x && y -/
theorem Q.and {x z : Operand} {b b2 : Bool} (hx : ev e x = some (.bool b)) (hz : b = true → ev e z = some (.bool b2)) :
    Quiet P ops ⟨d, .pick x z (.const (.bool false)), ty, pos, aft, none⟩ e o r (.bool (b && b2)) := by
  have := Q.pick (P := P) (ops := ops) (o := o) (r := r) (d := d) (ty := ty) (pos := pos) (aft := aft) (z := .const (.bool false)) (v := .bool false) hx hz (fun _ => rfl)
  cases b <;> exact this
theorem Q.extract {x : Operand} {vs : List Value} {i : Nat} {v : Value} (hx : ev e x = some (.tuple vs.toArray)) (hv : vs[i]? = some v) :
    Quiet P ops ⟨d, .extract x i, ty, pos, aft, none⟩ e o r v := .mk fun a w he _ => by
  simp only [execOp, ev_rel he hx]
  refine run_val ?_
  simp only [Instr.extract, List.getElem?_toArray, hv]
  rfl
theorem Q.conv {s t : TypeId} {x : Operand} {k k' : IntKind} {n : Int} {ds : TypeDesc} [us : Und P s ds] [u : Und P t (.int k)] (hx : ev e x = some (.int k' n)) :
    Quiet P ops ⟨d, .convert s t x, ty, pos, aft, none⟩ e o r (.int k (k.wrap n)) := .mk fun a w he _ => by
  simp only [execOp, ev_rel he hx]
  refine run_val ?_
  unfold convert
  rw [bind_ok (us.pf w), bind_ok (u.pf w)]
  rfl
theorem Q.func {fn : Fn} {l l2 : List Operand} {vs us : List Value} (h1 : ∀ a, ERel e a → l.map (evA a) = vs) (h2 : ∀ a, ERel e a → l2.map (evA a) = us) :
    Quiet P ops ⟨d, .makeFunc fn l.toArray l2.toArray, ty, pos, aft, none⟩ e o r (.func fn vs.toArray us.toArray) := .mk fun a w he _ => by
  simp only [execOp]
  refine run_val ?_
  simp only [List.map_toArray, h1 a he, h2 a he]
  rfl
end
def evs (e : Env) : List Operand → Option (List Value)
  | [] => some []
  | x :: l => match ev e x, evs e l with
    | some v, some vs => some (v :: vs)
    | _, _ => none
theorem evs_rel {e : Env} {a : Array Value} (he : ERel e a) : ∀ {l : List Operand} {vs : List Value}, evs e l = some vs → l.map (evA a) = vs
  | [], vs, h => by simp only [evs, Option.some.injEq] at h; subst h; rfl
  | x :: l, vs, h => by
    simp only [evs] at h
    split at h
    · rename_i v us h1 h2
      simp only [Option.some.injEq] at h
      subst h
      rw [List.map_cons, ev_rel he h1, evs_rel he h2]
    · cases h
end Go.X

/- Boxes: variables and structs in memory; calls. No condition. -/
set_option linter.unusedSimpArgs false
set_option linter.unusedVariables false
namespace Go.X

abbrev ptr (b k : Nat) : Value := .pointer (some ⟨b, k, none⟩)
theorem add_none (b k n : Nat) : (⟨b, k, none⟩ : Addr).add n = ⟨b, k + n, none⟩ := by
  unfold Addr.add; split <;> simp_all

/-! ### values of one cell, cells of a value -/
def one : Value → Bool
  | .agg _ | .tuple _ => false
  | _ => true
class One (v : Value) : Prop where
  pf : v.cells = #[v] ∧ one v = true
instance {k n} : One (.int k n) := ⟨rfl, rfl⟩
instance {b} : One (.bool b) := ⟨rfl, rfl⟩
instance {a n c} : One (.slice a n c) := ⟨rfl, rfl⟩
instance {a} : One (.pointer a) := ⟨rfl, rfl⟩
instance {f a b} : One (.func f a b) := ⟨rfl, rfl⟩
instance : One .nilFunc := ⟨rfl, rfl⟩
instance {s} : One (.string s) := ⟨rfl, rfl⟩
instance {s} : One (.map s) := ⟨rfl, rfl⟩
instance {t v} : One (.iface t v) := ⟨rfl, rfl⟩
instance : One .nilIface := ⟨rfl, rfl⟩
class Ones (vs : List Value) : Prop where
  pf : ∀ v ∈ vs, one v = true
instance : Ones [] := ⟨fun _ h => by cases h⟩
instance {v vs} [a : One v] [b : Ones vs] : Ones (v :: vs) := ⟨fun u hu => by
  rcases List.mem_cons.1 hu with rfl | hu
  · exact a.pf.2
  · exact b.pf u hu⟩
class Cells (v : Value) (cs : outParam (List Value)) : Prop where
  pf : v.cells = cs.toArray
instance (priority := high) {cs : List Value} : Cells (.agg cs.toArray) cs := ⟨rfl⟩
instance (priority := low) {v} [a : One v] : Cells v [v] := ⟨a.pf.1⟩

class SetAt (k : Nat) (vs cs : List Value) (cs' : outParam (List Value)) : Prop where
  pf : cs.take k ++ vs ++ cs.drop (k + vs.length) = cs' ∧ k + vs.length ≤ cs.length
instance (priority := high) SetAt.nil {cs : List Value} : SetAt 0 [] cs cs := ⟨by simp⟩
instance SetAt.here {v c : Value} {vs cs cs' : List Value} [t : SetAt 0 vs cs cs'] : SetAt 0 (v :: vs) (c :: cs) (v :: cs') := ⟨by
  have := t.pf
  simp only [List.take_zero, List.nil_append, Nat.zero_add] at this
  simp only [List.take_zero, List.nil_append, Nat.zero_add, List.length_cons, List.drop_succ_cons, List.cons_append, this.1]
  exact ⟨trivial, by omega⟩⟩
instance SetAt.next {k : Nat} {c : Value} {vs cs cs' : List Value} [t : SetAt k vs cs cs'] : SetAt (k + 1) vs (c :: cs) (c :: cs') := ⟨by
  have := t.pf
  rw [show k + 1 + vs.length = k + vs.length + 1 by omega]
  simp only [List.take_succ_cons, List.cons_append, List.drop_succ_cons, List.length_cons, this.1]
  exact ⟨trivial, by omega⟩⟩

/-! ### facts on types, one instance a type -/
class Zero (P : Program) (t : TypeId) (zs : outParam (List Value)) : Prop where
  pf : ∃ z, (∀ w, (zeroValue t).run P w = .ok z w) ∧ z.cells = zs.toArray
class Fld (P : Program) (s i : Nat) (off : outParam Nat) : Prop where
  pf : ∀ b k w, (Instr.fieldAt s (ptr b k) i).run P w = .ok (ptr b (k + off)) w
theorem Fld.of {P : Program} {s i : Nat} {fs : Array Field} {f : Field} {n : Nat} (u : Und P s (.struct fs)) (hf : fs[i]? = some f) (t : TySize P f.type n) (hn : n ≠ 0) {off : Nat} (ho : f.offset = off) : Fld P s i off :=
  ⟨fun b k w => by
    subst ho
    unfold Instr.fieldAt
    rw [bind_ok (u.pf w)]
    simp only [hf]
    have h1 : (Instr.sureAddr (ptr b k)).run P w = .ok ⟨b, k, none⟩ w := rfl
    rw [bind_ok h1]
    have h2 : (fieldPlace ⟨b, k, none⟩ f).run P w = .ok ⟨b, k + f.offset, none⟩ w := by
      unfold fieldPlace
      rw [bind_ok (t.pf w), if_neg hn, add_none]
      rfl
    rw [bind_ok h2]
    rfl⟩
/-- Where the parts of a struct or an array lie: offset and size. -/
class Places (P : Program) (t : TypeId) (pl : outParam (Nat → Option (Nat × Nat))) : Prop where
  pf : ∀ (parts : List (Nat × Value)) (z : Value) (cells : Array Value) (w : World), (∀ w, (zeroValue t).run P w = .ok z w) → Instr.fill pl z.cells parts = some cells →
    (Instr.build t parts.toArray).run P w = .ok (.agg cells) w

/-! ### blocks in the lists -/
class HasL (b : Nat) (o : List PHeap) (cs : outParam (List Value)) (T : outParam TypeId) : Prop where
  pf : blk b cs T ∈ o
instance (priority := high) HasL.head {b cs T o} : HasL b (blk b cs T :: o) cs T := ⟨List.mem_cons_self⟩
instance HasL.tail {b cs T g o} [t : HasL b o cs T] : HasL b (g :: o) cs T := ⟨List.mem_cons_of_mem _ t.pf⟩
class HasB (b : Nat) (o r : List PHeap) (cs : outParam (List Value)) (T : outParam TypeId) : Prop where
  pf : blk b cs T ∈ o ∨ blk b cs T ∈ r
instance HasB.own {b cs T o r} [t : HasL b o cs T] : HasB b o r cs T := ⟨.inl t.pf⟩
instance HasB.read {b cs T o r} [t : HasL b r cs T] : HasB b o r cs T := ⟨.inr t.pf⟩
theorem HasB.heap {b : Nat} {o r : List PHeap} {cs : List Value} {T : TypeId} (t : HasB b o r cs T) {w : World} (h : Rd o r w) : w.heap[b]? = some (.cells cs.toArray T (0, 0)) := by
  rcases t.pf with h1 | h1
  · exact h.1 _ h1 b _ (sing_self _ _)
  · exact h.2 _ h1 b _ (sing_self _ _)
theorem cell_of_heap {w : World} {b k : Nat} {cs : List Value} {T : TypeId} {fr : Nat × Nat} {v : Value} (h : w.heap[b]? = some (.cells cs.toArray T fr)) (hv : cs[k]? = some v) :
    w.cell? ⟨b, k, none⟩ = some v := by simp [World.cell?, h, hv]
theorem run_load {P : Program} {w : World} {a : Addr} {v : Value} (h : w.cell? a = some v) : (load a).run P w = .ok v w := by simp [load, Sem.run, h]
theorem run_loadCellsFrom {P : Program} {w : World} {b k : Nat} : ∀ (n i : Nat) (acc : Array Value) (vs : List Value), vs.length = n →
    (∀ j, j < n → w.cell? ⟨b, k + (i + j), none⟩ = vs[j]?) → (loadCellsFrom ⟨b, k, none⟩ i n acc).run P w = .ok (acc ++ vs.toArray) w
  | 0, i, acc, vs, hl, _ => by
    have : vs = [] := List.length_eq_zero_iff.1 hl
    subst this
    simp [loadCellsFrom, pure, Sem.run]
  | n + 1, i, acc, v :: vs, hl, h => by
    unfold loadCellsFrom
    have h0 := h 0 (by omega)
    simp only [Nat.add_zero, List.getElem?_cons_zero] at h0
    rw [add_none, bind_ok (run_load h0)]
    rw [run_loadCellsFrom n (i + 1) (acc.push v) vs (by simpa using hl) (fun j hj => by
      have := h (j + 1) (by omega)
      simp only [List.getElem?_cons_succ] at this
      rw [← this]
      congr 2
      omega)]
    simp
theorem run_loadVar {P : Program} {w : World} {b k : Nat} {t : TypeId} [g : IsAgg P t false] {v : Value} (h : w.cell? ⟨b, k, none⟩ = some v) :
    (loadVar t ⟨b, k, none⟩).run P w = .ok v w := by
  unfold loadVar
  rw [bind_ok (g.pf w)]
  exact run_load h
theorem run_loadVarA {P : Program} {w : World} {b k : Nat} {t : TypeId} [g : IsAgg P t true] {n : Nat} [s : TySize P t n] {vs : List Value} (hl : vs.length = n)
    (h : ∀ j, j < n → w.cell? ⟨b, k + j, none⟩ = vs[j]?) : (loadVar t ⟨b, k, none⟩).run P w = .ok (.agg vs.toArray) w := by
  unfold loadVar
  rw [bind_ok (g.pf w)]
  simp only [if_true]
  rw [bind_ok (s.pf w)]
  have := run_loadCellsFrom (P := P) (w := w) (b := b) (k := k) n 0 #[] vs hl (fun j hj => by rw [Nat.zero_add]; exact h j hj)
  rw [run_bind]
  unfold loadCells
  rw [this]
  simp [pure, Sem.run]
theorem cells_of_heap {w : World} {b k n : Nat} {cs vs : List Value} {T : TypeId} {fr : Nat × Nat} (h : w.heap[b]? = some (.cells cs.toArray T fr)) (hv : (cs.drop k).take n = vs) (hl : vs.length = n) :
    ∀ j, j < n → w.cell? ⟨b, k + j, none⟩ = vs[j]? := fun j hj => by
  subst hv
  simp [World.cell?, h, hj]

section
variable {P : Program} {ops : Array Oper} {e : Env} {o r : List PHeap} {d : Option Tmp} {ty : TypeId} {pos : String} {aft : Array Edge}
theorem Q.fieldAddr {s i off : Nat} [f : Fld P s i off] {x : Operand} {b k : Nat} (hx : ev e x = some (ptr b k)) :
    Quiet P ops ⟨d, .fieldAddr s x i, ty, pos, aft, none⟩ e o r (ptr b (k + off)) := .mk fun a w he _ => by
  simp only [execOp, ev_rel he hx]
  exact run_val (f.pf b k w)
theorem Q.nilCheck {x : Operand} {b k : Nat} (hx : ev e x = some (ptr b k)) : Quiet P ops ⟨d, .nilCheck x, ty, pos, aft, none⟩ e o r (ptr b k) :=
  .mk fun a w he _ => by simp only [execOp, ev_rel he hx]; rfl
theorem Q.ld {t : TypeId} [g : IsAgg P t false] {x : Operand} {b k : Nat} {cs : List Value} {T : TypeId} {v : Value} (hx : ev e x = some (ptr b k)) [hb : HasB b o r cs T] (hv : cs[k]? = some v) :
    Quiet P ops ⟨d, .load t x, ty, pos, aft, none⟩ e o r v := .mk fun a w he hr => by
  simp only [execOp, ev_rel he hx]
  exact run_val (run_loadVar (cell_of_heap (hb.heap hr) hv))
theorem Q.ldA {t : TypeId} [g : IsAgg P t true] {n : Nat} [s : TySize P t n] {x : Operand} {b k : Nat} {cs : List Value} {T : TypeId} (vs : List Value) (hx : ev e x = some (ptr b k))
    [hb : HasB b o r cs T] (hv : (cs.drop k).take n = vs) (hl : vs.length = n) :
    Quiet P ops ⟨d, .load t x, ty, pos, aft, none⟩ e o r (.agg vs.toArray) := .mk fun a w he hr => by
  simp only [execOp, ev_rel he hx]
  exact run_val (run_loadVarA hl (cells_of_heap (hb.heap hr) hv hl))
theorem ResL.cell {t : TypeId} [g : IsAgg P t true] {n : Nat} [s : TySize P t n] {x : Nat} {l : List ResultVar} {us : List Value} {b k : Nat} {cs : List Value} {T : TypeId} (vs : List Value)
    (hx : find e x = some (ptr b k)) [hb : HasB b o r cs T] (hv : (cs.drop k).take n = vs) (hl : vs.length = n) (h : ResL P o r e l us) : ResL P o r e (.cell x t :: l) (.agg vs.toArray :: us) :=
  ⟨_, _, _, rfl, hx, fun w hr => run_loadVarA hl (cells_of_heap (hb.heap hr) hv hl), h⟩
theorem ResL.cell1 {t : TypeId} [g : IsAgg P t false] {x : Nat} {l : List ResultVar} {us : List Value} {b k : Nat} {cs : List Value} {T : TypeId} {v : Value}
    (hx : find e x = some (ptr b k)) [hb : HasB b o r cs T] (hv : cs[k]? = some v) (h : ResL P o r e l us) : ResL P o r e (.cell x t :: l) (v :: us) :=
  ⟨_, _, _, rfl, hx, fun w hr => run_loadVar (cell_of_heap (hb.heap hr) hv), h⟩
theorem ResL.t {x : Nat} {l : List ResultVar} {us : List Value} {v : Value} (hx : find e x = some v) (h : ResL P o r e l us) : ResL P o r e (.tmp x :: l) (v :: us) := ⟨_, _, rfl, hx, h⟩
theorem ResL.n : ResL P o r e [] [] := rfl
/-- The parts of a literal. -/
inductive Fill (e : Env) (pl : Nat → Option (Nat × Nat)) : List (Nat × Operand) → List Value → List Value → Prop
  | n (cs : List Value) : Fill e pl [] cs cs
  | c {i : Nat} {x : Operand} {rest : List (Nat × Operand)} {cs cs2 : List Value} {v : Value} {us : List Value} (off m : Nat) (hx : ev e x = some v) [hc : Cells v us] (hp : pl i = some (off, m))
    (hm : us.length = m) {cs1 : List Value} [st : SetAt off us cs cs1] (h : Fill e pl rest cs1 cs2) : Fill e pl ((i, x) :: rest) cs cs2
theorem fold_set (us : List Value) : ∀ (cs : List Value) (off i : Nat), off + i + us.length ≤ cs.length →
    (us.zipIdx i).foldl (fun (a : Array Value) (p : Value × Nat) => a.setIfInBounds (off + p.2) p.1) cs.toArray = (cs.take (off + i) ++ us ++ cs.drop (off + i + us.length)).toArray := by
  induction us with
  | nil => intro cs off i h; simp
  | cons u us ih =>
    intro cs off i h
    simp only [List.zipIdx_cons, List.foldl_cons, List.setIfInBounds_toArray]
    rw [ih _ off (i + 1) (by simp at h ⊢; omega)]
    simp only [List.length_cons] at h
    congr 1
    apply List.ext_getElem?
    intro j
    simp only [List.getElem?_append, List.length_append, List.length_take, List.length_set, List.length_cons, List.getElem?_take, List.getElem?_drop, List.getElem?_set]
    have e1 : min (off + (i + 1)) cs.length = off + i + 1 := by omega
    have e2 : min (off + i) cs.length = off + i := by omega
    rw [e1, e2]
    by_cases h1 : j < off + i
    · have h2 : j < off + i + 1 := by omega
      simp only [show j < off + i + 1 + us.length by omega, if_true, h2, show j < off + (i + 1) by omega, show ¬ off + i = j by omega, if_false, show j < off + i + (us.length + 1) by omega, h1]
    · by_cases h2 : j = off + i
      · subst h2
        simp only [show off + i < off + i + 1 + us.length by omega, if_true, show off + i < off + i + 1 by omega, show off + i < off + (i + 1) by omega,
          show off + i < cs.length by omega, show off + i < off + i + (us.length + 1) by omega, Nat.lt_irrefl, if_false, Nat.sub_self, List.getElem?_cons_zero]
      · by_cases h3 : j < off + i + 1 + us.length
        · obtain ⟨m, hm⟩ : ∃ m, j = off + i + 1 + m := ⟨j - (off + i + 1), by omega⟩
          subst hm
          simp only [h3, if_true, show ¬ off + i + 1 + m < off + i + 1 by omega, if_false, show off + i + 1 + m - (off + i + 1) = m by omega,
            show off + i + 1 + m < off + i + (us.length + 1) by omega, show ¬ off + i + 1 + m < off + i by omega, show off + i + 1 + m - (off + i) = m + 1 by omega, List.getElem?_cons_succ]
        · obtain ⟨m, hm⟩ : ∃ m, j = off + i + 1 + us.length + m := ⟨j - (off + i + 1 + us.length), by omega⟩
          subst hm
          simp only [h3, if_false, show ¬ off + i + 1 + us.length + m < off + i + (us.length + 1) by omega,
            show ¬ off + i = off + (i + 1) + us.length + (off + i + 1 + us.length + m - (off + i + 1 + us.length)) by omega]
          congr 1
          omega
theorem Fill.run {pl : Nat → Option (Nat × Nat)} {a : Array Value} (he : ERel e a) : ∀ {l : List (Nat × Operand)} {cs cs2 : List Value}, Fill e pl l cs cs2 →
    Instr.fill pl cs.toArray (l.map fun (i, x) => (i, evA a x)) = some cs2.toArray := by
  intro l cs cs2 h
  induction h with
  | n cs => rfl
  | @c i x rest cs cs2 v us off m hx hc hp hm cs1 st h ih =>
    have hlt : off + m ≤ cs.length := by have := st.pf.2; omega
    have hcs1 := st.pf.1
    rw [hm] at hcs1
    subst hcs1
    simp only [List.map_cons, Instr.fill, hp, ev_rel he hx, hc.pf, List.size_toArray, hm]
    have := fold_set us cs off 0 (by omega)
    simp only [Nat.add_zero, hm] at this
    simp only [ne_eq, not_true_eq_false, gt_iff_lt, Bool.or_eq_true, decide_eq_true_eq, false_or]
    rw [if_neg (by simp; omega)]
    rw [show us.toArray.zipIdx = (us.zipIdx 0).toArray by simp]
    rw [← ih, ← this]
    congr 1
    simp
theorem Q.build {t : TypeId} {zs : List Value} [z : Zero P t zs] {pl : Nat → Option (Nat × Nat)} [p : Places P t pl] {l : List (Nat × Operand)} (cs : List Value) (h : Fill e pl l zs cs) :
    Quiet P ops ⟨d, .build t l.toArray, ty, pos, aft, none⟩ e o r (.agg cs.toArray) := .mk fun a w he _ => by
  simp only [execOp]
  obtain ⟨zv, h1, h2⟩ := z.pf
  have := h.run he
  refine run_val ?_
  simp only [List.map_toArray]
  exact p.pf _ zv _ w h1 (by rw [h2]; exact this)
end
end Go.X

/- New variables, stores into variables, calls. No condition. -/
set_option linter.unusedSimpArgs false
set_option linter.unusedVariables false
namespace Go.X

/-- Where one heap is replaced by another of the same blocks. -/
theorem Sep.swap {h h' : PHeap} {o r : List PHeap} {w w' : World} (s : Sep (h :: o) r w) (hd : ∀ b, h b = none → h' b = none) (hs : sub h' w')
    (hk : ∀ b, h b = none → w'.heap[b]? = w.heap[b]?) (hn : h'.m = none) (hmt : mt w' = mt w) : Sep (h' :: o) r w' := by
  have key : ∀ g, Disj h g → sub g w → sub g w' := fun g dg sg b ob hb => by
    rw [hk b, sg b ob hb]
    rcases dg b with h1 | h1
    · exact h1
    · rw [h1] at hb; cases hb
  have kd : ∀ g, Disj h g → Disj h' g := fun g dg b => by
    rcases dg b with h1 | h1
    · exact .inl (hd b h1)
    · exact .inr h1
  have hp := List.pairwise_cons.1 s.pw
  refine ⟨List.pairwise_cons.2 ⟨fun g hg => kd g (hp.1 g hg), hp.2⟩, ?_, ?_, ?_, ?_, fun g hg m hm => hmt.trans (s.sm g hg m hm)⟩
  · intro x hx g hg
    rcases List.mem_cons.1 hx with rfl | hx
    · exact kd g (s.dr h List.mem_cons_self g hg)
    · exact s.dr x (List.mem_cons_of_mem _ hx) g hg
  · intro x hx
    rcases List.mem_cons.1 hx with rfl | hx
    · exact hs
    · exact key x (hp.1 x hx) (s.so x (List.mem_cons_of_mem _ hx))
  · exact fun g hg => key g (s.dr h List.mem_cons_self g hg) (s.sr g hg)
  · intro x hx
    rcases List.mem_cons.1 hx with rfl | hx
    · exact hn
    · exact s.no x (List.mem_cons_of_mem _ hx)

/-- One block of the list is turned. -/
class Upd (b k : Nat) (vs : List Value) (o : List PHeap) (o' : outParam (List PHeap)) : Prop where
  pf : ∃ cs T o1, o.Perm (blk b cs T :: o1) ∧ (blk b (cs.take k ++ vs ++ cs.drop (k + vs.length)) T :: o1).Perm o' ∧ k + vs.length ≤ cs.length
instance (priority := high) Upd.head {b k : Nat} {vs cs cs' : List Value} {T : TypeId} {o : List PHeap} [s : SetAt k vs cs cs'] : Upd b k vs (blk b cs T :: o) (blk b cs' T :: o) :=
  ⟨cs, T, o, List.Perm.refl _, by rw [s.pf.1], s.pf.2⟩
instance Upd.tail {b k : Nat} {vs : List Value} {g : PHeap} {o o' : List PHeap} [t : Upd b k vs o o'] : Upd b k vs (g :: o) (g :: o') :=
  ⟨let ⟨cs, T, o1, h1, h2, h3⟩ := t.pf
   ⟨cs, T, g :: o1, (h1.cons g).trans (List.Perm.swap _ _ _), (List.Perm.swap _ _ _).trans (h2.cons g), h3⟩⟩

theorem run_store {P : Program} {w : World} {a : Addr} {v : Value} {x : Value} (ho : one v = true) (hc : w.cell? a = some x) (hf : w.frozen? a = false) :
    (store a v).run P w = .ok () (w.setCell a v) := by
  cases v <;> simp [one] at ho <;> simp [store, Sem.run, hc, hf]
theorem run_storeCells {P : Program} {b k : Nat} {T : TypeId} : ∀ (vs : List Value) (i : Nat) (w : World) (cs : List Value), (∀ v ∈ vs, one v = true) →
    w.heap[b]? = some (.cells cs.toArray T (0, 0)) → k + i + vs.length ≤ cs.length →
    ∃ w', (storeCells ⟨b, k, none⟩ vs i).run P w = .ok () w' ∧ w'.heap[b]? = some (.cells (cs.take (k + i) ++ vs ++ cs.drop (k + i + vs.length)).toArray T (0, 0)) ∧
      (∀ x, x ≠ b → w'.heap[x]? = w.heap[x]?) ∧ mt w' = mt w
  | [], i, w, cs, _, hh, hl => ⟨w, rfl, by simpa using hh, fun _ _ => rfl, rfl⟩
  | v :: vs, i, w, cs, ho, hh, hl => by
    simp only [List.length_cons] at hl
    have hlt : k + i < cs.length := by omega
    have hb : b < w.heap.size := (Array.getElem?_eq_some_iff.1 hh).1
    have hcell : w.cell? ⟨b, k + i, none⟩ = some (cs[k + i]'hlt) := by simp [World.cell?, hh, hlt]
    have hfr : w.frozen? ⟨b, k + i, none⟩ = false := by simp [World.frozen?, hh]
    have hh' : (w.setCell ⟨b, k + i, none⟩ v).heap[b]? = some (.cells (cs.set (k + i) v).toArray T (0, 0)) := by
      simp only [World.setCell, Array.getElem?_modify, hh]
      simp
    have hk' : ∀ x, x ≠ b → (w.setCell ⟨b, k + i, none⟩ v).heap[x]? = w.heap[x]? := fun x hx => by
      simp only [World.setCell, Array.getElem?_modify]
      rw [if_neg (Ne.symm hx)]
    obtain ⟨w', h1, h2, h3, h4⟩ := run_storeCells (b := b) (k := k) (T := T) vs (i + 1) (w.setCell ⟨b, k + i, none⟩ v) (cs.set (k + i) v) (fun u hu => ho u (List.mem_cons_of_mem _ hu)) hh' (by rw [List.length_set]; omega)
    refine ⟨w', ?_, ?_, fun x hx => (h3 x hx).trans (hk' x hx), h4.trans rfl⟩
    · unfold storeCells
      rw [add_none, bind_ok (run_store (ho v List.mem_cons_self) hcell hfr)]
      exact h1
    · rw [h2]
      congr 3
      apply List.ext_getElem?
      intro j
      simp only [List.getElem?_append, List.length_append, List.length_take, List.length_set, List.length_cons, List.getElem?_take, List.getElem?_drop, List.getElem?_set]
      have e1 : min (k + (i + 1)) cs.length = k + i + 1 := by omega
      have e2 : min (k + i) cs.length = k + i := by omega
      rw [e1, e2]
      by_cases c1 : j < k + i
      · simp only [show j < k + i + 1 + vs.length by omega, if_true, show j < k + i + 1 by omega, show j < k + (i + 1) by omega, show ¬ k + i = j by omega, if_false,
          show j < k + i + (vs.length + 1) by omega, c1]
      · by_cases c2 : j = k + i
        · subst c2
          simp only [show k + i < k + i + 1 + vs.length by omega, if_true, show k + i < k + i + 1 by omega, show k + i < k + (i + 1) by omega, hlt,
            show k + i < k + i + (vs.length + 1) by omega, Nat.lt_irrefl, if_false, Nat.sub_self, List.getElem?_cons_zero]
        · by_cases c3 : j < k + i + 1 + vs.length
          · obtain ⟨m, hm⟩ : ∃ m, j = k + i + 1 + m := ⟨j - (k + i + 1), by omega⟩
            subst hm
            simp only [c3, if_true, show ¬ k + i + 1 + m < k + i + 1 by omega, if_false, show k + i + 1 + m - (k + i + 1) = m by omega,
              show k + i + 1 + m < k + i + (vs.length + 1) by omega, show ¬ k + i + 1 + m < k + i by omega, show k + i + 1 + m - (k + i) = m + 1 by omega, List.getElem?_cons_succ]
          · obtain ⟨m, hm⟩ : ∃ m, j = k + i + 1 + vs.length + m := ⟨j - (k + i + 1 + vs.length), by omega⟩
            subst hm
            simp only [c3, if_false, show ¬ k + i + 1 + vs.length + m < k + i + (vs.length + 1) by omega,
              show ¬ k + i = k + (i + 1) + vs.length + (k + i + 1 + vs.length + m - (k + i + 1 + vs.length)) by omega]
            congr 1
            omega

section
variable {P : Program} {ops : Array Oper} {e : Env} {o r : List PHeap} {d : Option Tmp} {ty : TypeId} {pos : String} {aft : Array Edge}
theorem blk_none {b x : Nat} {cs : List Value} {T : TypeId} (h : blk b cs T x = none) : x ≠ b := by
  rintro rfl
  simp [blk, sing] at h
theorem none_blk {b x : Nat} {cs : List Value} {T : TypeId} (h : x ≠ b) : blk b cs T x = none := by simp [blk, sing, h]
theorem Stp0.st {t : TypeId} {n : Nat} [s : TySize P t n] {x y : Operand} {b k : Nat} {v : Value} {vs : List Value} {o' : List PHeap} (hx : ev e x = some (ptr b k)) (hy : ev e y = some v)
    [hc : Cells v vs] [ho : Ones vs] (hl : vs.length = n) [u : Upd b k vs o o'] :
    Stp0 P ops ⟨d, .store t x y, ty, pos, aft, none⟩ e o r (fun v o2 => v = undef ∧ o2 = o') := fun a w he hs => by
  obtain ⟨cs, T, o1, p1, p2, hle⟩ := u.pf
  have hs1 := hs.perm p1
  have hh : w.heap[b]? = some (.cells cs.toArray T (0, 0)) := hs1.so _ List.mem_cons_self b _ (sing_self _ _)
  obtain ⟨w', h1, h2, h3, h4⟩ := run_storeCells (P := P) (b := b) (k := k) vs 0 w cs ho.pf hh (by omega)
  have hrun : (Instr.storeAt t (ptr b k) v).run P w = .ok () w' := by
    unfold Instr.storeAt
    have e1 : (Instr.sureAddr (ptr b k)).run P w = .ok ⟨b, k, none⟩ w := rfl
    rw [bind_ok e1]
    unfold storeVar
    rw [bind_ok (s.pf w), hc.pf, if_neg (by simp [hl])]
    exact h1
  unfold Does
  simp only [Region.wanted, if_true, execOp, ev_rel he hx, ev_rel he hy, run_unit hrun]
  refine ⟨o', ⟨trivial, rfl⟩, (Sep.swap hs1 ?_ ?_ ?_ rfl h4).perm p2⟩
  · exact fun x hx => none_blk (blk_none hx)
  · intro x ob hb
    obtain ⟨rfl, rfl⟩ := sing_some hb
    simpa using h2
  · exact fun x hx => h3 x (blk_none hx)
theorem Stp.st {t : TypeId} {n : Nat} [s : TySize P t n] {x y : Operand} {b k : Nat} {v : Value} {vs : List Value} {o' : List PHeap} (hx : ev e x = some (ptr b k)) (hy : ev e y = some v)
    [hc : Cells v vs] [ho : Ones vs] (hl : vs.length = n) [u : Upd b k vs o o'] :
    Stp P ops ⟨d, .store t x y, ty, pos, aft, none⟩ e o r (fun v o2 => v = undef ∧ o2 = o') := fun D a w he hs =>
  (Stp0.st (o' := D :: o') hx hy hl a w he hs).mono fun v w' ⟨o2, ⟨h1, h2⟩, hs'⟩ => ⟨o2, ⟨o', ⟨h1, rfl⟩, by rw [h2]⟩, hs'⟩
theorem Makes.alloc {t : TypeId} {zs : List Value} [z : Zero P t zs] : Makes P ops ⟨d, .alloc t, ty, pos, aft, none⟩ e (.cells zs.toArray t (0, 0)) (fun b => ptr b 0) := fun a w _ => by
  obtain ⟨zv, h1, h2⟩ := z.pf
  refine ⟨rfl, ?_⟩
  simp only [execOp]
  refine run_val ?_
  unfold Instr.alloc
  rw [bind_ok (h1 w)]
  simp only [newVar, newRow, newObj, h2]
  rfl
theorem Makes.box {t : TypeId} {x : Operand} {v : Value} {cs : List Value} (hx : ev e x = some v) [hc : Cells v cs] :
    Makes P ops ⟨d, .box t x, ty, pos, aft, none⟩ e (.cells cs.toArray t (0, 0)) (fun b => ptr b 0) := fun a w he => by
  refine ⟨rfl, ?_⟩
  simp only [execOp, ev_rel he hx]
  refine run_val ?_
  simp only [Instr.box, newVar, newRow, newObj, hc.pf]
  rfl
/-- A call of a function that is known by its number. -/
theorem Stp0.call {g : FuncId} {x : Operand} {l : List Operand} {tys : Array TypeId} {fst vs cap A : List Value} {Hm Hr : List PHeap} {R : Value → List PHeap → Prop} {o1 : List PHeap}
    (hc : ∀ args w, (callFunc g args).run P w = .ok (.enter g args) w) (hx : ev e x = some (.func (.func g) fst.toArray cap.toArray)) (hl : evs e l = some vs) (hA : fst ++ vs ++ cap = A)
    (hS : Spec P g A.toArray Hm Hr R) [t : Takes Hm o o1] [al : AllIn Hr o1 r] :
    Stp0 P ops ⟨d, .call ⟨.value x, l.toArray, tys⟩, ty, pos, aft, none⟩ e o r (fun v o2 => ∃ hs, R v hs ∧ o2 = hs ++ o1) := fun a w he hs => by
  have hrun : (execOp (evA a) (⟨d, .call ⟨.value x, l.toArray, tys⟩, ty, pos, aft, none⟩ : Oper)).run P w = .ok (.enter g A.toArray) w := by
    simp only [execOp, resolve, ev_rel he hx, List.map_toArray, evs_rel he hl]
    have e1 : (Deferred.ofValue (.func (.func g) fst.toArray cap.toArray) vs.toArray).run P w = .ok { target := .fn (.func g) cap.toArray, args := fst.toArray ++ vs.toArray } w := rfl
    rw [bind_ok e1]
    simp only [invoke]
    rw [hc]
    simp [← hA]
  unfold Does
  simp only [Region.wanted, if_true, hrun]
  refine (hS o1 r w (hs.perm t.pf) al.pf).mono ?_
  rintro e' w' ⟨v, hs', rfl, hR, hS'⟩
  exact ⟨v, rfl, hs' ++ o1, ⟨hs', hR, rfl⟩, hS'⟩
theorem Takes.more {hs o o1 : List PHeap} (t : Takes hs o o1) (D : PHeap) : Takes hs (D :: o) (D :: o1) := ⟨(t.pf.cons D).trans List.perm_middle.symm⟩
theorem AllIn.more {hs o r : List PHeap} (t : AllIn hs o r) (D : PHeap) : AllIn hs (D :: o) r := ⟨fun h hh => orMap (t.pf h hh) (List.mem_cons_of_mem _) id⟩
theorem Stp.call {g : FuncId} {x : Operand} {l : List Operand} {tys : Array TypeId} {fst vs cap A : List Value} {Hm Hr : List PHeap} {R : Value → List PHeap → Prop} {o1 : List PHeap}
    (hc : ∀ args w, (callFunc g args).run P w = .ok (.enter g args) w) (hx : ev e x = some (.func (.func g) fst.toArray cap.toArray)) (hl : evs e l = some vs) (hA : fst ++ vs ++ cap = A)
    (hS : Spec P g A.toArray Hm Hr R) [t : Takes Hm o o1] [al : AllIn Hr o1 r] :
    Stp P ops ⟨d, .call ⟨.value x, l.toArray, tys⟩, ty, pos, aft, none⟩ e o r (fun v o2 => ∃ hs, R v hs ∧ o2 = hs ++ o1) := fun D a w he hs =>
  (Stp0.call (t := t.more D) (al := al.more D) hc hx hl hA hS a w he hs).mono fun v w' ⟨o2, ⟨hs2, h1, h2⟩, hs'⟩ => ⟨o2, ⟨hs2 ++ o1, ⟨hs2, h1, rfl⟩, by rw [h2]; exact List.perm_middle⟩, hs'⟩
end

section
variable {c : Cx} {ops : Array Oper} {rest : List Oper} {k : List Item} {e : Env} {o r : List PHeap} {d : Nat} {dd : Option Tmp} {ty : TypeId} {pos : String} {aft : Array Edge}
theorem XO.st {t : TypeId} {n : Nat} [s : TySize c.P t n] {x y : Operand} {b i : Nat} {v : Value} {vs : List Value} {o' : List PHeap} (hx : ev e x = some (ptr b i)) (hy : ev e y = some v)
    [hc : Cells v vs] [ho : Ones vs] (hl : vs.length = n) [u : Upd b i vs o o'] (h : XO c ops rest k e o' r) :
    XO c ops (⟨none, .store t x y, ty, pos, aft, none⟩ :: rest) k e o r := XO.s0 (Stp.st hx hy hl) fun _ _ ⟨_, h2⟩ => by subst h2; exact h
theorem XO.alloc {t : TypeId} {zs : List Value} [z : Zero c.P t zs] (h : ∀ b, XO c ops rest k ((d, some (ptr b 0)) :: e) (blk b zs t :: o) r) :
    XO c ops (⟨some d, .alloc t, ty, pos, aft, none⟩ :: rest) k e o r := XO.m Makes.alloc h
theorem XO.box {t : TypeId} {x : Operand} {v : Value} {cs : List Value} (hx : ev e x = some v) [hc : Cells v cs] (h : ∀ b, XO c ops rest k ((d, some (ptr b 0)) :: e) (blk b cs t :: o) r) :
    XO c ops (⟨some d, .box t x, ty, pos, aft, none⟩ :: rest) k e o r := XO.m (Makes.box hx) h
/-- A call. -/
theorem XO.call {g : FuncId} {x : Operand} {l : List Operand} {tys : Array TypeId} {fst vs cap A : List Value} {Hm Hr : List PHeap} {R : Value → List PHeap → Prop} {o1 : List PHeap}
    (hc : ∀ args w, (callFunc g args).run c.P w = .ok (.enter g args) w) (hx : ev e x = some (.func (.func g) fst.toArray cap.toArray)) (hl : evs e l = some vs) (hA : fst ++ vs ++ cap = A)
    (hS : Spec c.P g A.toArray Hm Hr R) [t : Takes Hm o o1] [al : AllIn Hr o1 (c.B :: r)] (h : ∀ v hs, R v hs → XO c ops rest k ((d, some v) :: e) (hs ++ o1) r) :
    XO c ops (⟨some d, .call ⟨.value x, l.toArray, tys⟩, ty, pos, aft, none⟩ :: rest) k e o r := XO.s (Stp.call hc hx hl hA hS) fun v o2 ⟨hs, hR, h2⟩ => by subst h2; exact h v hs hR
end
/-- A call of a function without results has no temporary. -/
theorem XO.call0 {c : Cx} {ops : Array Oper} {rest : List Oper} {k : List Item} {e : Env} {o r : List PHeap} {ty : TypeId} {pos : String} {aft : Array Edge}
    {g : FuncId} {x : Operand} {l : List Operand} {tys : Array TypeId} {fst vs cap A : List Value} {Hm Hr : List PHeap} {R : Value → List PHeap → Prop} {o1 : List PHeap}
    (hc : ∀ args w, (callFunc g args).run c.P w = .ok (.enter g args) w) (hx : ev e x = some (.func (.func g) fst.toArray cap.toArray)) (hl : evs e l = some vs) (hA : fst ++ vs ++ cap = A)
    (hS : Spec c.P g A.toArray Hm Hr R) [t : Takes Hm o o1] [al : AllIn Hr o1 (c.B :: r)] (h : ∀ v hs, R v hs → XO c ops rest k e (hs ++ o1) r) :
    XO c ops (⟨none, .call ⟨.value x, l.toArray, tys⟩, ty, pos, aft, none⟩ :: rest) k e o r := XO.s0 (Stp.call hc hx hl hA hS) fun v o2 ⟨hs, hR, h2⟩ => by subst h2; exact h v hs hR
end Go.X

/- Slices. No condition. -/
set_option linter.unusedSimpArgs false
set_option linter.unusedVariables false
namespace Go.X

/-! ### an integer that is a natural number -/
class IsNat (n : Int) (i : outParam Nat) : Prop where
  pf : n = i
instance (priority := high) IsNat.cast {i : Nat} : IsNat (i : Int) i := ⟨rfl⟩
instance IsNat.lit {n : Nat} : IsNat (@OfNat.ofNat Int n instOfNat) n := ⟨rfl⟩
instance IsNat.add {m n : Int} {i j : Nat} [a : IsNat m i] [b : IsNat n j] : IsNat (m + n) (i + j) := ⟨by rw [a.pf, b.pf]; rfl⟩
instance IsNat.mul {m n : Int} {i j : Nat} [a : IsNat m i] [b : IsNat n j] : IsNat (m * n) (i * j) := ⟨by rw [a.pf, b.pf]; exact (Int.natCast_mul i j).symm⟩
instance IsNat.div {m n : Int} {i j : Nat} [a : IsNat m i] [b : IsNat n j] : IsNat (m / n) (i / j) := ⟨by rw [a.pf, b.pf]; rfl⟩
instance IsNat.mod {m n : Int} {i j : Nat} [a : IsNat m i] [b : IsNat n j] : IsNat (m % n) (i % j) := ⟨by rw [a.pf, b.pf]; rfl⟩
class Idx (n : Int) (i : outParam Nat) : Prop where
  pf : 0 ≤ n → n = i
instance (priority := high) Idx.nat {n : Int} {i : Nat} [a : IsNat n i] : Idx n i := ⟨fun _ => a.pf⟩
instance (priority := low) Idx.toNat {n : Int} : Idx n n.toNat := ⟨fun h => (Int.toNat_of_nonneg h).symm⟩

/-! ### slices that are read, slices that are owned -/
class Arr (v : Value) {α : outParam Type} (enc : outParam (α → List Value)) (sz : outParam Nat) (h : outParam PHeap) (xs : outParam (List α)) : Prop where
  pf : (∀ x, (enc x).length = sz) ∧ (xs.length ≤ 140737488355328 ∧ ∀ x ∈ xs, ∀ c ∈ enc x, one c = true) ∧ ∃ a c, v = .slice a xs.length c ∧ xs.length ≤ c ∧ (a = none → c = 0) ∧
    (0 < xs.length → ∃ b k cs T fr, a = some ⟨b, k, none⟩ ∧ h b = some (.cells cs T fr) ∧ ∀ i j, i < xs.length → j < sz → cs[k + i * sz + j]? = (xs[i]?.bind fun x => (enc x)[j]?))
class OArr (v : Value) {α : outParam Type} (enc : outParam (α → List Value)) (sz : outParam Nat) (T : outParam TypeId) (h : outParam PHeap) (xs : outParam (List α)) : Prop where
  pf : (∀ x, (enc x).length = sz) ∧ (xs.length ≤ 140737488355328 ∧ ∀ x ∈ xs, ∀ c ∈ enc x, one c = true) ∧ ((v = .slice none 0 0 ∧ xs = [] ∧ h = emp) ∨
    ∃ b c cs, v = .slice (some ⟨b, 0, none⟩) xs.length c ∧ h = blk b cs T ∧ xs.length ≤ c ∧ cs.length = c * sz ∧ cs.take (xs.length * sz) = xs.flatMap enc)
theorem flat_get {α : Type} {enc : α → List Value} {sz : Nat} (he : ∀ x, (enc x).length = sz) : ∀ (xs : List α) (i j : Nat), j < sz →
    (xs.flatMap enc)[i * sz + j]? = xs[i]?.bind fun x => (enc x)[j]?
  | [], i, j, hj => by simp
  | x :: xs, 0, j, hj => by
    simp only [List.flatMap_cons, Nat.zero_mul, Nat.zero_add, List.getElem?_cons_zero, Option.bind_some]
    rw [List.getElem?_append_left (by rw [he]; exact hj)]
  | x :: xs, i + 1, j, hj => by
    simp only [List.flatMap_cons, List.getElem?_cons_succ]
    rw [List.getElem?_append_right (by rw [he, Nat.add_mul]; omega), he, ← flat_get he xs i j hj]
    congr 1
    rw [Nat.add_mul]
    omega
theorem flat_len {α : Type} {enc : α → List Value} {sz : Nat} (he : ∀ x, (enc x).length = sz) : ∀ (xs : List α), (xs.flatMap enc).length = xs.length * sz
  | [] => by simp
  | x :: xs => by rw [List.flatMap_cons, List.length_append, he, flat_len he xs, List.length_cons, Nat.add_mul]; omega
instance OArr.arr {v : Value} {α : Type} {enc : α → List Value} {sz T : Nat} {h : PHeap} {xs : List α} [s : OArr v enc sz T h xs] : Arr v enc sz h xs := ⟨by
  obtain ⟨he, hm, ⟨rfl, rfl, rfl⟩ | ⟨b, c, cs, rfl, rfl, hle, hlen, ht⟩⟩ := s.pf
  · exact ⟨he, hm, none, 0, rfl, by simp, fun _ => rfl, fun h => by simp at h⟩
  · refine ⟨he, hm, _, c, rfl, hle, (fun h => by cases h), fun _ => ⟨b, 0, cs.toArray, T, (0, 0), rfl, sing_self _ _, fun i j hi hj => ?_⟩⟩
    rw [← flat_get he xs i j hj, ← ht]
    have h1 : i * sz + j < xs.length * sz := by
      have : (i + 1) * sz ≤ xs.length * sz := Nat.mul_le_mul_right _ hi
      rw [Nat.add_mul] at this
      omega
    simp [List.getElem?_take, h1]⟩
instance Arr.one {v : Value} {α : Type} {enc : α → List Value} {sz : Nat} {h : PHeap} {xs : List α} [s : Arr v enc sz h xs] : One v := ⟨by
  obtain ⟨_, _, a, c, rfl, _⟩ := s.pf
  exact ⟨rfl, rfl⟩⟩
theorem Arr.le {v : Value} {α : Type} {enc : α → List Value} {sz : Nat} {h : PHeap} {xs : List α} (s : Arr v enc sz h xs) : xs.length ≤ 140737488355328 := s.pf.2.1.1
theorem OArr.nil {α : Type} {enc : α → List Value} {sz T : Nat} (he : ∀ x, (enc x).length = sz) : OArr (.slice none 0 0) enc sz T emp ([] : List α) := ⟨he, by simp, .inl ⟨rfl, rfl, rfl⟩⟩
theorem Arr.nil {α : Type} {enc : α → List Value} {sz : Nat} {h : PHeap} (he : ∀ x, (enc x).length = sz) : Arr (.slice none 0 0) enc sz h ([] : List α) :=
  ⟨he, by simp, none, 0, rfl, by simp, fun _ => rfl, fun h => by simp at h⟩
/-- A larger heap reads the same. -/
def leH (h g : PHeap) : Prop := ∀ b o, h b = some o → g b = some o
theorem Arr.le_heap {v : Value} {α : Type} {enc : α → List Value} {sz : Nat} {h g : PHeap} {xs : List α} (s : Arr v enc sz h xs) (hl : leH h g) : Arr v enc sz g xs := ⟨by
  obtain ⟨he, hm, a, c, hv, hle, hn, hc⟩ := s.pf
  refine ⟨he, hm, a, c, hv, hle, hn, fun hp => ?_⟩
  obtain ⟨b, k, cs, T, fr, ha, hb, hcs⟩ := hc hp
  exact ⟨b, k, cs, T, fr, ha, hl b _ hb, hcs⟩⟩
theorem leH.refl (h : PHeap) : leH h h := fun _ _ h => h

/-! ### what a state may be weakened to -/
class Wk (o o' : List PHeap) : Prop where
  pf : ∃ m l, (List.replicate m emp ++ o).Perm (o' ++ l)
instance (priority := low) Wk.nil (o : List PHeap) : Wk o [] := ⟨0, o, List.Perm.refl _⟩
instance (priority := high) Wk.emp (o o' : List PHeap) [p : Wk o o'] : Wk o (emp :: o') := ⟨let ⟨m, l, h⟩ := p.pf; ⟨m + 1, l, by rw [List.replicate_succ]; exact h.cons X.emp⟩⟩
instance Wk.cons (h : PHeap) (o o1 o' : List PHeap) [t : Take h o o1] [p : Wk o1 o'] : Wk o (h :: o') :=
  ⟨let ⟨m, l, hp⟩ := p.pf
   ⟨m, l, ((t.pf.append_left _).trans List.perm_middle).trans (hp.cons h)⟩⟩
theorem Sep.emp {o r : List PHeap} {w : World} (s : Sep o r w) : ∀ m, Sep (List.replicate m emp ++ o) r w
  | 0 => s
  | m + 1 => by
    have s' := Sep.emp s m
    rw [List.replicate_succ]
    exact ⟨List.pairwise_cons.2 ⟨fun h _ => emp_disj h, s'.pw⟩, fun h hh => by
      rcases List.mem_cons.1 hh with rfl | hh
      · exact fun g _ => emp_disj g
      · exact s'.dr h hh, fun h hh => by
      rcases List.mem_cons.1 hh with rfl | hh
      · intro b o hb; cases hb
      · exact s'.so h hh, s'.sr, fun h hh => by
      rcases List.mem_cons.1 hh with rfl | hh
      · rfl
      · exact s'.no h hh, s'.sm⟩
theorem Wk.sep {o o' r : List PHeap} {w : World} (p : Wk o o') (s : Sep o r w) : Sep o' r w :=
  let ⟨m, _, hp⟩ := p.pf
  ((s.emp m).perm hp).left

theorem Wk.sepD {o o' r : List PHeap} {D : PHeap} {w : World} (p : Wk o o') (s : Sep (D :: o) r w) : Sep (D :: o') r w :=
  let ⟨m, l, hp⟩ := p.pf
  have h1 : (List.replicate m X.emp ++ D :: o).Perm ((D :: o') ++ l) := List.perm_middle.trans (hp.cons D)
  ((s.emp m).perm h1).left
/-! ### the place of an element -/
def pat (v : Value) (sz i off : Nat) : Value := match v with
  | .slice (some a) _ _ => .pointer (some (a.add (i * sz + off)))
  | _ => undef
theorem Arr.at' {v : Value} {α : Type} {enc : α → List Value} {sz : Nat} {h : PHeap} {xs : List α} (s : Arr v enc sz h xs) {i : Nat} (hi : i < xs.length) :
    ∃ b k cs T fr c, v = .slice (some ⟨b, k, none⟩) xs.length c ∧ h b = some (.cells cs T fr) ∧ (∀ off, pat v sz i off = ptr b (k + (i * sz + off))) ∧
      ∀ j, j < sz → cs[k + (i * sz + j)]? = (enc xs[i])[j]? := by
  obtain ⟨he, hm, a, c, rfl, hle, _, hc⟩ := s.pf
  obtain ⟨b, k, cs, T, fr, rfl, hb, hcs⟩ := hc (by omega)
  refine ⟨b, k, cs, T, fr, c, rfl, hb, fun off => by simp [pat, add_none], fun j hj => ?_⟩
  have := hcs i j hi hj
  rw [List.getElem?_eq_getElem hi] at this
  simpa [Nat.add_assoc] using this
theorem getD_of {α : Type} [Inhabited α] {xs : List α} {i : Nat} (hi : i < xs.length) : xs.getD i default = xs[i] := by simp [hi]

section
variable {P : Program} {ops : Array Oper} {e : Env} {o r : List PHeap} {d : Option Tmp} {ty : TypeId} {pos : String} {aft : Array Edge}
variable {α : Type} {enc : α → List Value} {sz : Nat} {h : PHeap} {xs : List α} {v : Value}
theorem Q.len {t : TypeId} {el : TypeId} [u : Und P t (.slice el)] {x : Operand} (hx : ev e x = some v) [s : Arr v enc sz h xs] :
    Quiet P ops ⟨d, .call ⟨.builtin .len, #[x], #[t]⟩, ty, pos, aft, none⟩ e o r (.int .i64 xs.length) := .mk fun a w he _ => by
  obtain ⟨_, _, ad, c, rfl, _⟩ := s.pf
  have hx' := ev_rel he hx
  simp only [execOp, resolve, List.map_toArray, List.map_cons, List.map_nil, hx']
  rw [bind_ok (a := _) (w1 := w) rfl]
  simp only [invoke, builtin]
  refine run_val ?_
  unfold Builtin.len_
  simp only [List.getElem?_toArray, List.getElem?_cons_zero]
  rw [bind_ok (u.pf w)]
  rfl
theorem Q.ix {t el : TypeId} [u : Und P t (.slice el)] [z : TySize P el sz] {x y : Operand} {k : IntKind} {n : Int} {i : Nat} (hx : ev e x = some v) (hy : ev e y = some (.int k n))
    [s : Arr v enc sz h xs] [ix : Idx n i] (h0 : 0 ≤ n) (h1 : n < xs.length) : Quiet P ops ⟨d, .indexAddr t x y, ty, pos, aft, none⟩ e o r (pat v sz i 0) := .mk fun a w he _ => by
  have hn := ix.pf h0
  subst hn
  obtain ⟨b, kk, cs, T, fr, c, hv, _, hp, _⟩ := s.at' (i := i) (by omega)
  rw [hp]
  subst hv
  simp only [execOp, ev_rel he hx, ev_rel he hy]
  refine run_val ?_
  unfold Instr.indexAt
  have e1 : (asIntOf (.int k (i : Int))).run P w = .ok (k, (i : Int)) w := rfl
  rw [bind_ok e1]
  simp only
  rw [bind_ok (u.pf w)]
  simp only
  rw [bind_ok (a := (some (⟨b, kk, none⟩ : Addr), xs.length, el)) (w1 := w) rfl]
  rw [bind_ok (u.pf w)]
  simp only
  rw [if_pos ⟨h0, h1⟩]
  rw [bind_ok (z.pf w)]
  simp [add_none, pure, Sem.run]
theorem Q.fieldP {s' f off n : Nat} [fl : Fld P s' f off] {x : Operand} {i k : Nat} (hx : ev e x = some (pat v sz i k)) [s : Arr v enc sz h xs] (hi : i < xs.length) :
    Quiet P ops ⟨d, .fieldAddr s' x f, ty, pos, aft, none⟩ e o r (pat v sz i (k + off)) := .mk fun a w he _ => by
  obtain ⟨b, kk, cs, T, fr, c, hv, _, hp, _⟩ := s.at' hi
  have hx' := ev_rel he hx
  rw [hp] at hx'
  rw [hp]
  simp only [execOp, hx']
  have := run_val (fl.pf b (kk + (i * sz + k)) w)
  simpa [Nat.add_assoc] using this
theorem Q.ldE [Inhabited α] {t : TypeId} [g : IsAgg P t false] {x : Operand} {i k : Nat} {u : Value} (hx : ev e x = some (pat v sz i k)) [s : Arr v enc sz h xs] [m : InM h o r] (hi : i < xs.length)
    (hu : (enc (xs.getD i default))[k]? = some u) : Quiet P ops ⟨d, .load t x, ty, pos, aft, none⟩ e o r u := .mk fun a w he hr => by
  obtain ⟨b, kk, cs, T, fr, c, hv, hb, hp, hc⟩ := s.at' hi
  have hx' := ev_rel he hx
  rw [hp] at hx'
  simp only [execOp, hx']
  rw [getD_of hi] at hu
  have hk : k < sz := by rw [← s.pf.1 xs[i]]; exact (List.getElem?_eq_some_iff.1 hu).1
  refine run_val (run_loadVar ?_)
  have hh : w.heap[b]? = some (.cells cs T fr) := by
    rcases m.pf with h1 | h1
    · exact hr.1 h h1 b _ hb
    · exact hr.2 h h1 b _ hb
  simp only [World.cell?, hh]
  rw [if_neg (by simp), hc k hk, hu]
theorem Q.ldEA [Inhabited α] {t : TypeId} [g : IsAgg P t true] {n : Nat} [z : TySize P t n] {x : Operand} {i k : Nat} (us : List Value) (hx : ev e x = some (pat v sz i k)) [s : Arr v enc sz h xs] [m : InM h o r]
    (hi : i < xs.length) (hu : ((enc (xs.getD i default)).drop k).take n = us) (hl : us.length = n) : Quiet P ops ⟨d, .load t x, ty, pos, aft, none⟩ e o r (.agg us.toArray) := .mk fun a w he hr => by
  obtain ⟨b, kk, cs, T, fr, c, hv, hb, hp, hc⟩ := s.at' hi
  have hx' := ev_rel he hx
  rw [hp] at hx'
  simp only [execOp, hx']
  rw [getD_of hi] at hu
  refine run_val (run_loadVarA hl ?_)
  have hh : w.heap[b]? = some (.cells cs T fr) := by
    rcases m.pf with h1 | h1
    · exact hr.1 h h1 b _ hb
    · exact hr.2 h h1 b _ hb
  intro j hj
  have hle : k + n ≤ sz := by
    rw [← s.pf.1 xs[i], ← hl, ← hu]
    simp only [List.length_take, List.length_drop]
    by_cases h1 : k ≤ (enc xs[i]).length
    · omega
    · exfalso
      have h2 : us.length = 0 := by rw [← hu]; simp; omega
      omega
  simp only [World.cell?, hh]
  rw [if_neg (by simp)]
  have := hc (k + j) (by omega)
  rw [← hu]
  simp only [List.getElem?_take, List.getElem?_drop, hj, if_true]
  rw [← this]
  congr 1
  omega
end
end Go.X

/- Slices that are written, made, cut, appended to. No condition. -/
set_option linter.unusedSimpArgs false
set_option linter.unusedVariables false
namespace Go.X

class TyBytes (P : Program) (t : TypeId) (n : outParam Nat) : Prop where
  pf : ∃ i, (∀ w, (typeInfo t).run P w = .ok i w) ∧ i.bytes = n
theorem growBy_le (need : Nat) : ∀ (n c : Nat), c ≤ need → Builtin.growBy need n c ≤ 2 ^ n * (need + 192)
  | 0, c, h => by simp [Builtin.growBy]; omega
  | n + 1, c, h => by
    unfold Builtin.growBy
    have h2 : (1 : Nat) ≤ 2 ^ n := Nat.one_le_two_pow
    have h3 : need + 192 ≤ 2 ^ n * (need + 192) := Nat.le_mul_of_pos_left _ (by omega)
    have h4 : 2 ^ (n + 1) * (need + 192) = 2 * (2 ^ n * (need + 192)) := by rw [Nat.pow_succ]; ac_rfl
    split
    · omega
    · by_cases hc : c + (c + 768) / 4 ≤ need
      · have := growBy_le need n _ hc; omega
      · have : ∀ m c', need < c' → Builtin.growBy need m c' = c' := by
          intro m c' hcc
          cases m with
          | zero => rfl
          | succ m => unfold Builtin.growBy; rw [if_pos (by omega)]
        rw [this n _ (by omega)]
        omega
theorem nextcap_le {need cap : Nat} (h : cap < need) : Builtin.nextslicecap need cap ≤ 16 * (need + 192) := by
  unfold Builtin.nextslicecap
  split
  · omega
  · split
    · omega
    · have := growBy_le need 4 cap (by omega)
      simpa using this
theorem run_loadCells {P : Program} {w : World} {b k n : Nat} {vs : List Value} (hl : vs.length = n) (h : ∀ j, j < n → w.cell? ⟨b, k + j, none⟩ = vs[j]?) :
    (loadCells ⟨b, k, none⟩ n).run P w = .ok vs.toArray w := by
  have := run_loadCellsFrom (P := P) (w := w) (b := b) (k := k) n 0 #[] vs hl (fun j hj => by rw [Nat.zero_add]; exact h j hj)
  unfold loadCells
  rw [this]
  simp
section
variable {P : Program} {ops : Array Oper} {e : Env} {o r : List PHeap} {d : Option Tmp} {ty : TypeId} {pos : String} {aft : Array Edge}
variable {α : Type} {enc : α → List Value} {sz : Nat} {h : PHeap} {xs : List α} {v : Value}
theorem mod_div {sz j : Nat} (hs : 0 < sz) : j / sz * sz + j % sz = j := by rw [Nat.mul_comm]; exact Nat.div_add_mod j sz
theorem Arr.cells {w : World} (s : Arr v enc sz h xs) (hw : sub h w) (n : Nat) (hn : n ≤ xs.length) :
    (Builtin.firstCells sz n v).run P w = .ok ((xs.take n).flatMap enc).toArray w := by
  obtain ⟨he, hm, a, c, rfl, hle, hnn, hc⟩ := s.pf
  by_cases hz : n = 0
  · subst hz
    simp only [List.take_zero, List.flatMap_nil]
    cases a with
    | none => rfl
    | some a => simp [Builtin.firstCells, loadCells, loadCellsFrom, pure, Sem.run]
  · obtain ⟨b, k, cs, T, fr, rfl, hb, hcs⟩ := hc (by omega)
    have hh := hw b _ hb
    simp only [Builtin.firstCells]
    refine run_loadCells (by rw [flat_len he, List.length_take, Nat.min_eq_left hn]) ?_
    intro j hj
    have hs : 0 < sz := by
      rcases Nat.eq_zero_or_pos sz with h0 | h0
      · subst h0; simp at hj
      · exact h0
    have h1 : j / sz < n := Nat.div_lt_of_lt_mul (by rw [Nat.mul_comm]; exact hj)
    have h2 : j % sz < sz := Nat.mod_lt _ hs
    have h3 := hcs (j / sz) (j % sz) (by omega) h2
    have h4 := flat_get he (xs.take n) (j / sz) (j % sz) h2
    rw [mod_div hs] at h4
    simp only [World.cell?, hh]
    rw [if_neg (by simp), h4, List.getElem?_take, if_pos h1, ← h3]
    congr 1
    have := mod_div (sz := sz) (j := j) hs
    omega
theorem flat_ones {xs : List α} (ho : ∀ x ∈ xs, ∀ c ∈ enc x, one c = true) : ∀ v ∈ xs.flatMap enc, one v = true := by
  intro v hv
  obtain ⟨x, hx, hv⟩ := List.mem_flatMap.1 hv
  exact ho x hx v hv
theorem run_append {t0 t1 el el1 : TypeId} [u : Und P t0 (.slice el)] [u1 : Und P t1 (.slice el1)] [z : TySize P el sz] {by' : Nat} [tb : TyBytes P el by'] {n m : Nat} {bs b2 : Option Addr} {cap c2 : Nat} {w : World}
    (hby : by' ≤ 128) (hn : n + m ≤ 68719476736) : (Builtin.append_ #[t0, t1] ty #[.slice bs n cap, .slice b2 m c2]).run P w =
      (if n + m ≤ cap then (do
          let new ← Builtin.firstCells sz m (.slice b2 m c2)
          if let some a := bs then storeCells (a.add (n * sz)) new.toList
          pure (.slice bs (n + m) cap) : Sem Value)
        else (do
          let newCap ← choose (.appendCap (n + m) cap el)
          askRoom (newCap * by')
          let old ← Builtin.firstCells sz n (.slice bs n cap)
          let new ← Builtin.firstCells sz m (.slice b2 m c2)
          let rest := Builtin.zeroCells (← zeroValue el).cells (newCap - (n + m))
          pure (.slice (some (← newRow el (old ++ new ++ rest))) (n + m) newCap) : Sem Value)).run P w := by
  obtain ⟨ti, ht1, ht2⟩ := tb.pf
  unfold Builtin.append_
  simp only [List.getElem?_toArray, List.getElem?_cons_zero, List.getElem?_cons_succ]
  rw [bind_ok (u.pf w)]
  simp only
  rw [bind_ok (z.pf w), bind_ok (u1.pf w)]
  simp only [pure_bind, Bool.false_eq_true, if_false, Bool.not_false, if_true]
  have hl : (Builtin.lenOf (.slice b2 m c2)).run P w = .ok m w := rfl
  rw [bind_ok hl]
  split
  · rfl
  · rename_i hgt
    rw [bind_ok (ht1 w)]
    rw [if_neg (by intro hc; have := hc.1; simp [IntKind.max, IntKind.signed, IntKind.bits] at this; omega)]
    rw [bind_ok (ht1 w)]
    have hcap : Builtin.nextslicecap (n + m) cap * ti.bytes ≤ 2 ^ 48 := by
      have := nextcap_le (need := n + m) (cap := cap) (by omega)
      rw [ht2]
      calc _ ≤ (16 * (n + m + 192)) * 128 := Nat.mul_le_mul this hby
        _ ≤ 2 ^ 48 := by omega
    rw [if_neg (by omega)]
    simp only [run_bind]
    cases hch : (choose (.appendCap (n + m) cap el)).run P w with
    | halt hh w1 => rfl
    | ok nc w1 =>
      simp only [ht1, ht2]
theorem run_room {n : Nat} {w : World} : (askRoom n).run P w = .ok () w := by
  unfold askRoom; split <;> rfl
theorem Stp0.append {t0 t1 el el1 : TypeId} [u : Und P t0 (.slice el)] [u1 : Und P t1 (.slice el1)] [z : TySize P el sz] {zs : List Value} [zz : Zero P el zs] {by' : Nat} [tb : TyBytes P el by']
    {x y : Operand} {v2 : Value} {h2 : PHeap} {ys : List α} {o1 : List PHeap} (hx : ev e x = some v) (hy : ev e y = some v2) [s : OArr v enc sz el h xs] [t : Take h o o1] [s2 : Arr v2 enc sz h2 ys] [m : InM h2 o1 r]
    (hzs : zs.length = sz) (hby : Nat.ble by' 128 = true) (hn : xs.length + ys.length ≤ 68719476736) :
    Stp0 P ops ⟨d, .call ⟨.builtin .append, #[x, y], #[t0, t1]⟩, ty, pos, aft, none⟩ e o r (fun v' o2 => ∃ h', OArr v' enc sz el h' (xs ++ ys) ∧ o2 = h' :: o1) := fun a w he hs => by
  have hs1 := hs.perm t.pf
  have hb := Nat.le_of_ble_eq_true hby
  have hx' := ev_rel he hx
  have hy' := ev_rel he hy
  obtain ⟨henc, hm1, hv⟩ := s.pf
  obtain ⟨_, hm2, b2, c2, hv2, hle2, _, _⟩ := s2.pf
  have hsub2 : sub h2 w := by
    rcases m.pf with h1 | h1
    · exact hs1.so h2 (List.mem_cons_of_mem _ h1)
    · exact hs1.sr h2 h1
  obtain ⟨zv, hz1, hz2⟩ := zz.pf
  have happ : ∀ w', sub h2 w' → (Builtin.firstCells sz ys.length v2).run P w' = .ok (ys.flatMap enc).toArray w' := fun w' hw' => by
    have := Arr.cells (P := P) s2 hw' ys.length (Nat.le_refl _)
    rwa [List.take_length] at this
  have hones : ∀ x ∈ xs ++ ys, ∀ c ∈ enc x, one c = true := fun x hx => by
    rcases List.mem_append.1 hx with h1 | h1
    · exact hm1.2 x h1
    · exact hm2.2 x h1
  have hlen : (xs ++ ys).length ≤ 140737488355328 := by rw [List.length_append]; omega
  -- what is left: a value, a world, the new heap
  suffices hmain : ∃ v' w' h', (Builtin.append_ #[t0, t1] ty #[v, v2]).run P w = .ok v' w' ∧ OArr v' enc sz el h' (xs ++ ys) ∧ Sep (h' :: o1) r w' by
    obtain ⟨v', w', h', hrun, hO, hS⟩ := hmain
    unfold Does
    simp only [Region.wanted, if_true, execOp, resolve, List.map_toArray, List.map_cons, List.map_nil, hx', hy']
    rw [bind_ok (a := _) (w1 := w) rfl]
    simp only [invoke, builtin]
    rw [run_val hrun]
    exact ⟨h' :: o1, ⟨h', hO, rfl⟩, hS⟩
  -- the new array
  have grow : ∀ (bs : Option Addr) (cap : Nat), v = .slice bs xs.length cap → ¬ xs.length + ys.length ≤ cap → (∀ w', sub h w' → (Builtin.firstCells sz xs.length v).run P w' = .ok (xs.flatMap enc).toArray w') →
      ∃ v' w' h', (Builtin.append_ #[t0, t1] ty #[v, v2]).run P w = .ok v' w' ∧ OArr v' enc sz el h' (xs ++ ys) ∧ Sep (h' :: o1) r w' := by
    intro bs cap hvv hgt hold
    rw [hvv, hv2, run_append (tb := tb) hb hn, if_neg hgt]
    let w1 : World := { w with drawn := w.drawn + 1 }
    obtain ⟨nc, hnc, hch⟩ : ∃ nc, xs.length + ys.length ≤ nc ∧ (choose (.appendCap (xs.length + ys.length) cap el)).run P w = .ok nc w1 :=
      ⟨_, Nat.le_add_right _ _, rfl⟩
    rw [bind_ok hch, bind_ok run_room]
    rw [← hvv, bind_ok (hold w1 (hs1.so h List.mem_cons_self)), ← hv2, bind_ok (happ w1 hsub2), bind_ok (hz1 w1)]
    simp only [hz2]
    refine ⟨_, _, sing w.heap.size (.cells ((xs.flatMap enc).toArray ++ (ys.flatMap enc).toArray ++ Builtin.zeroCells zs.toArray (nc - (xs.length + ys.length))) el (0, 0)), rfl, ?_, ?_⟩
    · refine ⟨henc, ⟨hlen, hones⟩, .inr ⟨w.heap.size, nc, xs.flatMap enc ++ ys.flatMap enc ++ (Builtin.zeroCells zs.toArray (nc - (xs.length + ys.length))).toList, ?_, ?_, ?_, ?_, ?_⟩⟩
      · rw [List.length_append]
      · unfold blk
        congr 2
        simp
      · rw [List.length_append]; exact hnc
      · simp only [List.length_append, flat_len henc]
        have : (Builtin.zeroCells zs.toArray (nc - (xs.length + ys.length))).toList.length = (nc - (xs.length + ys.length)) * sz := by
          simp [Builtin.zeroCells, hzs]
        rw [this, ← Nat.add_mul, ← Nat.add_mul]
        congr 1
        omega
      · rw [List.flatMap_append]
        have h3 : (xs ++ ys).length * sz = (xs.flatMap enc ++ ys.flatMap enc).length := by
          simp only [List.length_append, flat_len henc, Nat.add_mul]
        rw [h3, List.take_left]
    · have hS := Sep.push (w := w1) (⟨hs1.pw, hs1.dr, hs1.so, hs1.sr, hs1.no, hs1.sm⟩ : Sep (h :: o1) r w1) (.cells ((xs.flatMap enc).toArray ++ (ys.flatMap enc).toArray ++ Builtin.zeroCells zs.toArray (nc - (xs.length + ys.length))) el (0, 0))
      have hp : (sing w1.heap.size (.cells ((xs.flatMap enc).toArray ++ (ys.flatMap enc).toArray ++ Builtin.zeroCells zs.toArray (nc - (xs.length + ys.length))) el (0, 0)) :: h :: o1).Perm
          (h :: sing w1.heap.size (.cells ((xs.flatMap enc).toArray ++ (ys.flatMap enc).toArray ++ Builtin.zeroCells zs.toArray (nc - (xs.length + ys.length))) el (0, 0)) :: o1) := List.Perm.swap _ _ _
      exact (hS.perm hp).tail
  have hcells : ∀ w', sub h w' → (Builtin.firstCells sz xs.length v).run P w' = .ok (xs.flatMap enc).toArray w' := fun w' hw' => by
    have := Arr.cells (P := P) (OArr.arr (s := s)) hw' xs.length (Nat.le_refl _)
    rwa [List.take_length] at this
  rcases hv with ⟨hv, hxs, hh⟩ | ⟨b, c, cs, hv, hh, hle, hcl, htk⟩
  · by_cases hfit : xs.length + ys.length ≤ 0
    · have hy0 : ys = [] := List.length_eq_zero_iff.1 (by omega)
      refine ⟨v, w, h, ?_, ?_, hs1⟩
      · rw [hv, hv2]
        have := run_append (P := P) (ty := ty) (u := u) (u1 := u1) (z := z) (tb := tb) (n := 0) (m := ys.length) (bs := none) (b2 := b2) (cap := 0) (c2 := c2) (w := w) hb (by omega)
        rw [this, if_pos (by omega), ← hv2, bind_ok (happ w hsub2)]
        simp only [hy0, List.length_nil]
        rfl
      · subst hy0; rw [List.append_nil]; exact s
    · exact grow none 0 (by rw [hv, hxs]; rfl) hfit hcells
  · by_cases hfit : xs.length + ys.length ≤ c
    · -- there is room
      have hroom : xs.length * sz + (ys.flatMap enc).length ≤ cs.length := by
        rw [flat_len henc, hcl, ← Nat.add_mul]
        exact Nat.mul_le_mul_right _ hfit
      have hheap : w.heap[b]? = some (.cells cs.toArray el (0, 0)) := by
        refine hs1.so h List.mem_cons_self b _ ?_
        rw [hh]; exact sing_self _ _
      obtain ⟨w', h1, h2', h3, h4⟩ := run_storeCells (P := P) (b := b) (k := xs.length * sz) (T := el) (ys.flatMap enc) 0 w cs (flat_ones hm2.2) hheap (by simpa using hroom)
      simp only [Nat.add_zero] at h2'
      refine ⟨.slice (some ⟨b, 0, none⟩) (xs.length + ys.length) c, w', blk b (cs.take (xs.length * sz) ++ ys.flatMap enc ++ cs.drop (xs.length * sz + (ys.flatMap enc).length)) el, ?_, ?_, ?_⟩
      · rw [hv, hv2]
        rw [run_append (tb := tb) hb hn, if_pos hfit, ← hv2, bind_ok (happ w hsub2)]
        simp only [add_none, Nat.zero_add]
        rw [bind_ok h1]
        rfl
      · refine ⟨henc, ⟨hlen, hones⟩, .inr ⟨b, c, _, by rw [List.length_append], rfl, by rw [List.length_append]; exact hfit, ?_, ?_⟩⟩
        · simp only [List.length_append, List.length_take, List.length_drop]
          omega
        · rw [htk, List.flatMap_append]
          have h4 : (xs ++ ys).length * sz = (xs.flatMap enc ++ ys.flatMap enc).length := by
            simp only [List.length_append, flat_len henc, Nat.add_mul]
          rw [h4, List.take_left]
      · subst hh
        refine Sep.swap hs1 (fun x hx => none_blk (blk_none hx)) ?_ (fun x hx => h3 x (blk_none hx)) rfl h4
        intro x ob hb'
        obtain ⟨rfl, rfl⟩ := sing_some hb'
        exact h2'
    · exact grow (some ⟨b, 0, none⟩) c hv hfit hcells
theorem Take.more {h : PHeap} {o o1 : List PHeap} (t : Take h o o1) (D : PHeap) : Take h (D :: o) (D :: o1) := Take.tail h D o o1
theorem InM.more {h : PHeap} {o r : List PHeap} (t : InM h o r) (D : PHeap) : InM h (D :: o) r := ⟨orMap t.pf (List.mem_cons_of_mem _) (fun h => h)⟩
theorem Stp.append {t0 t1 el el1 : TypeId} [u : Und P t0 (.slice el)] [u1 : Und P t1 (.slice el1)] [z : TySize P el sz] {zs : List Value} [zz : Zero P el zs] {by' : Nat} [tb : TyBytes P el by']
    {x y : Operand} {v2 : Value} {h2 : PHeap} {ys : List α} {o1 : List PHeap} (hx : ev e x = some v) (hy : ev e y = some v2) [s : OArr v enc sz el h xs] [t : Take h o o1] [s2 : Arr v2 enc sz h2 ys] [m : InM h2 o1 r]
    (hzs : zs.length = sz) (hby : Nat.ble by' 128 = true) (hn : xs.length + ys.length ≤ 68719476736) :
    Stp P ops ⟨d, .call ⟨.builtin .append, #[x, y], #[t0, t1]⟩, ty, pos, aft, none⟩ e o r (fun v' o2 => ∃ h', OArr v' enc sz el h' (xs ++ ys) ∧ o2 = h' :: o1) := fun D a w he hs =>
  (Stp0.append (t := t.more D) (m := m.more D) hx hy hzs hby hn a w he hs).mono fun v w' ⟨o2, ⟨h', h1, h2⟩, hs'⟩ => ⟨o2, ⟨h' :: o1, ⟨h', h1, rfl⟩, by rw [h2]; exact List.Perm.swap _ _ _⟩, hs'⟩
end
end Go.X

/- Slices: made, written as a literal, cut, stored into; the rules for a region's list. No condition. -/
set_option linter.unusedSimpArgs false
set_option linter.unusedVariables false
namespace Go.X
section
variable {P : Program} {ops : Array Oper} {e : Env} {o r : List PHeap} {d : Option Tmp} {ty : TypeId} {pos : String} {aft : Array Edge}
variable {α : Type} {enc : α → List Value} {sz : Nat} {h : PHeap} {xs : List α} {v : Value}
theorem range_map_const {n : Nat} {zs : List Value} (hz : zs.length ≠ 0) : ((Array.range (n * zs.length)).map fun i => zs.toArray[i % zs.toArray.size]!) = ((List.replicate n zs).flatten).toArray := by
  apply Array.ext'
  simp only [Array.toList_map, Array.toList_range]
  apply List.ext_getElem?
  intro j
  simp only [List.getElem?_map, List.getElem?_range]
  have hfl : ((List.replicate n zs).flatten)[j]? = if j < n * zs.length then some zs[j % zs.length]! else none := by
    have he : ∀ x : Nat, ((fun (_ : Nat) => zs) x).length = zs.length := fun _ => rfl
    have hpos : 0 < zs.length := by omega
    have h1 : (List.replicate n zs).flatten = (List.range n).flatMap (fun _ => zs) := by
      rw [List.flatMap_def]
      congr 1
      apply List.ext_getElem?
      intro m
      by_cases hm : m < n <;> simp [hm]
    rw [h1]
    have h2 := flat_get (enc := fun (_ : Nat) => zs) (sz := zs.length) (fun _ => rfl) (List.range n) (j / zs.length) (j % zs.length) (Nat.mod_lt _ hpos)
    rw [mod_div hpos] at h2
    rw [h2]
    by_cases hj : j < n * zs.length
    · have h3 : j / zs.length < n := Nat.div_lt_of_lt_mul (by rw [Nat.mul_comm]; exact hj)
      have h4 : j % zs.length < zs.length := Nat.mod_lt _ hpos
      simp [h3, hj, h4]
    · have h3 : ¬ j / zs.length < n := by
        intro hc
        apply hj
        have := Nat.lt_mul_of_div_lt hc hpos
        first | exact this | (rw [Nat.mul_comm]; exact this)
      simp [h3, hj]
  rw [hfl]
  by_cases hj : j < n * zs.length
  · simp [hj]
  · simp [hj]
theorem run_makeSlice {t el : TypeId} [u : Und P t (.slice el)] [z : TySize P el sz] {zs : List Value} [zz : Zero P el zs] {by' : Nat} [tb : TyBytes P el by'] {n : Nat} (hzs : zs.length = sz) (hsz : sz ≠ 0)
    (hby : by' ≤ 128) (hn : n ≤ 68719476736) (w : World) {k k' : IntKind} :
    (Instr.makeSlice t (.int k n) (.int k' n)).run P w = .ok (.slice (some ⟨w.heap.size, 0, none⟩) n n) { w with heap := w.heap.push (.cells ((List.replicate n zs).flatten).toArray el (0, 0)) } := by
  obtain ⟨ti, ht1, ht2⟩ := tb.pf
  obtain ⟨zv, hz1, hz2⟩ := zz.pf
  unfold Instr.makeSlice
  rw [bind_ok (u.pf w)]
  simp only
  rw [bind_ok (a := (n : Int)) (w1 := w) rfl, bind_ok (a := (n : Int)) (w1 := w) rfl, bind_ok (ht1 w)]
  have hw : IntKind.i64.wrap (n : Int) = n := wrap64_of ⟨by omega, by omega⟩
  simp only [hw, ht2]
  have hle : (by' : Int) * n ≤ 2 ^ 48 := by
    have h1 : by' * n ≤ 128 * 68719476736 := Nat.mul_le_mul hby hn
    have h2 : ((by' * n : Nat) : Int) ≤ ((128 * 68719476736 : Nat) : Int) := Int.ofNat_le.2 h1
    rw [Int.natCast_mul] at h2
    omega
  have hc : ((decide ((n : Int) < 0) || decide ((by' : Int) * n > 2 ^ 48) || decide ((n : Int) < 0) || decide ((n : Int) > n)) = true) = False := by
    simp only [eq_iff_iff, iff_false, Bool.or_eq_true, decide_eq_true_eq, not_or]
    omega
  simp only [hc, if_false, Int.toNat_natCast]
  rw [bind_ok run_room, bind_ok (z.pf w)]
  by_cases h0 : n * sz = 0
  · have hn0 : n = 0 := by
      rcases Nat.mul_eq_zero.1 h0 with h | h
      · exact h
      · exact absurd h hsz
    subst hn0
    simp only [Nat.zero_mul, if_true, pure_bind]
    have hz0 : (Array.map (fun x => (#[] : Array Value)[x % (#[] : Array Value).size]!) (Array.range 0)) = #[] := by apply Array.ext'; simp
    rw [hz0]
    rfl
  · rw [if_neg h0]
    rw [bind_ok (hz1 w)]
    simp only [pure_bind, hz2]
    have hr := range_map_const (n := n) (zs := zs) (by omega)
    rw [hzs] at hr
    rw [hr]
    rfl
theorem flat_rep {x : α} {n : Nat} : (List.replicate n x).flatMap enc = (List.replicate n (enc x)).flatten := by
  induction n with
  | zero => rfl
  | succ n ih => simp [List.replicate_succ, ih]
theorem rep_len {zs : List Value} {n : Nat} : ((List.replicate n zs).flatten).length = n * zs.length := by
  induction n with
  | zero => simp
  | succ n ih => rw [List.replicate_succ, List.flatten_cons, List.length_append, ih, Nat.add_mul]; omega
/-- make([]T, n): 'x0' is the zero element. -/
theorem Stp.make {t el : TypeId} [u : Und P t (.slice el)] [z : TySize P el sz] {zs : List Value} [zz : Zero P el zs] {by' : Nat} [tb : TyBytes P el by'] {x y : Operand} {k k' : IntKind} {n n' : Int} {i : Nat}
    (enc : α → List Value) (x0 : α) (hx : ev e x = some (.int k n)) (hy : ev e y = some (.int k' n')) (hnn : n = n') [ix : Idx n i] (h0 : 0 ≤ n) (h1 : n ≤ 68719476736)
    (henc : ∀ x, (enc x).length = sz) (hz : enc x0 = zs) (hsz : Nat.blt 0 sz = true) (hby : Nat.ble by' 128 = true) (ho : Ones (enc x0)) :
    Stp P ops ⟨d, .makeSlice t x y, ty, pos, aft, none⟩ e o r (fun v' o2 => ∃ h', OArr v' enc sz el h' (List.replicate i x0) ∧ o2 = h' :: o) := fun D a w he hs => by
  subst hnn
  have hn := ix.pf h0
  subst hn
  have hsz' : sz ≠ 0 := by rw [Nat.blt_eq] at hsz; omega
  have hrun := run_makeSlice (P := P) (t := t) (el := el) (sz := sz) (zs := zs) (by' := by') (n := i) (by rw [← hz, henc]) hsz' (Nat.le_of_ble_eq_true hby) (by omega) w (k := k) (k' := k')
  unfold Does
  simp only [Region.wanted, if_true, execOp, ev_rel he hx, ev_rel he hy, run_val hrun]
  refine ⟨_, ⟨_, ⟨sing w.heap.size (.cells ((List.replicate i zs).flatten).toArray el (0, 0)), ?_, rfl⟩, List.Perm.swap _ _ _⟩, hs.push _⟩
  refine ⟨henc, ⟨by simp; omega, fun y hy c hc => ?_⟩, .inr ⟨w.heap.size, i, (List.replicate i zs).flatten, by simp, rfl, by simp, ?_, ?_⟩⟩
  · rw [List.eq_of_mem_replicate hy] at hc
    exact ho.pf c hc
  · rw [rep_len, ← hz, henc]
  · rw [flat_rep, hz, List.length_replicate]
    rw [List.take_of_length_le]
    rw [rep_len, ← hz, henc]
    exact Nat.le_refl _
/-- []T{..}: 'xs' are the elements. -/
theorem Makes.lit {t el : TypeId} [u : Und P t (.slice el)] [z : TySize P el sz] {zs : List Value} [zz : Zero P el zs] {n : Nat} {l : List (Nat × Operand)} (cs : List Value) (hzs : zs.length = sz) (hsz : Nat.blt 0 sz = true) (hn : Nat.ble (n * sz) 16777216 = true)
    (hf : Fill e (fun i => some (i * sz, sz)) l ((List.replicate n zs).flatten) cs) :
    Makes P ops ⟨d, .buildSlice t n l.toArray, ty, pos, aft, none⟩ e (.cells cs.toArray el (0, 0)) (fun b => .slice (some ⟨b, 0, none⟩) n n) := fun a w he => by
  obtain ⟨zv, hz1, hz2⟩ := zz.pf
  have hsz' : sz ≠ 0 := by rw [Nat.blt_eq] at hsz; omega
  refine ⟨rfl, ?_⟩
  simp only [execOp]
  refine run_val ?_
  unfold Instr.buildSlice
  rw [bind_ok (u.pf w)]
  simp only
  rw [bind_ok (z.pf w), if_neg (by have := Nat.le_of_ble_eq_true hn; omega)]
  have hfill := hf.run he
  by_cases h0 : n * sz = 0
  · have hn0 : n = 0 := by
      rcases Nat.mul_eq_zero.1 h0 with h | h
      · exact h
      · exact absurd h hsz'
    subst hn0
    simp only [Nat.zero_mul, if_true, pure_bind]
    simp only [List.replicate_zero, List.flatten_nil] at hfill
    have hz0 : (Array.map (fun x => (#[] : Array Value)[x % (#[] : Array Value).size]!) (Array.range 0)) = #[] := by apply Array.ext'; simp
    rw [hz0]
    simp only [List.map_toArray]
    rw [hfill]
    rfl
  · rw [if_neg h0]
    rw [bind_ok (hz1 w)]
    simp only [pure_bind, hz2]
    have hr := range_map_const (n := n) (zs := zs) (by omega)
    rw [hzs] at hr
    rw [hr]
    simp only [List.map_toArray]
    rw [hfill]
    rfl
theorem OArr.lit {T b n : Nat} {cs : List Value} (xs : List α) (enc : α → List Value) (henc : ∀ x, (enc x).length = sz) (hcs : xs.flatMap enc = cs) (hn : xs.length = n) (ho : Ones cs) (hle : Nat.ble n 16777216 = true) :
    OArr (.slice (some ⟨b, 0, none⟩) n n) enc sz T (blk b cs T) xs := by
  subst hn
  have := Nat.le_of_ble_eq_true hle
  refine ⟨henc, ⟨by omega, fun x hx c hc => ?_⟩, .inr ⟨b, xs.length, cs, rfl, rfl, Nat.le_refl _, by rw [← hcs, flat_len henc], ?_⟩⟩
  · exact ho.pf c (by rw [← hcs]; exact List.mem_flatMap.2 ⟨x, hx, hc⟩)
  · rw [← hcs, List.take_of_length_le]
    rw [flat_len henc]
    exact Nat.le_refl _
/-- The bounds of s[i:j]. -/
inductive Bd (e : Env) (dflt : Nat) : Option Operand → Nat → Prop
  | n : Bd e dflt none dflt
  | s {x : Operand} {k : IntKind} {n : Int} {i : Nat} (hx : ev e x = some (.int k n)) (hn : n = (i : Int)) : Bd e dflt (some x) i
theorem Bd.run {dflt : Nat} {a : Array Value} (he : ERel e a) {b : Option Operand} {i : Nat} (h : Bd e dflt b i) (y : Nat) (code : BoundsCode) (hi : i ≤ y) (w : World) :
    (b.map (evA a) = none ∧ i = dflt) ∨ ∃ v, b.map (evA a) = some v ∧ (Instr.sliceBound v y code).run P w = .ok i w := by
  cases h with
  | n => exact .inl ⟨rfl, rfl⟩
  | @s x k n i hx hn =>
    right
    refine ⟨.int k n, by simp [ev_rel he hx], ?_⟩
    subst hn
    have h0 : (0 : Int) ≤ i := by omega
    unfold Instr.sliceBound
    rw [bind_ok (a := (k, (i : Int))) (w1 := w) rfl]
    simp only
    rw [if_pos ⟨h0, by omega⟩]
    rfl
/-- s[i:j] -/
theorem Stp.cut {t el : TypeId} [u : Und P t (.slice el)] [z : TySize P el sz] {x : Operand} {lo hi : Option Operand} {i j : Nat} (hx : ev e x = some v) [s : Arr v enc sz h xs]
    (hlo : Bd e 0 lo i) (hhi : Bd e xs.length hi j) (hij : i ≤ j) (hj : j ≤ xs.length) :
    Stp P ops ⟨d, .slice t x lo hi none, ty, pos, aft, none⟩ e o r (fun v' o2 => Arr v' enc sz h ((xs.drop i).take (j - i)) ∧ o2 = o) := fun D a w he hs => by
  obtain ⟨henc, hm, ad, c, rfl, hle, hnn, hc⟩ := s.pf
  have hrun : (Instr.sliceAt t (.slice ad xs.length c) (lo.map (evA a)) (hi.map (evA a)) none).run P w =
      .ok (.slice (if c = i then ad else ad.map (·.add (i * sz))) (j - i) (c - i)) w := by
    unfold Instr.sliceAt
    rw [bind_ok (u.pf w)]
    simp only
    unfold Instr.slice
    rw [bind_ok (u.pf w)]
    simp only
    have hb : (Instr.sliceBounds true xs.length c (lo.map (evA a)) (hi.map (evA a)) none).run P w = .ok (i, j, c) w := by
      unfold Instr.sliceBounds
      simp only [pure_bind]
      rcases Bd.run (P := P) he hhi c .sliceAcap (by omega) w with ⟨h1, h2⟩ | ⟨v1, h1, h2⟩
      · rw [h1, h2]
        simp only [pure_bind]
        rcases Bd.run (P := P) he hlo xs.length .sliceB (by omega) w with ⟨h3, h4⟩ | ⟨v3, h3, h4⟩
        · rw [h3, h4]; rfl
        · rw [h3]
          simp only [Option.isSome_none, Bool.false_eq_true, if_false]
          rw [bind_ok h4]; rfl
      · rw [h1]
        simp only [if_true]
        rw [bind_ok h2]
        rcases Bd.run (P := P) he hlo j .sliceB hij w with ⟨h3, h4⟩ | ⟨v3, h3, h4⟩
        · rw [h3, h4]; rfl
        · rw [h3]
          simp only [Option.isSome_none, Bool.false_eq_true, if_false]
          rw [bind_ok h4]; rfl
    rw [bind_ok hb]
    simp only
    rw [bind_ok (z.pf w)]
    rfl
  unfold Does
  simp only [Option.map_none] at hrun ⊢
  simp only [Region.wanted, if_true, execOp, ev_rel he hx, Option.map_none, run_val hrun]
  refine ⟨D :: o, ⟨o, ⟨?_, rfl⟩, List.Perm.refl _⟩, hs⟩
  have hl : ((xs.drop i).take (j - i)).length = j - i := by simp; omega
  refine ⟨henc, ⟨by omega, fun y hy cc hcc => hm.2 y (List.mem_of_mem_drop (List.mem_of_mem_take hy)) cc hcc⟩, _, c - i, by rw [hl], by omega, ?_, fun hp => ?_⟩
  · intro hnone
    split at hnone
    · rw [hnn hnone]; omega
    · cases ad with
      | none => rw [hnn rfl]; omega
      | some a => simp at hnone
  · obtain ⟨b, k, cs, T, fr, rfl, hb, hcs⟩ := hc (by omega)
    refine ⟨b, k + i * sz, cs, T, fr, ?_, hb, fun m n hm' hn => ?_⟩
    · rw [if_neg (by omega)]
      simp [add_none]
    · have := hcs (i + m) n (by omega) hn
      rw [Nat.add_mul, ← Nat.add_assoc] at this
      rw [this]
      congr 1
      rw [List.getElem?_take, if_pos (by omega), List.getElem?_drop]
/-- A store into an element. -/
theorem Stp0.stE [Inhabited α] {t n T : TypeId} [z : TySize P t n] {x y : Operand} {i k : Nat} {o1 : List PHeap} {u : Value} {us : List Value} (x' : α) (hx : ev e x = some (pat v sz i k)) (hy : ev e y = some u)
    [hc : Cells u us] [ho : Ones us] (hl : us.length = n) [s : OArr v enc sz T h xs] [tk : Take h o o1] (hi : i < xs.length)
    (hx' : enc x' = (enc (xs.getD i default)).take k ++ us ++ (enc (xs.getD i default)).drop (k + n)) (hk : Nat.ble (k + n) sz = true) :
    Stp0 P ops ⟨d, .store t x y, ty, pos, aft, none⟩ e o r (fun v' o2 => ∃ h', OArr v enc sz T h' (xs.set i x') ∧ o2 = h' :: o1) := fun a w he hs => by
  have hs1 := hs.perm tk.pf
  obtain ⟨henc, hm, hv⟩ := s.pf
  rcases hv with ⟨_, hxs, _⟩ | ⟨b, c, cs, hv, hh, hle, hcl, htk⟩
  · subst hxs; simp at hi
  have hk' := Nat.le_of_ble_eq_true hk
  rw [getD_of hi] at hx'
  have hpat : pat v sz i k = ptr b (i * sz + k) := by rw [hv]; simp [pat, add_none]
  have hxv := ev_rel he hx
  rw [hpat] at hxv
  have hheap : w.heap[b]? = some (.cells cs.toArray T (0, 0)) := by
    refine hs1.so h List.mem_cons_self b _ ?_
    rw [hh]; exact sing_self _ _
  have hfit : (i + 1) * sz ≤ c * sz := Nat.mul_le_mul_right _ (by omega)
  have hfit2 : (i + 1) * sz ≤ xs.length * sz := Nat.mul_le_mul_right _ hi
  rw [Nat.add_mul] at hfit hfit2
  obtain ⟨w', h1, h2, h3, h4⟩ := run_storeCells (P := P) (b := b) (k := i * sz + k) (T := T) us 0 w cs ho.pf hheap (by omega)
  have hrun : (Instr.storeAt t (ptr b (i * sz + k)) u).run P w = .ok () w' := by
    unfold Instr.storeAt
    rw [bind_ok (a := (⟨b, i * sz + k, none⟩ : Addr)) (w1 := w) rfl]
    unfold storeVar
    rw [bind_ok (z.pf w), hc.pf, if_neg (by simp [hl])]
    exact h1
  simp only [Nat.add_zero] at h2
  unfold Does
  simp only [Region.wanted, if_true, execOp, hxv, ev_rel he hy, run_unit hrun]
  have hset : ((cs.take (i * sz + k) ++ us ++ cs.drop (i * sz + k + us.length)).take (xs.length * sz)) = (xs.set i x').flatMap enc := by
    apply List.ext_getElem?
    intro m
    by_cases hmm : m < xs.length * sz
    · have hsz : 0 < sz := by
        rcases Nat.eq_zero_or_pos sz with h0 | h0
        · subst h0; simp at hmm
        · exact h0
      have hq : m / sz < xs.length := Nat.div_lt_of_lt_mul (by rw [Nat.mul_comm]; exact hmm)
      have hr' : m % sz < sz := Nat.mod_lt _ hsz
      have hold := flat_get henc xs (m / sz) (m % sz) hr'
      have hnew := flat_get henc (xs.set i x') (m / sz) (m % sz) hr'
      rw [mod_div hsz] at hold hnew
      rw [hnew, List.getElem?_take, if_pos hmm, List.getElem?_set]
      rw [← htk, List.getElem?_take, if_pos hmm] at hold
      have hdm := mod_div (sz := sz) (j := m) hsz
      by_cases hqi : i = m / sz
      · have hmi : i * sz + m % sz = m := by rw [hqi]; exact hdm
        rw [if_pos hqi, if_pos (by omega)]
        simp only [Option.bind_some]
        rw [hx']
        have hold' : ∀ j, j < sz → cs[i * sz + j]? = (enc xs[i])[j]? := fun j hj => by
          have := flat_get henc xs i j hj
          rw [← htk, List.getElem?_take, if_pos (by omega), List.getElem?_eq_getElem hi] at this
          simpa using this
        have hel : (enc xs[i]).length = sz := henc _
        simp only [List.getElem?_append, List.length_append, List.length_take, List.getElem?_take, List.getElem?_drop]
        have e1 : min (i * sz + k) cs.length = i * sz + k := by omega
        have e2 : min k (enc xs[i]).length = k := by omega
        rw [e1, e2]
        by_cases c1 : m % sz < k
        · have hmk : m < i * sz + k := by omega
          simp only [show m < i * sz + k + us.length by omega, if_true, hmk, show m % sz < k + us.length by omega, c1]
          rw [← hold' _ hr', hmi]
        · by_cases c2 : m % sz < k + us.length
          · simp only [show m < i * sz + k + us.length by omega, if_true, show ¬ m < i * sz + k by omega, if_false, c2, c1]
            congr 1
            omega
          · simp only [show ¬ m < i * sz + k + us.length by omega, if_false, c2]
            rw [← hold' (k + n + (m % sz - (k + us.length))) (by omega)]
            congr 1
            omega
      · rw [if_neg hqi, ← hold]
        have hfar : m < i * sz ∨ (i + 1) * sz ≤ m := by
          rcases Nat.lt_or_ge (m / sz) i with h5 | h5
          · left
            have : (m / sz + 1) * sz ≤ i * sz := Nat.mul_le_mul_right _ h5
            rw [Nat.add_mul] at this
            omega
          · right
            have : (i + 1) * sz ≤ (m / sz) * sz := Nat.mul_le_mul_right _ (by omega)
            omega
        rw [Nat.add_mul] at hfar
        simp only [List.getElem?_append, List.length_append, List.length_take, List.getElem?_take, List.getElem?_drop]
        have e1 : min (i * sz + k) cs.length = i * sz + k := by omega
        rw [e1]
        rcases hfar with h5 | h5
        · simp only [show m < i * sz + k + us.length by omega, if_true, show m < i * sz + k by omega]
        · simp only [show ¬ m < i * sz + k + us.length by omega, if_false]
          congr 1
          omega
    · have h6 : (((xs.set i x').flatMap enc)).length = xs.length * sz := by rw [flat_len henc, List.length_set]
      rw [List.getElem?_take, if_neg hmm, List.getElem?_eq_none (by omega)]
  refine ⟨_, ⟨blk b (cs.take (i * sz + k) ++ us ++ cs.drop (i * sz + k + us.length)) T, ?_, rfl⟩, ?_⟩
  · refine ⟨henc, ⟨by rw [List.length_set]; exact hm.1, fun y hy cc hcc => ?_⟩, .inr ⟨b, c, _, by rw [List.length_set]; exact hv, rfl, by rw [List.length_set]; exact hle, ?_, by rw [List.length_set]; exact hset⟩⟩
    · rcases List.mem_or_eq_of_mem_set hy with h7 | h7
      · exact hm.2 y h7 cc hcc
      · subst h7
        rw [hx'] at hcc
        rcases List.mem_append.1 hcc with h8 | h8
        · rcases List.mem_append.1 h8 with h9 | h9
          · exact hm.2 _ (List.getElem_mem hi) cc (List.mem_of_mem_take h9)
          · exact ho.pf cc h9
        · exact hm.2 _ (List.getElem_mem hi) cc (List.mem_of_mem_drop h8)
    · simp only [List.length_append, List.length_take, List.length_drop]
      omega
  · subst hh
    refine Sep.swap hs1 (fun x hx => none_blk (blk_none hx)) ?_ (fun x hx => h3 x (blk_none hx)) rfl h4
    intro x ob hb'
    obtain ⟨rfl, rfl⟩ := sing_some hb'
    exact h2
theorem Stp.stE [Inhabited α] {t n T : TypeId} [z : TySize P t n] {x y : Operand} {i k : Nat} {o1 : List PHeap} {u : Value} {us : List Value} (x' : α) (hx : ev e x = some (pat v sz i k)) (hy : ev e y = some u)
    [hc : Cells u us] [ho : Ones us] (hl : us.length = n) [s : OArr v enc sz T h xs] [tk : Take h o o1] (hi : i < xs.length)
    (hx' : enc x' = (enc (xs.getD i default)).take k ++ us ++ (enc (xs.getD i default)).drop (k + n)) (hk : Nat.ble (k + n) sz = true) :
    Stp P ops ⟨d, .store t x y, ty, pos, aft, none⟩ e o r (fun v' o2 => ∃ h', OArr v enc sz T h' (xs.set i x') ∧ o2 = h' :: o1) := fun D a w he hs =>
  (Stp0.stE (tk := tk.more D) x' hx hy hl hi hx' hk a w he hs).mono fun v w' ⟨o2, ⟨h', h1, h2⟩, hs'⟩ => ⟨o2, ⟨h' :: o1, ⟨h', h1, rfl⟩, by rw [h2]; exact List.Perm.swap _ _ _⟩, hs'⟩
end
end Go.X

/- The rules for a region's list of operations, loops and joins with what has changed named. No condition. -/
set_option linter.unusedSimpArgs false
set_option linter.unusedVariables false
namespace Go.X

/-! ### what a type's table says of its parts -/
inductive Szs (P : Program) : List Field → List (Nat × Nat) → Prop
  | n : Szs P [] []
  | c {f : Field} {fs : List Field} {ps : List (Nat × Nat)} {m : Nat} (h : ∀ w, (sizeOf f.type).run P w = .ok m w) (r : Szs P fs ps) : Szs P (f :: fs) ((f.offset, m) :: ps)
theorem Szs.run {P : Program} {fs : List Field} {ps : List (Nat × Nat)} (h : Szs P fs ps) (w : World) :
    (fs.mapM (fun f => do pure (f.offset, ← sizeOf f.type) : Field → Sem (Nat × Nat))).run P w = .ok ps w := by
  induction h with
  | n => rfl
  | c h r ih =>
    rw [List.mapM_cons, bind_ok (by rw [bind_ok (h w)]; rfl), bind_ok ih]
    rfl
theorem Places.struct {P : Program} {t : TypeId} {fs : List Field} {ps : List (Nat × Nat)} (u : Und P t (.struct fs.toArray)) (h : Szs P fs ps) : Places P t (fun i => ps[i]?) := ⟨by
  intro parts z cells w hz hf
  unfold Instr.build
  rw [bind_ok (hz w), bind_ok (u.pf w)]
  simp only
  have e1 : (fs.toArray.mapM (fun f => do pure (f.offset, ← sizeOf f.type) : Field → Sem (Nat × Nat))).run P w = .ok ps.toArray w := by
    rw [List.mapM_toArray, map_eq_pure_bind, bind_ok (h.run w)]
    rfl
  rw [bind_ok e1]
  simp only [List.getElem?_toArray, hf]
  rfl⟩
theorem Places.array {P : Program} {t el len size : Nat} (u : Und P t (.array len el)) (s : TySize P el size) : Places P t (fun i => some (i * size, size)) := ⟨by
  intro parts z cells w hz hf
  unfold Instr.build
  rw [bind_ok (hz w), bind_ok (u.pf w)]
  simp only
  rw [bind_ok (s.pf w)]
  simp only [hf]
  rfl⟩

/-! ### environments -/
def EnvLe (e' e : Env) : Prop := ∀ a, ERel e a → ERel e' a
def kills : List Nat → Env → Env
  | [], e => e
  | t :: ts, e => (t, none) :: kills ts e
def memN (t : Nat) : List Nat → Bool
  | [] => false
  | s :: ss => match Nat.beq t s with
    | true => true
    | false => memN t ss
def keysIn : Env → List Nat → Bool
  | [], _ => true
  | (t, _) :: e, ks => match memN t ks with
    | true => keysIn e ks
    | false => false
theorem find_kills {ks : List Nat} {e : Env} {t : Nat} {v : Value} (h : find (kills ks e) t = some v) : memN t ks = false ∧ find e t = some v := by
  induction ks with
  | nil => exact ⟨rfl, h⟩
  | cons s ss ih =>
    simp only [kills, find] at h
    split at h
    · cases h
    · rename_i hb
      obtain ⟨h1, h2⟩ := ih h
      exact ⟨by simp only [memN, hb]; exact h1, h2⟩
theorem find_skip {ks : List Nat} {e1 e0 : Env} {t : Nat} (hk : keysIn e1 ks = true) (ht : memN t ks = false) : find (e1 ++ e0) t = find e0 t := by
  induction e1 with
  | nil => rfl
  | cons p e1 ih =>
    obtain ⟨s, v⟩ := p
    simp only [keysIn] at hk
    split at hk
    · rename_i hs
      simp only [List.cons_append, find]
      split
      · rename_i hb
        have := Nat.eq_of_beq_eq_true hb
        subst this
        rw [hs] at ht; cases ht
      · exact ih hk
    · cases hk
theorem EnvLe.base {e e0 : Env} {ks : List Nat} (n : Nat) (hd : e.drop n = e0) (hk : keysIn (e.take n) ks = true) : EnvLe (kills ks e0) e := by
  intro a he t v hv
  obtain ⟨h1, h2⟩ := find_kills hv
  refine he t v ?_
  rw [← List.take_append_drop n e, hd, find_skip hk h1]
  exact h2
theorem EnvLe.c {e e' : Env} {t : Nat} {v : Value} (h : find e t = some v) (r : EnvLe e' e) : EnvLe ((t, some v) :: e') e := by
  intro a he s u hu
  simp only [find] at hu
  split at hu
  · rename_i hb
    have := Nat.eq_of_beq_eq_true hb
    subst this
    simp only [Option.some.injEq] at hu
    subst hu
    exact he _ _ h
  · exact r a he s u hu
theorem EnvLe.refl (e : Env) : EnvLe e e := fun _ h => h

section
variable {c : Cx} {k : List Item} {e : Env} {o r : List PHeap}
/-- A loop: 'ks' the temporaries that it writes, 'up' what the live ones of them hold at the head, 'oc' the heaps that it changes; x stands for all that changes. -/
theorem XK.rounds {X : Type} (ks : List Nat) (up : X → Env) (oc : X → List PHeap) (ok : List PHeap) (I : X → Prop) (μ : X → Nat) (x0 : X) {body : Code} (h0 : I x0)
    (henv : EnvLe (up x0 ++ kills ks e) e) (hmem : Wk o (oc x0 ++ ok))
    (round : ∀ x, I x → (∀ x' e' o', I x' → μ x' < μ x → EnvLe (up x' ++ kills ks e) e' → Wk o' (oc x' ++ ok) → XK c (.inLoop body :: k) e' o' r) →
      XK c (.code body :: .inLoop body :: k) (up x ++ kills ks e) (oc x ++ ok) r) :
    XK c (.code (.loop body) :: k) e o r :=
  XK.loop (fun x => up x ++ kills ks e) (fun x => oc x ++ ok) (fun _ => r) I μ x0 h0 henv (fun D w => hmem.sepD) fun x hI ih =>
    round x hI fun x' e' o' hI' hlt he hw => XK.weaken (ih x' hI' hlt) he (fun D w => hw.sepD)
/-- Ways that meet again: 'k' is proved once. -/
theorem XK.join {X : Type} (ks : List Nat) (up : X → Env) (oc : X → List PHeap) (ok : List PHeap) (I : X → Prop) {it : Item}
    (cont : ∀ x, I x → XK c k (up x ++ kills ks e) (oc x ++ ok) r)
    (first : (∀ x e' o', I x → EnvLe (up x ++ kills ks e) e' → Wk o' (oc x ++ ok) → XK c k e' o' r) → XK c (it :: k) e o r) : XK c (it :: k) e o r :=
  first fun x e' o' hI he hw => XK.weaken (cont x hI) he (fun D w => hw.sepD)
theorem XK.drop {o' : List PHeap} [p : Wk o o'] (h : XK c k e o' r) : XK c k e o r := XK.weaken h (fun _ h => h) (fun D w => p.sepD)
end
section
variable {c : Cx} {ops : Array Oper} {rest : List Oper} {k : List Item} {e : Env} {o r : List PHeap} {d : Nat} {dd : Option Tmp} {ty : TypeId} {pos : String} {aft : Array Edge}
variable {α : Type} {enc : α → List Value} {sz : Nat} {h : PHeap} {xs : List α} {v : Value}
theorem XO.weaken {e' : Env} {o' : List PHeap} (h : XO c ops rest k e' o' r) (he : EnvLe e' e) (hm : ∀ D w, Sep (D :: o) (c.B :: r) w → Sep (D :: o') (c.B :: r) w) : XO c ops rest k e o r :=
  fun j hj hok D ds a w cs ha h1 hD h2 => h j hj hok D ds a w cs ha (he a h1) hD (hm D w h2)
theorem XO.drop {o' : List PHeap} [p : Wk o o'] (h : XO c ops rest k e o' r) : XO c ops rest k e o r := XO.weaken h (EnvLe.refl e) (fun D w => p.sepD)
theorem XO.ix {t el : TypeId} [u : Und c.P t (.slice el)] [z : TySize c.P el sz] {x y : Operand} {kk : IntKind} {n : Int} {i : Nat} (hx : ev e x = some v) (hy : ev e y = some (.int kk n))
    [s : Arr v enc sz h xs] [ix : Idx n i] (h0 : 0 ≤ n) (h1 : n < xs.length) (hn : i < xs.length → XO c ops rest k ((d, some (pat v sz i 0)) :: e) o r) :
    XO c ops (⟨some d, .indexAddr t x y, ty, pos, aft, none⟩ :: rest) k e o r :=
  XO.q (Q.ix hx hy h0 h1) (hn (by have := ix.pf h0; omega))
theorem XO.append {t0 t1 el el1 : TypeId} [u : Und c.P t0 (.slice el)] [u1 : Und c.P t1 (.slice el1)] [z : TySize c.P el sz] {zs : List Value} [zz : Zero c.P el zs] {by' : Nat} [tb : TyBytes c.P el by']
    {x y : Operand} {v2 : Value} {h2 : PHeap} {ys : List α} {o1 : List PHeap} (hx : ev e x = some v) (hy : ev e y = some v2) [s : OArr v enc sz el h xs] [t : Take h o o1] [s2 : Arr v2 enc sz h2 ys] [m : InM h2 o1 (c.B :: r)]
    (hzs : zs.length = sz) (hby : Nat.ble by' 128 = true) (hn : xs.length + ys.length ≤ 68719476736) (hnx : ∀ v' h', OArr v' enc sz el h' (xs ++ ys) → XO c ops rest k ((d, some v') :: e) (h' :: o1) r) :
    XO c ops (⟨some d, .call ⟨.builtin .append, #[x, y], #[t0, t1]⟩, ty, pos, aft, none⟩ :: rest) k e o r :=
  XO.s (Stp.append hx hy hzs hby hn) fun v' _ ⟨h', hO, h2⟩ => by subst h2; exact hnx v' h' hO
theorem XO.make {t el : TypeId} [u : Und c.P t (.slice el)] [z : TySize c.P el sz] {zs : List Value} [zz : Zero c.P el zs] {by' : Nat} [tb : TyBytes c.P el by'] {x y : Operand} {kk k' : IntKind} {n n' : Int} {i : Nat}
    (enc : α → List Value) (x0 : α) (hx : ev e x = some (.int kk n)) (hy : ev e y = some (.int k' n')) (hnn : n = n') [ix : Idx n i] (h0 : 0 ≤ n) (h1 : n ≤ 68719476736)
    (henc : ∀ x, (enc x).length = sz) (hz : enc x0 = zs) (hsz : Nat.blt 0 sz = true) (hby : Nat.ble by' 128 = true) (ho : Ones (enc x0))
    (hnx : ∀ v' h', OArr v' enc sz el h' (List.replicate i x0) → XO c ops rest k ((d, some v') :: e) (h' :: o) r) :
    XO c ops (⟨some d, .makeSlice t x y, ty, pos, aft, none⟩ :: rest) k e o r :=
  XO.s (Stp.make enc x0 hx hy hnn h0 h1 henc hz hsz hby ho) fun v' _ ⟨h', hO, h2⟩ => by subst h2; exact hnx v' h' hO
theorem XO.lit {t el : TypeId} [u : Und c.P t (.slice el)] [z : TySize c.P el sz] {zs : List Value} [zz : Zero c.P el zs] {n : Nat} {l : List (Nat × Operand)} (zl cs : List Value) (xs : List α) (enc : α → List Value)
    (hzs : zs.length = sz) (hsz : Nat.blt 0 sz = true) (hn : Nat.ble (n * sz) 16777216 = true) (hzl : (List.replicate n zs).flatten = zl) (hf : Fill e (fun i => some (i * sz, sz)) l zl cs)
    (henc : ∀ x, (enc x).length = sz) (hcs : xs.flatMap enc = cs) (hxn : xs.length = n) (ho : Ones cs) (hle : Nat.ble n 16777216 = true)
    (hnx : ∀ v' h', OArr v' enc sz el h' xs → XO c ops rest k ((d, some v') :: e) (h' :: o) r) :
    XO c ops (⟨some d, .buildSlice t n l.toArray, ty, pos, aft, none⟩ :: rest) k e o r :=
  XO.m (Makes.lit cs hzs hsz hn (by rw [hzl]; exact hf)) fun b => hnx _ _ (OArr.lit xs enc henc hcs hxn ho hle)
theorem XO.cut {t el : TypeId} [u : Und c.P t (.slice el)] [z : TySize c.P el sz] {x : Operand} {lo hi : Option Operand} {i j : Nat} (hx : ev e x = some v) [s : Arr v enc sz h xs]
    (hlo : Bd e 0 lo i) (hhi : Bd e xs.length hi j) (hij : i ≤ j) (hj : j ≤ xs.length) (hnx : ∀ v', Arr v' enc sz h ((xs.drop i).take (j - i)) → XO c ops rest k ((d, some v') :: e) o r) :
    XO c ops (⟨some d, .slice t x lo hi none, ty, pos, aft, none⟩ :: rest) k e o r :=
  XO.s (Stp.cut hx hlo hhi hij hj) fun v' _ ⟨hA, h2⟩ => by subst h2; exact hnx v' hA
theorem XO.stE [Inhabited α] {t n T : TypeId} [z : TySize c.P t n] {x y : Operand} {i kk : Nat} {o1 : List PHeap} {u : Value} {us : List Value} (x' : α) (hx : ev e x = some (pat v sz i kk)) (hy : ev e y = some u)
    [hc : Cells u us] [ho : Ones us] (hl : us.length = n) [s : OArr v enc sz T h xs] [tk : Take h o o1] (hi : i < xs.length)
    (hx' : enc x' = (enc (xs.getD i default)).take kk ++ us ++ (enc (xs.getD i default)).drop (kk + n)) (hk : Nat.ble (kk + n) sz = true)
    (hnx : ∀ h', OArr v enc sz T h' (xs.set i x') → XO c ops rest k e (h' :: o1) r) :
    XO c ops (⟨none, .store t x y, ty, pos, aft, none⟩ :: rest) k e o r :=
  XO.s0 (Stp.stE x' hx hy hl hi hx' hk) fun v' _ ⟨h', hO, h2⟩ => by subst h2; exact hnx h' hO
end

/-! ### the usual elements -/
def encI (n : Int) : List Value := [.int .i64 n]
def encB (b : Bool) : List Value := [.bool b]
def encU8 (n : UInt8) : List Value := [.int .u8 n.toNat]
def encV (v : Value) : List Value := [v]
end Go.X

/- A region that draws its order: the operations that only read are taken first; what is left is taken in every order that its edges allow. No condition. -/
set_option linter.unusedSimpArgs false
set_option linter.unusedVariables false
namespace Go.X

theorem evA_put {a : Array Value} {d : Option Tmp} {v : Value} {x : Operand} (h : ∀ t, d = some t → x ≠ .tmp t) : evA (put a d v) x = evA a x := by
  cases d with
  | none => rfl
  | some t =>
    cases x with
    | tmp s =>
      have hne : t ≠ s := fun e => h t rfl (e ▸ rfl)
      simp [evA, put, Array.getElem?_setIfInBounds_ne hne]
    | _ => rfl
theorem put_comm (a : Array Value) {x y : Option Tmp} (v u : Value) (h : ∀ d, x = some d → y ≠ some d) : put (put a x v) y u = put (put a y u) x v := by
  cases x with
  | none => rfl
  | some d =>
    cases y with
    | none => rfl
    | some e =>
      have hne : d ≠ e := fun he => h d rfl (he ▸ rfl)
      simp [put, Array.setIfInBounds_comm _ _ hne]
section
variable {P : Program} {ops : Array Oper}
theorem execOp_putX (o : Oper) (hs : ∀ cs b, o.op ≠ .select cs b) (a : Array Value) (dst : Option Tmp) (v : Value) (h : ∀ d, dst = some d → d ∉ o.looksAt ops) :
    execOp (evA (put a dst v)) o = execOp (evA a) o :=
  execOp_congr o hs fun x hx => evA_put fun d hd hxd => h d hd (by
    subst hxd
    exact List.mem_append_left _ (List.mem_filterMap.2 ⟨.tmp d, by simpa using hx, rfl⟩))
theorem wanted_putX (o : Oper) (a : Array Value) (dst : Option Tmp) (v : Value) (h : ∀ d, dst = some d → d ∉ o.looksAt ops) :
    Region.wanted o (yielded ops (put a dst v)) = Region.wanted o (yielded ops a) := by
  have := wanted_put (ops := ops) o ⟨a, []⟩ dst v h
  cases dst <;> exact this
/-- What a quiet operation gives at these temporaries, in every world that keeps 'S'. -/
def Yields (P : Program) (ops : Array Oper) (S : World → Prop) (x : Oper) (v : Value) (a : Array Value) : Prop :=
  ∀ w, S w → (Region.wanted x (yielded ops a) = true ∧ (execOp (evA a) x).run P w = .ok (.value v) w) ∨ (Region.wanted x (yielded ops a) = false ∧ v = undef)
theorem Yields.does {S : World → Prop} {x : Oper} {v : Value} {a : Array Value} (y : Yields P ops S x v a) {w : World} (hw : S w) {Q : Value → World → Prop} (h : Q v w) : Does P ops x a w Q := by
  unfold Does
  rcases y w hw with ⟨h1, h2⟩ | ⟨h1, rfl⟩
  · simp only [h1, if_true, h2]; exact h
  · simp only [h1]; exact h
theorem Yields.put {S : World → Prop} {x : Oper} {v : Value} {a : Array Value} (y : Yields P ops S x v a) (hs : ∀ cs b, x.op ≠ .select cs b) (d : Option Tmp) (u : Value) (h : ∀ t, d = some t → t ∉ x.looksAt ops) :
    Yields P ops S x v (put a d u) := fun w hw => by
  rw [wanted_putX x a d u h, execOp_putX x hs a d u h]
  exact y w hw
theorem Does.put {x : Oper} (hs : ∀ cs b, x.op ≠ .select cs b) {a : Array Value} {w : World} {Q : Value → World → Prop} (d : Option Tmp) (u : Value) (h : ∀ t, d = some t → t ∉ x.looksAt ops) :
    Does P ops x (put a d u) w Q ↔ Does P ops x a w Q := by
  unfold Does
  rw [wanted_putX x a d u h, execOp_putX x hs a d u h]
/-- Must the heaps that quiet operations read still be there behind operation j? Not where it stands behind all of them. -/
def need (ops : Array Oper) (fl : List Nat) (j : Nat) : Bool := fl.any fun i => i != j && !(match ops[j]? with
  | some x => x.after.any fun e => Region.binds .any e && e.on == i
  | none => false)
def Any (P : Program) (ops : Array Oper) (S : World → Prop) (fl : List Nat) (Q : Array Value → World → Prop) : Nat → Array Bool → Array Value → World → Prop
  | 0, listed, a, w => Region.ready .any ops listed = [] ∧ Q a w
  | n + 1, listed, a, w => (Region.ready .any ops listed = [] → Q a w) ∧ ∀ i ∈ Region.ready .any ops listed, ∀ x, ops[i]? = some x →
      Does P ops x a w fun v w' => (need ops fl i = true → S w') ∧ Any P ops S fl Q n (listed.setIfInBounds i true) (X.put a x.dst v) w'
theorem need_of {fl : List Nat} {i j : Nat} {x : Oper} (hj : ops[j]? = some x) (hi : i ∈ fl) (hne : j ≠ i) (h : ∀ e ∈ x.after, Region.binds .any e = true → e.on ≠ i) : need ops fl j = true := by
  refine List.any_eq_true.2 ⟨i, hi, ?_⟩
  simp only [hj, Bool.and_eq_true, bne_iff_ne, ne_eq, Bool.not_eq_true', Array.any_eq_false']
  refine ⟨fun h => hne h.symm, ?_⟩
  intro e he
  simp only [Bool.and_eq_true, beq_iff_eq, not_and]
  exact h e he
theorem any_first {S : World → Prop} {fl : List Nat} {Q : Array Value → World → Prop} {i : Nat} {x : Oper} {v : Value} (hi : ops[i]? = some x) (hsel : ∀ (j : Nat) (o : Oper) cs b, ops[j]? = some o → o.op ≠ .select cs b) (hfl : i ∈ fl) :
    ∀ (fuel : Nat) (listed : Array Bool) (a : Array Value) (w : World),
      (∀ j oj, ops[j]? = some oj → j ≠ i → listed.getD j true = false → (∀ e ∈ oj.after, Region.binds .any e = true → e.on ≠ i) → x.apart ops oj = true) →
      i ∈ Region.ready .any ops listed → Yields P ops S x v a → S w →
      Any P ops S fl Q fuel (listed.setIfInBounds i true) (X.put a x.dst v) w → Any P ops S fl Q (fuel + 1) listed a w := by
  intro fuel
  induction fuel with
  | zero =>
    intro listed a w _ hr hy hw H
    refine ⟨fun h => (by rw [h] at hr; cases hr), fun j hj oj hoj => ?_⟩
    by_cases hji : j = i
    · subst hji
      rw [hi] at hoj; cases hoj
      exact hy.does hw ⟨fun _ => hw, H⟩
    · have hj2 := ready_mono hj hji
      rw [H.1] at hj2
      cases hj2
  | succ fuel ih =>
    intro listed a w hfree hr hy hw H
    refine ⟨fun h => (by rw [h] at hr; cases hr), fun j hj oj hoj => ?_⟩
    by_cases hji : j = i
    · subst hji
      rw [hi] at hoj; cases hoj
      exact hy.does hw ⟨fun _ => hw, H⟩
    · have h1 := H.2 j (ready_mono hj hji) oj hoj
      obtain ⟨hjun, oj', hoj', hall⟩ := mem_ready.1 hj
      rw [hoj] at hoj'; cases hoj'
      have hiun := (mem_ready.1 hr).1
      have hnot : ∀ e ∈ oj.after, Region.binds .any e = true → e.on ≠ i := fun e he hb heq => by
        have h1 := hall e he hb
        rw [heq] at h1
        rcases Nat.lt_or_ge i listed.size with h' | h'
        · simp [h'] at hiun h1; rw [hiun] at h1; cases h1
        · simp [Array.getElem?_eq_none h'] at h1
      have hap := hfree j oj hoj hji hjun hnot
      obtain ⟨a1, a2, a3⟩ := Oper.apart_spec hap
      rw [Does.put (hsel j oj · · hoj) x.dst v a1] at h1
      have hfree' : ∀ k ok, ops[k]? = some ok → k ≠ i → (listed.setIfInBounds j true).getD k true = false →
          (∀ e ∈ ok.after, Region.binds .any e = true → e.on ≠ i) → x.apart ops ok = true := fun k ok hk hki hun hno => by
        refine hfree k ok hk hki ?_ hno
        by_cases hjk : j = k
        · subst hjk; exact hjun
        · rw [getD_set_ne true hjk] at hun; exact hun
      have hneed : need ops fl j = true := need_of hoj hfl hji hnot
      refine h1.mono fun u w' ⟨hS, h3⟩ => ⟨fun _ => hS hneed, ?_⟩
      refine ih (listed.setIfInBounds j true) _ w' hfree' (ready_mono hr (Ne.symm hji)) (hy.put (hsel i x · · hi) oj.dst u a3) (hS hneed) ?_
      rw [Array.setIfInBounds_comm _ _ hji, ← put_comm a v u a2]
      exact h3
/-- Any order is one of these. -/
theorem any_steps {S : World → Prop} {fl : List Nat} {Q : Array Value → World → Prop} {f : FuncId} {rd : Option Nat} {ds : List Deferred} {k : List Item} {cs : List Frame} (hn : ∀ (i : Nat) (x : Oper), ops[i]? = some x → noDefer x = true) :
    ∀ (fuel t : Nat) (listed : Array Bool) (a : Array Value) (w : World), Any P ops S fl Q fuel listed a w →
      ∃ a' w', Q a' w' ∧ Steps P (lone (mk f rd a ds (.inRegion ops (Region.linearise.go .any ops fuel t listed []) :: k)) cs w) (lone (mk f rd a' ds k) cs w') := by
  intro fuel
  induction fuel with
  | zero => intro t listed a w h; exact ⟨a, w, h.2, .one step_region_end⟩
  | succ fuel ih =>
    intro t listed a w h
    obtain ⟨h0, h1⟩ := h
    simp only [Region.linearise.go]
    change ∃ a' w', Q a' w' ∧ Steps P (lone (mk f rd a ds (.inRegion ops (match (Region.ready .any ops listed)[t % (Region.ready .any ops listed).length]? with
      | some i => Region.linearise.go .any ops fuel (t / (Region.ready .any ops listed).length) (listed.setIfInBounds i true) [i]
      | none => [].reverse) :: k)) cs w) (lone (mk f rd a' ds k) cs w')
    cases hi : (Region.ready .any ops listed)[t % (Region.ready .any ops listed).length]? with
    | none =>
      have hnil : Region.ready .any ops listed = [] := by
        cases hr : Region.ready .any ops listed with
        | nil => rfl
        | cons x xs =>
          rw [hr] at hi
          have hlt : t % (x :: xs).length < (x :: xs).length := Nat.mod_lt _ (by simp)
          simp at hi
          simp at hlt
          omega
      exact ⟨a, w, h0 hnil, .one step_region_end⟩
    | some i =>
      simp only []
      rw [linearise_go_acc, List.reverse_singleton, List.singleton_append]
      have hmem := List.mem_of_getElem? hi
      obtain ⟨_, x, hx, _⟩ := mem_ready.1 hmem
      obtain ⟨v, w1, ⟨_, h3⟩, st⟩ := does_steps (f := f) (rd := rd) (ds := ds) (k := k) (rest := Region.linearise.go .any ops fuel (t / (Region.ready .any ops listed).length) (listed.setIfInBounds i true) []) (h1 i hmem x hx) hx (hn i x hx) cs
      obtain ⟨a', w', hQ, st'⟩ := ih _ _ _ _ h3
      exact ⟨a', w', hQ, Steps.trans st st'⟩

/-! ### the plan of a region -/
/-- q: an operation that only reads, taken now; br: one of those that may come next, and the others; stop: no other. -/
inductive Plan where
  | done
  | q (i : Nat) (t : Plan)
  | br (i : Nat) (b : Bool) (t : Plan) (u : Plan)
  | stop
def Plan.ok (ops : Array Oper) (fl : List Nat) : Plan → Array Bool → List Nat → Bool
  | .done, l, _ => (Region.ready .any ops l).isEmpty
  | .q i t, l, _ => (Region.ready .any ops l).contains i && Region.free .any ops l i && fl.contains i && t.ok ops fl (l.setIfInBounds i true) []
  | .br i b t u, l, acc => (need ops fl i == b) && (Region.ready .any ops l).contains i && t.ok ops fl (l.setIfInBounds i true) [] && u.ok ops fl l (i :: acc)
  | .stop, l, acc => !(Region.ready .any ops l).isEmpty && (Region.ready .any ops l).all fun i => acc.contains i
def Plan.depth : Plan → Nat
  | .done => 0
  | .q _ t => t.depth + 1
  | .br _ _ t u => max (t.depth + 1) u.depth
  | .stop => 1
def XT (c : Cx) (ops : Array Oper) (fl : List Nat) (f : List PHeap) (k : List Item) (r : List PHeap) : Plan → Env → List PHeap → Prop
  | .done, e, o => XK c k e o r
  | .q i t, e, o => ∃ x v, ops[i]? = some x ∧ okOper c.N x = true ∧ Quiet c.P ops x e f (c.B :: r) v ∧ XT c ops fl f k r t (puts e x.dst v) o
  | .br i b t u, e, o => (∃ x Ψ, ops[i]? = some x ∧ okOper c.N x = true ∧ Stp c.P ops x e o (c.B :: r) Ψ ∧ ∀ v o', Ψ v o' → (b = true → ∀ h ∈ f, h ∈ o') ∧ XT c ops fl f k r t (puts e x.dst v) o') ∧
      XT c ops fl f k r u e o
  | .stop, _, _ => True
def Sf (f r : List PHeap) (w : World) : Prop := Rd f r w
section
variable {c : Cx} {k : List Item} {f r : List PHeap} {fl : List Nat}
/-- What 'br' offers: each operation of the list may come next. -/
def Offers (c : Cx) (ops : Array Oper) (fl : List Nat) (f : List PHeap) (r : List PHeap) (n : Nat) (l : Array Bool) (a : Array Value) (w : World) (Q : Array Value → World → Prop) (i : Nat) : Prop :=
  ∀ x, ops[i]? = some x → Does c.P ops x a w fun v w' => (need ops fl i = true → Sf f (c.B :: r) w') ∧ Any c.P ops (Sf f (c.B :: r)) fl Q n (l.setIfInBounds i true) (X.put a x.dst v) w'
theorem listed_of_ready {ops : Array Oper} {l : Array Bool} {i : Nat} {fl : List Nat} (hr : i ∈ Region.ready .any ops l) (hn : need ops fl i = false) : ∀ j ∈ fl, (l.setIfInBounds i true).getD j true = true := by
  intro j hj
  obtain ⟨_, x, hx, hall⟩ := mem_ready.1 hr
  by_cases hji : i = j
  · subst hji
    by_cases hlt : i < l.size <;> simp [hlt]
  · rw [getD_set_ne true hji]
    unfold need at hn
    have := List.any_eq_false.1 hn j hj
    simp only [hx, Bool.and_eq_true, bne_iff_ne, ne_eq, Bool.not_eq_true', not_and, Bool.not_eq_false] at this
    obtain ⟨ed, he, hb⟩ := Array.any_eq_true'.1 (this (fun h => hji h.symm))
    simp only [Bool.and_eq_true, beq_iff_eq] at hb
    have h1 := hall ed he hb.1
    rw [hb.2] at h1
    rcases Nat.lt_or_ge j l.size with h' | h'
    · simp [h'] at h1 ⊢; exact h1
    · simp [Array.getElem?_eq_none h']
theorem plan_sound {ops : Array Oper} {D : PHeap} (hsel : Region.noSelect ops = true) {Q : Array Value → World → Prop}
    (hQ : ∀ e o, XK c k e o r → ∀ a w, a.size = c.N → ERel e a → Sep (D :: o) (c.B :: r) w → Q a w) :
    ∀ (t : Plan) (n : Nat) (l : Array Bool) (acc : List Nat) (e : Env) (o : List PHeap) (a : Array Value) (w : World), t.ok ops fl l acc = true → t.depth ≤ n → XT c ops fl f k r t e o →
      a.size = c.N → ERel e a → Sep (D :: o) (c.B :: r) w → ((∀ i ∈ fl, l.getD i true = true) ∨ Sf f (c.B :: r) w) → (∀ i ∈ acc, ∀ m, m + 1 = n → Offers c ops fl f r m l a w Q i) →
      Any c.P ops (Sf f (c.B :: r)) fl Q n l a w := by
  intro t
  induction t with
  | done =>
    intro n l acc e o a w hok _ hX ha he hs _ _
    simp only [Plan.ok, List.isEmpty_iff] at hok
    have hq := hQ e o hX a w ha he hs
    cases n with
    | zero => exact ⟨hok, hq⟩
    | succ n => exact ⟨fun _ => hq, by rw [hok]; simp⟩
  | q i t ih =>
    intro n l acc e o a w hok hd hX ha he hs hS _
    simp only [Plan.ok, Bool.and_eq_true] at hok
    obtain ⟨⟨⟨hr, hf⟩, hfl⟩, hok'⟩ := hok
    obtain ⟨x, v, hx, hko, hq, hX'⟩ := hX
    simp only [Plan.depth] at hd
    obtain ⟨m, rfl⟩ : ∃ m, n = m + 1 := ⟨n - 1, by omega⟩
    have hr' : i ∈ Region.ready .any ops l := by simpa using hr
    have hfl' : i ∈ fl := by simpa using hfl
    have hSf : Sf f (c.B :: r) w := by
      rcases hS with h | h
      · have h1 := h i hfl'
        rw [(mem_ready.1 hr').1] at h1; cases h1
      · exact h
    refine any_first hx (Region.noSelect_spec hsel) hfl' m l a w (Region.free_spec hx hf) hr' (fun w' hw' => hq a w' he hw') hSf ?_
    exact ih m _ [] _ o _ w hok' (by omega) hX' (by rw [size_put, ha]) (he.puts ha hko) hs (.inr hSf) (fun i hi => by cases hi)
  | br i b t u iht ihu =>
    intro n l acc e o a w hok hd hX ha he hs hS hacc
    simp only [Plan.ok, Bool.and_eq_true] at hok
    obtain ⟨⟨⟨hb, hr⟩, hokt⟩, hoku⟩ := hok
    have hb := eq_of_beq hb
    subst hb
    obtain ⟨⟨x, Ψ, hx, hko, hst, hnx⟩, hXu⟩ := hX
    simp only [Plan.depth] at hd
    have hr' : i ∈ Region.ready .any ops l := by simpa using hr
    refine ihu n l (i :: acc) e o a w hoku (by omega) hXu ha he hs hS ?_
    intro j hj m hm
    rcases List.mem_cons.1 hj with rfl | hj
    · intro x' hx'
      rw [hx] at hx'; cases hx'
      refine (hst D a w he hs).mono fun v w' ⟨o2, ⟨o', hΨ, hp⟩, hs2⟩ => ?_
      have hs' := hs2.perm hp
      obtain ⟨hkeep, hX'⟩ := hnx v o' hΨ
      have hSf : need ops fl j = true → Sf f (c.B :: r) w' := fun hn => ⟨fun h hh => hs'.so h (List.mem_cons_of_mem _ (hkeep hn h hh)), hs'.sr⟩
      refine ⟨hSf, iht m _ [] _ o' _ w' hokt (by omega) hX' (by rw [size_put, ha]) (he.puts ha hko) hs' ?_ (fun i hi => by cases hi)⟩
      cases hn : need ops fl j with
      | true => exact .inr (hSf hn)
      | false => exact .inl (listed_of_ready hr' hn)
    · exact hacc j hj m hm
  | stop =>
    intro n l acc e o a w hok hd _ _ _ _ _ hacc
    simp only [Plan.ok, Bool.and_eq_true, Bool.not_eq_true', List.all_eq_true] at hok
    simp only [Plan.depth] at hd
    obtain ⟨m, rfl⟩ : ∃ m, n = m + 1 := ⟨n - 1, by omega⟩
    refine ⟨fun h => by rw [h] at hok; simp at hok, fun i hi x hx => ?_⟩
    exact hacc i (by simpa using hok.2 i hi) m rfl x hx
/-- A region that draws: a plan that fits its edges, the operations in the plan's order. -/
theorem XK.draw {id : Nat} {l : List Oper} {e : Env} {o : List PHeap} (fl : List Nat) (f : List PHeap) (t : Plan) (hmix : c.P.follows .mixedOrders = true) (hl : l.all (okOper c.N) = true)
    (hok : (Region.noSelect l.toArray && t.ok l.toArray fl (Array.replicate l.length false) [] && Nat.ble t.depth l.length) = true) (hf : AllIn f o [])
    (h : XT c l.toArray fl f k r t e o) : XK c (.code (.region id l.toArray true) :: k) e o r := fun D ds a w cs ha he hD hs => by
  simp only [Bool.and_eq_true] at hok
  have hs1 : Sep (D :: o) (c.B :: r) { w with drawn := w.drawn + 1 } := ⟨hs.pw, hs.dr, hs.so, hs.sr, hs.no, hs.sm⟩
  have hA := plan_sound (D := D) (Q := fun a' w' => ∀ cs, ∃ fr w'', c.E fr w'' ∧ Steps c.P (lone (mk c.f c.rd a' (marks ds) k) cs w') (lone fr cs w'')) hok.1.1
    (fun e o hX a w ha he hs cs => hX D ds a w cs ha he hD hs) t l.length (Array.replicate l.length false) [] e o a { w with drawn := w.drawn + 1 } hok.1.2 (Nat.le_of_ble_eq_true hok.2) h ha he hs1
    (.inr ⟨fun g hg => hs1.so g (List.mem_cons_of_mem _ ((hf.pf g hg).elim (fun h => h) (fun h => by cases h))), hs1.sr⟩) (fun i hi => by cases hi)
  have hnd : ∀ (i : Nat) (x : Oper), l.toArray[i]? = some x → noDefer x = true := fun i x hx => by
    have := List.all_eq_true.1 hl x (by
      rw [List.getElem?_toArray] at hx
      exact List.mem_of_getElem? hx)
    unfold okOper at this
    simp only [Bool.and_eq_true] at this
    exact this.1
  obtain ⟨a', w', hQ, st⟩ := any_steps (f := c.f) (rd := c.rd) (ds := marks ds) (k := k) (cs := cs) hnd l.length (w.tape w.drawn (.order c.f id)) _ a _ hA
  obtain ⟨fr, w'', hE, st'⟩ := hQ cs
  refine ⟨fr, w'', hE, .head step_region_draw ?_⟩
  have hsch : Region.schedule (c.P.follows .mixedOrders) l.toArray (w.tape w.drawn (.order c.f id)) =
      Region.linearise.go .any l.toArray l.length (w.tape w.drawn (.order c.f id)) (Array.replicate l.length false) [] := by
    simp [Region.schedule, hmix, Region.linearise]
  rw [hsch]
  exact Steps.trans st st'
end

/-! ### rules in a plan -/
section
variable {c : Cx} {ops : Array Oper} {fl : List Nat} {f : List PHeap} {k : List Item} {e : Env} {o r : List PHeap} {i : Nat} {b : Bool} {t u : Plan}
theorem XT.q {d : Nat} {op : Op} {ty : TypeId} {pos : String} {aft : Array Edge} {g : Option (Nat × Bool)} {v : Value} (hx : ops[i]? = some ⟨some d, op, ty, pos, aft, g⟩) (hok : okOper c.N ⟨some d, op, ty, pos, aft, g⟩ = true)
    (q : Quiet c.P ops ⟨some d, op, ty, pos, aft, g⟩ e f (c.B :: r) v) (h : XT c ops fl f k r t ((d, some v) :: e) o) : XT c ops fl f k r (.q i t) e o := ⟨_, v, hx, hok, q, h⟩
class Keeps (b : Bool) (f o' : List PHeap) : Prop where
  pf : b = true → ∀ h ∈ f, h ∈ o'
instance Keeps.no {f o' : List PHeap} : Keeps false f o' := ⟨fun h => by cases h⟩
instance Keeps.nil {b : Bool} {o' : List PHeap} : Keeps b [] o' := ⟨fun _ _ h => by cases h⟩
instance Keeps.yes {f o' : List PHeap} [a : AllIn f o' []] : Keeps true f o' := ⟨fun _ h hh => (a.pf h hh).elim (fun h => h) (fun h => by cases h)⟩
/-- The next operation, whatever it does; b: must the heaps that are read stay? -/
theorem XT.s {d : Nat} {op : Op} {ty : TypeId} {pos : String} {aft : Array Edge} {g : Option (Nat × Bool)} {Ψ : Value → List PHeap → Prop} (hx : ops[i]? = some ⟨some d, op, ty, pos, aft, g⟩)
    (hok : okOper c.N ⟨some d, op, ty, pos, aft, g⟩ = true) (s : Stp c.P ops ⟨some d, op, ty, pos, aft, g⟩ e o (c.B :: r) Ψ)
    (h : ∀ v o', Ψ v o' → Keeps b f o' ∧ XT c ops fl f k r t ((d, some v) :: e) o') (hu : XT c ops fl f k r u e o) : XT c ops fl f k r (.br i b t u) e o :=
  ⟨⟨_, Ψ, hx, hok, s, fun v o' hΨ => ⟨(h v o' hΨ).1.pf, (h v o' hΨ).2⟩⟩, hu⟩
theorem XT.s0 {op : Op} {ty : TypeId} {pos : String} {aft : Array Edge} {g : Option (Nat × Bool)} {Ψ : Value → List PHeap → Prop} (hx : ops[i]? = some ⟨none, op, ty, pos, aft, g⟩)
    (hok : okOper c.N ⟨none, op, ty, pos, aft, g⟩ = true) (s : Stp c.P ops ⟨none, op, ty, pos, aft, g⟩ e o (c.B :: r) Ψ)
    (h : ∀ v o', Ψ v o' → Keeps b f o' ∧ XT c ops fl f k r t e o') (hu : XT c ops fl f k r u e o) : XT c ops fl f k r (.br i b t u) e o :=
  ⟨⟨_, Ψ, hx, hok, s, fun v o' hΨ => ⟨(h v o' hΨ).1.pf, (h v o' hΨ).2⟩⟩, hu⟩
theorem XT.stop : XT c ops fl f k r .stop e o := trivial
theorem XT.done (h : XK c k e o r) : XT c ops fl f k r .done e o := h
end
end
end Go.X

/- Tests as propositions; loops that find what they keep; min, max, nil, arrays in a variable. No condition. -/
set_option linter.unusedSimpArgs false
set_option linter.unusedVariables false
namespace Go.X

/-! ### what a test says -/
class BoolP (b : Bool) (p : outParam Prop) : Prop where
  pf : b = true ↔ p
instance (priority := high) BoolP.dec {p : Prop} [d : Decidable p] : BoolP (decide p) p := ⟨decide_eq_true_iff⟩
instance (priority := high) BoolP.or {a b : Bool} {p q : Prop} [x : BoolP a p] [y : BoolP b q] : BoolP (a || b) (p ∨ q) := ⟨by rw [Bool.or_eq_true, x.pf, y.pf]⟩
instance (priority := high) BoolP.and {a b : Bool} {p q : Prop} [x : BoolP a p] [y : BoolP b q] : BoolP (a && b) (p ∧ q) := ⟨by rw [Bool.and_eq_true, x.pf, y.pf]⟩
instance (priority := high) BoolP.not {a : Bool} {p : Prop} [x : BoolP a p] : BoolP (!a) (¬ p) := ⟨by rw [← x.pf]; simp⟩
instance (priority := high) BoolP.eq {a b : Bool} : BoolP (a == b) (a = b) := ⟨by simp⟩
instance (priority := high) BoolP.ne {a b : Bool} : BoolP (a != b) (a ≠ b) := ⟨by simp⟩
instance (priority := high) BoolP.true : BoolP true True := ⟨by simp⟩
instance (priority := high) BoolP.false : BoolP false False := ⟨by simp⟩
instance (priority := low) BoolP.other {b : Bool} : BoolP b (b = Bool.true) := ⟨Iff.rfl⟩
section
variable {c : Cx} {k : List Item} {e : Env} {o r : List PHeap}
theorem XK.if {x : Operand} {y z : Code} {b : Bool} {p : Prop} (hx : ev e x = some (.bool b)) [t : BoolP b p] (ht : p → XK c (.code y :: k) e o r) (hf : ¬ p → XK c (.code z :: k) e o r) :
    XK c (.code (.cond x y z) :: k) e o r := XK.cond hx (fun h => ht (t.pf.1 h)) (fun h => hf (fun hp => by rw [t.pf.2 hp] at h; cases h))

/-! ### a loop: what is not named is kept -/
class Rest (hs : List PHeap) (o : List PHeap) (ok : outParam (List PHeap)) : Prop where
  pf : ∃ m, (List.replicate m emp ++ o).Perm (hs ++ ok)
instance Rest.nil (o : List PHeap) : Rest [] o o := ⟨0, List.Perm.refl _⟩
instance (priority := high) Rest.emp (hs o ok : List PHeap) [t : Rest hs o ok] : Rest (emp :: hs) o ok := ⟨let ⟨m, h⟩ := t.pf; ⟨m + 1, by rw [List.replicate_succ]; exact h.cons X.emp⟩⟩
instance Rest.cons (h : PHeap) (hs o o1 ok : List PHeap) [t : Take h o o1] [t2 : Rest hs o1 ok] : Rest (h :: hs) o ok :=
  ⟨let ⟨m, hp⟩ := t2.pf; ⟨m, ((t.pf.append_left _).trans List.perm_middle).trans (hp.cons h)⟩⟩
theorem Rest.wk {hs o ok : List PHeap} (t : Rest hs o ok) : Wk o (hs ++ ok) := ⟨let ⟨m, h⟩ := t.pf; ⟨m, [], by rw [List.append_nil]; exact h⟩⟩
/-- 'o0': the heaps that the loop changes, as they are ahead of it. -/
theorem XK.while {X : Type} (ks : List Nat) (up : X → Env) (oc : X → List PHeap) (I : X → Prop) (μ : X → Nat) (x0 : X) (o0 : List PHeap) {ok : List PHeap} {body : Code} [rst : Rest o0 o ok] (ho0 : oc x0 = o0) (h0 : I x0)
    (henv : EnvLe (up x0 ++ kills ks e) e)
    (round : ∀ x, I x → (∀ x' e' o', I x' → μ x' < μ x → EnvLe (up x' ++ kills ks e) e' → Wk o' (oc x' ++ ok) → XK c (.inLoop body :: k) e' o' r) →
      XK c (.code body :: .inLoop body :: k) (up x ++ kills ks e) (oc x ++ ok) r) :
    XK c (.code (.loop body) :: k) e o r := XK.rounds ks up oc ok I μ x0 h0 henv (by rw [ho0]; exact rst.wk) round
/-- Ways that meet again behind the next statement. -/
theorem XK.meet {X : Type} (ks : List Nat) (up : X → Env) (oc : X → List PHeap) (I : X → Prop) (o0 : List PHeap) {ok : List PHeap} {it : Item} [rst : Rest o0 o ok]
    (cont : ∀ x, I x → XK c k (up x ++ kills ks e) (oc x ++ ok) r)
    (first : (∀ x e' o', I x → EnvLe (up x ++ kills ks e) e' → Wk o' (oc x ++ ok) → XK c k e' o' r) → XK c (it :: k) e o r) : XK c (it :: k) e o r :=
  XK.join ks up oc ok I cont first
end

section
variable {P : Program} {ops : Array Oper} {e : Env} {o r : List PHeap} {d : Option Tmp} {ty : TypeId} {pos : String} {aft : Array Edge}
variable {α : Type} {enc : α → List Value} {sz : Nat} {h : PHeap} {xs : List α} {v : Value}
theorem run_min {x y : Operand} {m n : Int} {ty' : Array TypeId} {a : Array Value} {w : World} {cs : Array Bool} (b : Bool) :
    (builtin (if b then .min else .max) ty' ty cs #[.int .i64 m, .int .i64 n]).run P w = .ok (.value (.int .i64 (if b then min m n else max m n))) w := by
  cases b with
  | true =>
    simp only [if_true, builtin]
    refine run_val ?_
    have h1 : Builtin.min_ ty' ty #[.int .i64 m, .int .i64 n] = (pure (.int .i64 (if n < m then n else m)) : Sem Value) := by
      simp [Builtin.min_, Builtin.min2]
    rw [h1]
    have h2 : (if n < m then n else m) = min m n := by omega
    rw [h2]; rfl
  | false =>
    simp only [Bool.false_eq_true, if_false, builtin]
    refine run_val ?_
    have h1 : ∃ z, Builtin.max_ ty' ty #[.int .i64 m, .int .i64 n] = (pure (.int .i64 z) : Sem Value) ∧ z = max m n := by
      refine ⟨_, by simp [Builtin.max_, Builtin.max2]; rfl, ?_⟩
      omega
    obtain ⟨z, h1, rfl⟩ := h1
    rw [h1]; rfl
theorem Q.min {x y : Operand} {tys : Array TypeId} {m n : Int} (hx : ev e x = some (.int .i64 m)) (hy : ev e y = some (.int .i64 n)) :
    Quiet P ops ⟨d, .call ⟨.builtin .min, #[x, y], tys⟩, ty, pos, aft, none⟩ e o r (.int .i64 (min m n)) := .mk fun a w he _ => by
  simp only [execOp, resolve, List.map_toArray, List.map_cons, List.map_nil, ev_rel he hx, ev_rel he hy]
  rw [bind_ok (a := _) (w1 := w) rfl]
  simp only [invoke]
  exact run_min (x := x) (y := y) (a := a) true
theorem Q.max {x y : Operand} {tys : Array TypeId} {m n : Int} (hx : ev e x = some (.int .i64 m)) (hy : ev e y = some (.int .i64 n)) :
    Quiet P ops ⟨d, .call ⟨.builtin .max, #[x, y], tys⟩, ty, pos, aft, none⟩ e o r (.int .i64 (max m n)) := .mk fun a w he _ => by
  simp only [execOp, resolve, List.map_toArray, List.map_cons, List.map_nil, ev_rel he hx, ev_rel he hy]
  rw [bind_ok (a := _) (w1 := w) rfl]
  simp only [invoke]
  exact run_min (x := x) (y := y) (a := a) false
theorem Q.ixA {t el len : TypeId} [u : Und P t (.array len el)] [z : TySize P el sz] {x y : Operand} {k : IntKind} {n : Int} {i b kk : Nat} (hx : ev e x = some (ptr b kk)) (hy : ev e y = some (.int k n))
    [ix : Idx n i] (h0 : 0 ≤ n) (h1 : n < len) : Quiet P ops ⟨d, .indexAddr t x y, ty, pos, aft, none⟩ e o r (ptr b (kk + i * sz)) := .mk fun a w he _ => by
  have hn := ix.pf h0
  subst hn
  simp only [execOp, ev_rel he hx, ev_rel he hy]
  refine run_val ?_
  unfold Instr.indexAt
  rw [bind_ok (a := (k, (i : Int))) (w1 := w) rfl]
  simp only
  rw [bind_ok (u.pf w)]
  simp only
  rw [bind_ok (a := (⟨b, kk, none⟩ : Addr)) (w1 := w) rfl]
  rw [bind_ok (a := (some (⟨b, kk, none⟩ : Addr), len, el)) (w1 := w) rfl]
  rw [bind_ok (u.pf w)]
  simp only
  rw [if_pos ⟨h0, h1⟩]
  rw [bind_ok (z.pf w)]
  simp [add_none, pure, Sem.run]
end
section
variable {c : Cx} {ops : Array Oper} {rest : List Oper} {k : List Item} {e : Env} {o r : List PHeap} {d : Nat} {dd : Option Tmp} {ty : TypeId} {pos : String} {aft : Array Edge}
variable {α : Type} {enc : α → List Value} {sz : Nat} {h : PHeap} {xs : List α} {v : Value}
theorem XO.len {t : TypeId} {el : TypeId} [u : Und c.P t (.slice el)] {x : Operand} (hx : ev e x = some v) [s : Arr v enc sz h xs]
    (hn : xs.length ≤ 140737488355328 → XO c ops rest k ((d, some (.int .i64 xs.length)) :: e) o r) :
    XO c ops (⟨some d, .call ⟨.builtin .len, #[x], #[t]⟩, ty, pos, aft, none⟩ :: rest) k e o r := XO.q (Q.len hx) (hn s.le)
theorem run_eqNil {P : Program} {t el : TypeId} [u : Und P t (.slice el)] {a : Option Addr} {n c : Nat} (w : World) : (Op.equal t (.slice a n c) (.slice none 0 0)).run P w = .ok a.isNone w := by
  unfold Op.equal Op.maxDepth
  unfold Op.equalIn
  rw [bind_ok (u.pf w)]
  cases a <;> rfl
/-- s == nil: if so, s is empty. -/
theorem XO.eqNil {t t2 el : TypeId} [u : Und c.P t (.slice el)] {x : Operand} (hx : ev e x = some v) [s : Arr v enc sz h xs]
    (hn : ∀ b : Bool, (b = true → xs = [] ∧ v = .slice none 0 0) → XO c ops rest k ((d, some (.bool b)) :: e) o r) :
    XO c ops (⟨some d, .binOp .eql t x (.const (.slice none 0 0)) t2, ty, pos, aft, none⟩ :: rest) k e o r := by
  obtain ⟨_, _, ad, cc, rfl, hle, hnn, _⟩ := s.pf
  refine XO.q (v := .bool ad.isNone) (.mk fun a w he _ => ?_) (hn _ fun hb => ?_)
  · have e1 : evA a (.const (.slice none 0 0)) = .slice none 0 0 := rfl
    simp only [execOp, ev_rel he hx, e1]
    refine run_val ?_
    have h1 : (eqGuard .eql t x (.const (.slice none 0 0)) (.slice ad xs.length cc) (.slice none 0 0)).run c.P w = .ok () w := rfl
    rw [bind_ok h1]
    unfold binOp
    simp only
    rw [bind_ok (run_eqNil w)]
    rfl
  · have h1 : ad = none := by simpa using hb
    have h2 := hnn h1
    have h3 : xs = [] := List.length_eq_zero_iff.1 (by omega)
    subst h1 h2 h3
    exact ⟨rfl, rfl⟩
/-- A call that changes one variable of the caller's. -/
theorem XO.callB {g : FuncId} {x : Operand} {l : List Operand} {tys : Array TypeId} {fst vs cap A : List Value} {Hr : List PHeap} {R : Value → List PHeap → Prop} {o1 : List PHeap} (b : Nat) {cs : List Value} {T : TypeId} [hb : HasL b o cs T]
    [t : Take (blk b cs T) o o1] (hc : ∀ args w, (callFunc g args).run c.P w = .ok (.enter g args) w) (hx : ev e x = some (.func (.func g) fst.toArray cap.toArray)) (hl : evs e l = some vs) (hA : fst ++ vs ++ cap = A)
    (hS : Spec c.P g A.toArray [blk b cs T] Hr R) [al : AllIn Hr o1 (c.B :: r)] (h : ∀ v hs, R v hs → XO c ops rest k ((d, some v) :: e) (hs ++ o1) r) :
    XO c ops (⟨some d, .call ⟨.value x, l.toArray, tys⟩, ty, pos, aft, none⟩ :: rest) k e o r :=
  XO.s (Stp.call (Hm := [blk b cs T]) (o1 := o1) (t := ⟨t.pf⟩) hc hx hl hA hS) fun v o2 ⟨hs, hR, h2⟩ => by subst h2; exact h v hs hR
end
/-- The blocks that loops over functions have left are taken at the frame's end. -/
theorem unwinds {P : Program} {f : FuncId} {a : Array Value} {cs : List Frame} {k : List Item} {r : List PHeap} {o : List PHeap} : ∀ (ds : List Nat) (D : PHeap) (w : World), Marked D ds → Sep (D :: o) r w →
    ∃ w', Sep o r w' ∧ Steps P (lone { mk f none a (marks ds) k with mode := .returning } cs w) (lone { mk f none a [] k with mode := .returning } cs w')
  | [], D, w, _, hs => ⟨w, hs.tail, .refl _ _⟩
  | b :: ds, D, w, hD, hs => by
    have hnd := List.nodup_cons.1 hD.1
    have hb : w.heap[b]? = some (.deferred (some [])) := hs.so D List.mem_cons_self b _ (by rw [hD.2 b]; simp)
    let D' : PHeap := ⟨fun x => if x ∈ ds then some (.deferred (some [])) else none, none⟩
    have hD' : Marked D' ds := ⟨hnd.2, fun _ => rfl⟩
    let w1 : World := { w with heap := w.heap.setIfInBounds b (.deferred none) }
    have hw1 : ∀ x, x ≠ b → w1.heap[x]? = w.heap[x]? := fun x hx => by
      simp only [w1]
      rw [Array.getElem?_setIfInBounds_ne (Ne.symm hx)]
    have hnb : ∀ h, Disj D h → h b = none := fun h hd => by
      rcases hd b with h1 | h1
      · rw [hD.2 b] at h1; simp at h1
      · exact h1
    have hsub : ∀ h, Disj D h → sub h w → sub h w1 := fun h hd hsb x ob hx => by
      have hne : x ≠ b := by rintro rfl; rw [hnb h hd] at hx; cases hx
      rw [hw1 x hne]
      exact hsb x ob hx
    have hpw := List.pairwise_cons.1 hs.pw
    have hdd : ∀ h, Disj D h → Disj D' h := fun h hd x => by
      rcases hd x with h1 | h1
      · left
        rw [hD.2 x] at h1
        simp only [D']
        rw [if_neg]
        intro hx
        rw [if_pos (List.mem_cons_of_mem _ hx)] at h1
        cases h1
      · exact .inr h1
    have hs1 : Sep (D' :: o) r w1 := by
      refine ⟨List.pairwise_cons.2 ⟨fun h hh => hdd h (hpw.1 h hh), hpw.2⟩, ?_, ?_, ?_, ?_, fun g hg m hm => hs.sm g hg m hm⟩
      · intro h hh g hg
        rcases List.mem_cons.1 hh with rfl | hh
        · exact hdd g (hs.dr D List.mem_cons_self g hg)
        · exact hs.dr h (List.mem_cons_of_mem _ hh) g hg
      · intro h hh
        rcases List.mem_cons.1 hh with rfl | hh
        · intro x ob hx
          simp only [D'] at hx
          split at hx
          · rename_i hxd
            cases hx
            have hne : x ≠ b := by rintro rfl; exact hnd.1 hxd
            rw [hw1 x hne]
            exact hs.so D List.mem_cons_self x _ (by rw [hD.2 x, if_pos (List.mem_cons_of_mem _ hxd)])
          · cases hx
        · exact hsub h (hpw.1 h hh) (hs.so h (List.mem_cons_of_mem _ hh))
      · exact fun g hg => hsub g (hs.dr D List.mem_cons_self g hg) (hs.sr g hg)
      · intro h hh
        rcases List.mem_cons.1 hh with rfl | hh
        · rfl
        · exact hs.no h (List.mem_cons_of_mem _ hh)
    obtain ⟨w', hS, st⟩ := unwinds (P := P) (f := f) (a := a) (cs := cs) (k := k) ds D' w1 hD' hs1
    refine ⟨w', hS, .head (step_lone_go ?_) st⟩
    have htake : (Instr.takeDeferred b).run P w = .ok [] w1 := by
      have h1 : (getObj b).run P w = .ok (.deferred (some [])) w := by simp [getObj, Sem.run, hb]
      unfold Instr.takeDeferred
      rw [bind_ok h1]
      simp only
      have h2 : (setObj b (.deferred none)).run P w = .ok () w1 := by simp [setObj, Sem.run, hb, w1]
      rw [bind_ok h2]
      rfl
    simp [stepG, unwind, mk, marks, htake]
class Packed (vs : List Value) (v : outParam Value) : Prop where
  pf : packed vs = v
instance Packed.one {v : Value} : Packed [v] v := ⟨rfl⟩
instance Packed.none : Packed [] (.tuple #[]) := ⟨rfl⟩
instance Packed.more {a b : Value} {l : List Value} : Packed (a :: b :: l) (.tuple (a :: b :: l).toArray) := ⟨rfl⟩
class App (a b : List PHeap) (c : outParam (List PHeap)) : Prop where
  pf : a ++ b = c
instance App.nil {b : List PHeap} : App [] b b := ⟨rfl⟩
instance App.cons {h : PHeap} {a b c : List PHeap} [t : App a b c] : App (h :: a) b (h :: c) := ⟨by rw [List.cons_append, t.pf]⟩
/-- Return: 'hs' are the heaps that are handed back. -/
theorem XK.rt {P : Program} {f : FuncId} {N : Nat} {B : PHeap} {R : Value → List PHeap → Prop} {k : List Item} {e : Env} {o r : List PHeap} {fn : Func} {l : List ResultVar} {vs : List Value}
    (hs : List PHeap) [p : Wk o hs] (hf : P.funcs[f]? = some fn) (hl : fn.results = l.toArray) {v : Value} (hv : ResL P o (B :: r) e l vs) [pk : Packed vs v] (hR : R v hs) :
    XK (cx P f N B R) (.code .ret :: k) e o r := fun D ds a w cs _ he hD hm => by
  obtain ⟨w', hS, st⟩ := unwinds (P := P) (f := f) (a := a) (cs := cs) (k := .code .ret :: k) ds D w hD hm
  exact ⟨_, w', ⟨v, hs, rfl, ⟨rfl, rfl, rfl, fn, hf, by rw [← pk.pf]; exact run_results hl hv he hS.rd⟩, hR, (p.sep hS).reads (fun g hg => by simp at hg; subst hg; exact List.mem_cons_self)⟩, .head step_ret st⟩
theorem XK.fn {P : Program} {f : FuncId} {N : Nat} {B : PHeap} {R : Value → List PHeap → Prop} {e : Env} {o r : List PHeap} {fn : Func} {l : List ResultVar} {vs : List Value}
    (hs : List PHeap) [p : Wk o hs] (hf : P.funcs[f]? = some fn) (hl : fn.results = l.toArray) {v : Value} (hv : ResL P o (B :: r) e l vs) [pk : Packed vs v] (hR : R v hs) :
    XK (cx P f N B R) [] e o r := fun D ds a w cs _ he hD hm => by
  obtain ⟨w', hS, st⟩ := unwinds (P := P) (f := f) (a := a) (cs := cs) (k := []) ds D w hD hm
  exact ⟨_, w', ⟨v, hs, rfl, ⟨rfl, rfl, rfl, fn, hf, by rw [← pk.pf]; exact run_results hl hv he hS.rd⟩, hR, (p.sep hS).reads (fun g hg => by simp at hg; subst hg; exact List.mem_cons_self)⟩, .head step_end st⟩
/-- Blocks by their numbers. -/
class SelB (bs : List Nat) (o : List PHeap) (f : outParam (List PHeap)) : Prop where
  pf : ∀ h ∈ f, h ∈ o
instance SelB.nil {o : List PHeap} : SelB [] o [] := ⟨fun _ h => by cases h⟩
instance (priority := high) SelB.cons {b : Nat} {bs : List Nat} {o f : List PHeap} {cs : List Value} {T : TypeId} [x : HasL b o cs T] [y : SelB bs o f] : SelB (b :: bs) o (blk b cs T :: f) :=
  ⟨fun h hh => by
    rcases List.mem_cons.1 hh with rfl | hh
    · exact x.pf
    · exact y.pf h hh⟩
instance (priority := low) SelB.skip {b : Nat} {bs : List Nat} {o f : List PHeap} [y : SelB bs o f] : SelB (b :: bs) o f := ⟨y.pf⟩
theorem XK.drawn {c : Cx} {k : List Item} {r : List PHeap} {id : Nat} {l : List Oper} {e : Env} {o f : List PHeap} (fl : List Nat) (bs : List Nat) (hs : List PHeap) (t : Plan) [sb : SelB bs o f] [al : AllIn hs o []] {ff : List PHeap} [ap : App hs f ff]
    (hmix : c.P.follows .mixedOrders = true) (hl : l.all (okOper c.N) = true)
    (hok : (Region.noSelect l.toArray && t.ok l.toArray fl (Array.replicate l.length false) [] && Nat.ble t.depth l.length) = true)
    (h : XT c l.toArray fl ff k r t e o) : XK c (.code (.region id l.toArray true) :: k) e o r :=
  XK.draw fl ff t hmix hl hok ⟨fun g hg => by
    rw [← ap.pf] at hg
    rcases List.mem_append.1 hg with h1 | h1
    · exact al.pf g h1
    · exact .inl (sb.pf g h1)⟩ h
end Go.X

/- The rules in a region that draws its order. No condition. -/
set_option linter.unusedSimpArgs false
set_option linter.unusedVariables false
namespace Go.X
section
variable {c : Cx} {ops : Array Oper} {fl : List Nat} {f : List PHeap} {k : List Item} {e : Env} {o r : List PHeap} {i0 : Nat} {bb : Bool} {tt uu : Plan} {d : Nat} {ty : TypeId} {pos : String} {aft : Array Edge}
variable {α : Type} {enc : α → List Value} {sz : Nat} {h : PHeap} {xs : List α} {v : Value}
theorem XT.qs {op : Op} {g : Option (Nat × Bool)} {v : Value} (hi : ops[i0]? = some ⟨some d, op, ty, pos, aft, g⟩) (hok : okOper c.N ⟨some d, op, ty, pos, aft, g⟩ = true)
    (q : Quiet c.P ops ⟨some d, op, ty, pos, aft, g⟩ e o (c.B :: r) v) (hn : Keeps bb f o ∧ XT c ops fl f k r tt ((d, some v) :: e) o) (hu : XT c ops fl f k r uu e o) : XT c ops fl f k r (.br i0 bb tt uu) e o :=
  XT.s hi hok q.stp (fun _ _ ⟨hv, ho⟩ => by subst hv ho; exact hn) hu
theorem XT.ix {t el : TypeId} [u : Und c.P t (.slice el)] [z : TySize c.P el sz] {x y : Operand} {kk : IntKind} {n : Int} {i : Nat} (hi : ops[i0]? = some ⟨some d, .indexAddr t x y, ty, pos, aft, none⟩)
    (hok : okOper c.N ⟨some d, .indexAddr t x y, ty, pos, aft, none⟩ = true) (hx : ev e x = some v) (hy : ev e y = some (.int kk n))
    [s : Arr v enc sz h xs] [ix : Idx n i] (h0 : 0 ≤ n) (h1 : n < xs.length) (hn : i < xs.length → XT c ops fl f k r tt ((d, some (pat v sz i 0)) :: e) o) : XT c ops fl f k r (.q i0 tt) e o :=
  XT.q hi hok (Q.ix hx hy h0 h1) (hn (by have := ix.pf h0; omega))
theorem XT.append {t0 t1 el el1 : TypeId} [u : Und c.P t0 (.slice el)] [u1 : Und c.P t1 (.slice el1)] [z : TySize c.P el sz] {zs : List Value} [zz : Zero c.P el zs] {by' : Nat} [tb : TyBytes c.P el by']
    {x y : Operand} {v2 : Value} {h2 : PHeap} {ys : List α} {o1 : List PHeap} (hi : ops[i0]? = some ⟨some d, .call ⟨.builtin .append, #[x, y], #[t0, t1]⟩, ty, pos, aft, none⟩)
    (hok : okOper c.N ⟨some d, .call ⟨.builtin .append, #[x, y], #[t0, t1]⟩, ty, pos, aft, none⟩ = true) (hx : ev e x = some v) (hy : ev e y = some v2) [s : OArr v enc sz el h xs] [t : Take h o o1] [s2 : Arr v2 enc sz h2 ys] [m : InM h2 o1 (c.B :: r)]
    (hzs : zs.length = sz) (hby : Nat.ble by' 128 = true) (hn : xs.length + ys.length ≤ 68719476736)
    (hnx : ∀ v' h', OArr v' enc sz el h' (xs ++ ys) → Keeps bb f (h' :: o1) ∧ XT c ops fl f k r tt ((d, some v') :: e) (h' :: o1)) (hu : XT c ops fl f k r uu e o) : XT c ops fl f k r (.br i0 bb tt uu) e o :=
  XT.s hi hok (Stp.append hx hy hzs hby hn) (fun v' _ ⟨h', hO, h2⟩ => by subst h2; exact hnx v' h' hO) hu
theorem XT.make {t el : TypeId} [u : Und c.P t (.slice el)] [z : TySize c.P el sz] {zs : List Value} [zz : Zero c.P el zs] {by' : Nat} [tb : TyBytes c.P el by'] {x y : Operand} {kk k' : IntKind} {n n' : Int} {i : Nat}
    (enc : α → List Value) (x0 : α) (hi : ops[i0]? = some ⟨some d, .makeSlice t x y, ty, pos, aft, none⟩) (hok : okOper c.N ⟨some d, .makeSlice t x y, ty, pos, aft, none⟩ = true)
    (hx : ev e x = some (.int kk n)) (hy : ev e y = some (.int k' n')) (hnn : n = n') [ix : Idx n i] (h0 : 0 ≤ n) (h1 : n ≤ 68719476736)
    (henc : ∀ x, (enc x).length = sz) (hz : enc x0 = zs) (hsz : Nat.blt 0 sz = true) (hby : Nat.ble by' 128 = true) (ho : Ones (enc x0))
    (hnx : ∀ v' h', OArr v' enc sz el h' (List.replicate i x0) → Keeps bb f (h' :: o) ∧ XT c ops fl f k r tt ((d, some v') :: e) (h' :: o)) (hu : XT c ops fl f k r uu e o) : XT c ops fl f k r (.br i0 bb tt uu) e o :=
  XT.s hi hok (Stp.make enc x0 hx hy hnn h0 h1 henc hz hsz hby ho) (fun v' _ ⟨h', hO, h2⟩ => by subst h2; exact hnx v' h' hO) hu
theorem XT.lit {t el : TypeId} [u : Und c.P t (.slice el)] [z : TySize c.P el sz] {zs : List Value} [zz : Zero c.P el zs] {n : Nat} {l : List (Nat × Operand)} (zl cs : List Value) (xs : List α) (enc : α → List Value)
    (hi : ops[i0]? = some ⟨some d, .buildSlice t n l.toArray, ty, pos, aft, none⟩) (hok : okOper c.N ⟨some d, .buildSlice t n l.toArray, ty, pos, aft, none⟩ = true)
    (hzs : zs.length = sz) (hsz : Nat.blt 0 sz = true) (hn : Nat.ble (n * sz) 16777216 = true) (hzl : (List.replicate n zs).flatten = zl) (hf : Fill e (fun i => some (i * sz, sz)) l zl cs)
    (henc : ∀ x, (enc x).length = sz) (hcs : xs.flatMap enc = cs) (hxn : xs.length = n) (ho : Ones cs) (hle : Nat.ble n 16777216 = true)
    (hnx : ∀ v' h', OArr v' enc sz el h' xs → Keeps bb f (h' :: o) ∧ XT c ops fl f k r tt ((d, some v') :: e) (h' :: o)) (hu : XT c ops fl f k r uu e o) : XT c ops fl f k r (.br i0 bb tt uu) e o :=
  XT.s hi hok ((Makes.lit cs hzs hsz hn (by rw [hzl]; exact hf)).stp _ _) (fun v' o' ⟨b, hv, ho'⟩ => by subst hv ho'; exact hnx _ _ (OArr.lit xs enc henc hcs hxn ho hle)) hu
theorem XT.alloc {t : TypeId} {zs : List Value} [z : Zero c.P t zs] (hi : ops[i0]? = some ⟨some d, .alloc t, ty, pos, aft, none⟩) (hok : okOper c.N ⟨some d, .alloc t, ty, pos, aft, none⟩ = true)
    (hn : ∀ b, Keeps bb f (blk b zs t :: o) ∧ XT c ops fl f k r tt ((d, some (ptr b 0)) :: e) (blk b zs t :: o)) (hu : XT c ops fl f k r uu e o) : XT c ops fl f k r (.br i0 bb tt uu) e o :=
  XT.s hi hok (Makes.alloc.stp _ _) (fun v' o' ⟨b, hv, ho'⟩ => by subst hv ho'; exact hn b) hu
theorem XT.box {t : TypeId} {x : Operand} {v : Value} {cs : List Value} (hi : ops[i0]? = some ⟨some d, .box t x, ty, pos, aft, none⟩) (hok : okOper c.N ⟨some d, .box t x, ty, pos, aft, none⟩ = true) (hx : ev e x = some v) [hc : Cells v cs]
    (hn : ∀ b, Keeps bb f (blk b cs t :: o) ∧ XT c ops fl f k r tt ((d, some (ptr b 0)) :: e) (blk b cs t :: o)) (hu : XT c ops fl f k r uu e o) : XT c ops fl f k r (.br i0 bb tt uu) e o :=
  XT.s hi hok ((Makes.box hx).stp _ _) (fun v' o' ⟨b, hv, ho'⟩ => by subst hv ho'; exact hn b) hu
theorem XT.st {t : TypeId} {n : Nat} [s : TySize c.P t n] {x y : Operand} {b i : Nat} {v : Value} {vs : List Value} {o' : List PHeap} (hi : ops[i0]? = some ⟨none, .store t x y, ty, pos, aft, none⟩) (hok : okOper c.N ⟨none, .store t x y, ty, pos, aft, none⟩ = true)
    (hx : ev e x = some (ptr b i)) (hy : ev e y = some v) [hc : Cells v vs] [ho : Ones vs] (hl : vs.length = n) [u : Upd b i vs o o'] (hn : Keeps bb f o' ∧ XT c ops fl f k r tt e o') (hu : XT c ops fl f k r uu e o) :
    XT c ops fl f k r (.br i0 bb tt uu) e o := XT.s0 hi hok (Stp.st hx hy hl) (fun _ _ ⟨_, h2⟩ => by subst h2; exact hn) hu
theorem XT.stE [Inhabited α] {t n T : TypeId} [z : TySize c.P t n] {x y : Operand} {i kk : Nat} {o1 : List PHeap} {u : Value} {us : List Value} (x' : α) (hi0 : ops[i0]? = some ⟨none, .store t x y, ty, pos, aft, none⟩)
    (hok : okOper c.N ⟨none, .store t x y, ty, pos, aft, none⟩ = true) (hx : ev e x = some (pat v sz i kk)) (hy : ev e y = some u)
    [hc : Cells u us] [ho : Ones us] (hl : us.length = n) [s : OArr v enc sz T h xs] [tk : Take h o o1] (hi : i < xs.length)
    (hx' : enc x' = (enc (xs.getD i default)).take kk ++ us ++ (enc (xs.getD i default)).drop (kk + n)) (hk : Nat.ble (kk + n) sz = true)
    (hnx : ∀ h', OArr v enc sz T h' (xs.set i x') → Keeps bb f (h' :: o1) ∧ XT c ops fl f k r tt e (h' :: o1)) (hu : XT c ops fl f k r uu e o) : XT c ops fl f k r (.br i0 bb tt uu) e o :=
  XT.s0 hi0 hok (Stp.stE x' hx hy hl hi hx' hk) (fun v' _ ⟨h', hO, h2⟩ => by subst h2; exact hnx h' hO) hu
theorem XT.call {g : FuncId} {x : Operand} {l : List Operand} {tys : Array TypeId} {fst vs cap A : List Value} {Hm Hr : List PHeap} {R : Value → List PHeap → Prop} {o1 : List PHeap}
    (hi : ops[i0]? = some ⟨some d, .call ⟨.value x, l.toArray, tys⟩, ty, pos, aft, none⟩) (hok : okOper c.N ⟨some d, .call ⟨.value x, l.toArray, tys⟩, ty, pos, aft, none⟩ = true)
    (hc : ∀ args w, (callFunc g args).run c.P w = .ok (.enter g args) w) (hx : ev e x = some (.func (.func g) fst.toArray cap.toArray)) (hl : evs e l = some vs) (hA : fst ++ vs ++ cap = A)
    (hS : Spec c.P g A.toArray Hm Hr R) [t : Takes Hm o o1] [al : AllIn Hr o1 (c.B :: r)] (h : ∀ v hs, R v hs → Keeps bb f (hs ++ o1) ∧ XT c ops fl f k r tt ((d, some v) :: e) (hs ++ o1)) (hu : XT c ops fl f k r uu e o) :
    XT c ops fl f k r (.br i0 bb tt uu) e o := XT.s hi hok (Stp.call hc hx hl hA hS) (fun v o2 ⟨hs, hR, h2⟩ => by subst h2; exact h v hs hR) hu
theorem XT.callB {g : FuncId} {x : Operand} {l : List Operand} {tys : Array TypeId} {fst vs cap A : List Value} {Hr : List PHeap} {R : Value → List PHeap → Prop} {o1 : List PHeap} (b : Nat) {cs : List Value} {T : TypeId} [hb : HasL b o cs T]
    [t : Take (blk b cs T) o o1] (hi : ops[i0]? = some ⟨some d, .call ⟨.value x, l.toArray, tys⟩, ty, pos, aft, none⟩) (hok : okOper c.N ⟨some d, .call ⟨.value x, l.toArray, tys⟩, ty, pos, aft, none⟩ = true)
    (hc : ∀ args w, (callFunc g args).run c.P w = .ok (.enter g args) w) (hx : ev e x = some (.func (.func g) fst.toArray cap.toArray)) (hl : evs e l = some vs) (hA : fst ++ vs ++ cap = A)
    (hS : Spec c.P g A.toArray [blk b cs T] Hr R) [al : AllIn Hr o1 (c.B :: r)] (h : ∀ v hs, R v hs → Keeps bb f (hs ++ o1) ∧ XT c ops fl f k r tt ((d, some v) :: e) (hs ++ o1)) (hu : XT c ops fl f k r uu e o) :
    XT c ops fl f k r (.br i0 bb tt uu) e o :=
  XT.s hi hok (Stp.call (Hm := [blk b cs T]) (o1 := o1) (t := ⟨t.pf⟩) hc hx hl hA hS) (fun v o2 ⟨hs, hR, h2⟩ => by subst h2; exact h v hs hR) hu
end
end Go.X

/- Guarded calls that only compute; guards as propositions. No condition. -/
set_option linter.unusedSimpArgs false
set_option linter.unusedVariables false
namespace Go.X
inductive EvL (e : Env) : List Operand → List Value → Prop
  | n : EvL e [] []
  | c {x : Operand} {l : List Operand} {v : Value} {vs : List Value} (h : ev e x = some v) (r : EvL e l vs) : EvL e (x :: l) (v :: vs)
theorem EvL.rel {e : Env} {a : Array Value} (he : ERel e a) {l : List Operand} {vs : List Value} (h : EvL e l vs) : l.map (evA a) = vs := by
  induction h with
  | n => rfl
  | c h r ih => rw [List.map_cons, ev_rel he h, ih]
section
variable {P : Program} {ops : Array Oper} {e : Env} {o r : List PHeap} {d : Option Tmp} {ty : TypeId} {pos : String} {aft : Array Edge}
theorem Quiet.guardT {op : Op} {v : Value} {j : Nat} {b : Bool} {g : Nat} {p : Prop} (hj : (ops[j]?).bind (·.dst) = some g) (hg : find e g = some (.bool b)) [t : BoolP b p]
    (h : b = true → p → Quiet P ops ⟨d, op, ty, pos, aft, none⟩ e o r v) : Quiet P ops ⟨d, op, ty, pos, aft, some (j, true)⟩ e o r (lz b true v) :=
  Quiet.guard hj hg fun hb => h hb (t.pf.1 hb)
theorem Quiet.guardF {op : Op} {v : Value} {j : Nat} {b : Bool} {g : Nat} {p : Prop} (hj : (ops[j]?).bind (·.dst) = some g) (hg : find e g = some (.bool b)) [t : BoolP b p]
    (h : b = false → ¬ p → Quiet P ops ⟨d, op, ty, pos, aft, none⟩ e o r v) : Quiet P ops ⟨d, op, ty, pos, aft, some (j, false)⟩ e o r (lz b false v) :=
  Quiet.guard hj hg fun hb => h hb (fun hp => by rw [t.pf.2 hp] at hb; cases hb)
theorem wanted_guard {j : Nat} {want b : Bool} {g : Nat} {a : Array Value} {op : Op} (hj : (ops[j]?).bind (·.dst) = some g) (hv : a.getD g undef = .bool b) :
    Region.wanted ⟨d, op, ty, pos, aft, some (j, want)⟩ (yielded ops a) = (b == want) := by
  have hy : yielded ops a j = some b := by
    unfold yielded
    rw [hj]
    simp only [Option.bind_some]
    have hlt : g < a.size := by
      rcases Nat.lt_or_ge g a.size with h' | h'
      · exact h'
      · simp [Array.getElem?_eq_none h', undef] at hv
    simp only [Array.getElem?_eq_getElem hlt]
    have : a[g] = .bool b := by simpa [hlt] using hv
    rw [this]
  simp [Region.wanted, hy]
/-- A call that only computes, under a guard. -/
theorem Stp.gcall {g : FuncId} {x : Operand} {l : List Operand} {tys : Array TypeId} {fst vs cap A : List Value} {Hr : List PHeap} {u : Value} {j gt : Nat} {want b : Bool} (hj : (ops[j]?).bind (·.dst) = some gt) (hg : find e gt = some (.bool b))
    (hc : ∀ args w, (callFunc g args).run P w = .ok (.enter g args) w) (hx : ev e x = some (.func (.func g) fst.toArray cap.toArray)) (hl : b = want → EvL e l vs) (hA : fst ++ vs ++ cap = A)
    (hS : b = want → Spec P g A.toArray [] Hr (fun v hs => v = u ∧ hs = [])) [al : AllIn Hr o r] :
    Stp P ops ⟨d, .call ⟨.value x, l.toArray, tys⟩, ty, pos, aft, some (j, want)⟩ e o r (fun v o2 => v = lz b want u ∧ o2 = o) := fun D a w he hs => by
  have hw := wanted_guard (d := d) (ty := ty) (pos := pos) (aft := aft) (want := want) (op := .call ⟨.value x, l.toArray, tys⟩) hj (he gt _ hg)
  by_cases hb : b = want
  · have hrun : (execOp (evA a) (⟨d, .call ⟨.value x, l.toArray, tys⟩, ty, pos, aft, some (j, want)⟩ : Oper)).run P w = .ok (.enter g A.toArray) w := by
      simp only [execOp, resolve, ev_rel he hx, List.map_toArray, (hl hb).rel he]
      have e1 : (Deferred.ofValue (.func (.func g) fst.toArray cap.toArray) vs.toArray).run P w = .ok { target := .fn (.func g) cap.toArray, args := fst.toArray ++ vs.toArray } w := rfl
      rw [bind_ok e1]
      simp only [invoke]
      rw [hc]
      simp [← hA]
    unfold Does
    rw [hw, if_pos (by simp [hb]), hrun]
    simp only
    refine (hS hb (D :: o) r w hs (fun h hh => orMap (al.pf h hh) (List.mem_cons_of_mem _) (fun h => h))).mono ?_
    rintro e' w' ⟨v, hs', rfl, ⟨rfl, rfl⟩, hS'⟩
    exact ⟨v, rfl, D :: o, ⟨o, ⟨by simp [lz, hb], rfl⟩, List.Perm.refl _⟩, hS'⟩
  · unfold Does
    rw [hw, if_neg (by simpa using hb)]
    exact ⟨D :: o, ⟨o, ⟨by simp [lz, hb], rfl⟩, List.Perm.refl _⟩, hs⟩
end
section
variable {c : Cx} {ops : Array Oper} {rest : List Oper} {k : List Item} {e : Env} {o r : List PHeap} {d : Nat} {ty : TypeId} {pos : String} {aft : Array Edge}
theorem XO.gcallT {g : FuncId} {x : Operand} {l : List Operand} {tys : Array TypeId} {fst vs cap A : List Value} {Hr : List PHeap} {u : Value} {j gt : Nat} {b : Bool} {p : Prop} (hj : (ops[j]?).bind (·.dst) = some gt) (hg : find e gt = some (.bool b)) [t : BoolP b p]
    (hc : ∀ args w, (callFunc g args).run c.P w = .ok (.enter g args) w) (hx : ev e x = some (.func (.func g) fst.toArray cap.toArray)) (hl : b = true → EvL e l vs) (hA : fst ++ vs ++ cap = A)
    (hS : b = true → p → Spec c.P g A.toArray [] Hr (fun v hs => v = u ∧ hs = [])) [al : AllIn Hr o (c.B :: r)] (h : XO c ops rest k ((d, some (lz b true u)) :: e) o r) :
    XO c ops (⟨some d, .call ⟨.value x, l.toArray, tys⟩, ty, pos, aft, some (j, true)⟩ :: rest) k e o r :=
  XO.s (Stp.gcall hj hg hc hx hl hA (fun hb => hS hb (t.pf.1 hb))) fun v o2 ⟨h1, h2⟩ => by subst h1 h2; exact h
theorem XO.gcallF {g : FuncId} {x : Operand} {l : List Operand} {tys : Array TypeId} {fst vs cap A : List Value} {Hr : List PHeap} {u : Value} {j gt : Nat} {b : Bool} {p : Prop} (hj : (ops[j]?).bind (·.dst) = some gt) (hg : find e gt = some (.bool b)) [t : BoolP b p]
    (hc : ∀ args w, (callFunc g args).run c.P w = .ok (.enter g args) w) (hx : ev e x = some (.func (.func g) fst.toArray cap.toArray)) (hl : b = false → EvL e l vs) (hA : fst ++ vs ++ cap = A)
    (hS : b = false → ¬ p → Spec c.P g A.toArray [] Hr (fun v hs => v = u ∧ hs = [])) [al : AllIn Hr o (c.B :: r)] (h : XO c ops rest k ((d, some (lz b false u)) :: e) o r) :
    XO c ops (⟨some d, .call ⟨.value x, l.toArray, tys⟩, ty, pos, aft, some (j, false)⟩ :: rest) k e o r :=
  XO.s (Stp.gcall hj hg hc hx hl hA (fun hb => hS hb (fun hp => by rw [t.pf.2 hp] at hb; cases hb))) fun v o2 ⟨h1, h2⟩ => by subst h1 h2; exact h
/-- A guard that is known. -/
theorem XO.gT {op : Op} {j gt : Nat} {want b : Bool} (hj : (ops[j]?).bind (·.dst) = some gt) (hg : find e gt = some (.bool b)) (hb : b = want) (h : XO c ops (⟨some d, op, ty, pos, aft, none⟩ :: rest) k e o r)
    : True := trivial
variable {fl : List Nat} {f : List PHeap} {i0 : Nat} {bb : Bool} {tt uu : Plan}
theorem XT.gcallT {g : FuncId} {x : Operand} {l : List Operand} {tys : Array TypeId} {fst vs cap A : List Value} {Hr : List PHeap} {u : Value} {j gt : Nat} {b : Bool} {p : Prop}
    (hi : ops[i0]? = some ⟨some d, .call ⟨.value x, l.toArray, tys⟩, ty, pos, aft, some (j, true)⟩) (hok : okOper c.N ⟨some d, .call ⟨.value x, l.toArray, tys⟩, ty, pos, aft, some (j, true)⟩ = true)
    (hj : (ops[j]?).bind (·.dst) = some gt) (hg : find e gt = some (.bool b)) [t : BoolP b p]
    (hc : ∀ args w, (callFunc g args).run c.P w = .ok (.enter g args) w) (hx : ev e x = some (.func (.func g) fst.toArray cap.toArray)) (hl : b = true → EvL e l vs) (hA : fst ++ vs ++ cap = A)
    (hS : b = true → p → Spec c.P g A.toArray [] Hr (fun v hs => v = u ∧ hs = [])) [al : AllIn Hr o (c.B :: r)] (h : Keeps bb f o ∧ XT c ops fl f k r tt ((d, some (lz b true u)) :: e) o) (hu : XT c ops fl f k r uu e o) :
    XT c ops fl f k r (.br i0 bb tt uu) e o :=
  XT.s hi hok (Stp.gcall hj hg hc hx hl hA (fun hb => hS hb (t.pf.1 hb))) (fun v o2 ⟨h1, h2⟩ => by subst h1 h2; exact h) hu
theorem XT.gcallF {g : FuncId} {x : Operand} {l : List Operand} {tys : Array TypeId} {fst vs cap A : List Value} {Hr : List PHeap} {u : Value} {j gt : Nat} {b : Bool} {p : Prop}
    (hi : ops[i0]? = some ⟨some d, .call ⟨.value x, l.toArray, tys⟩, ty, pos, aft, some (j, false)⟩) (hok : okOper c.N ⟨some d, .call ⟨.value x, l.toArray, tys⟩, ty, pos, aft, some (j, false)⟩ = true)
    (hj : (ops[j]?).bind (·.dst) = some gt) (hg : find e gt = some (.bool b)) [t : BoolP b p]
    (hc : ∀ args w, (callFunc g args).run c.P w = .ok (.enter g args) w) (hx : ev e x = some (.func (.func g) fst.toArray cap.toArray)) (hl : b = false → EvL e l vs) (hA : fst ++ vs ++ cap = A)
    (hS : b = false → ¬ p → Spec c.P g A.toArray [] Hr (fun v hs => v = u ∧ hs = [])) [al : AllIn Hr o (c.B :: r)] (h : Keeps bb f o ∧ XT c ops fl f k r tt ((d, some (lz b false u)) :: e) o) (hu : XT c ops fl f k r uu e o) :
    XT c ops fl f k r (.br i0 bb tt uu) e o :=
  XT.s hi hok (Stp.gcall hj hg hc hx hl hA (fun hb => hS hb (fun hp => by rw [t.pf.2 hp] at hb; cases hb))) (fun v o2 ⟨h1, h2⟩ => by subst h1 h2; exact h) hu
end
end Go.X

/- Calls of function values; loops over functions. No condition. -/
set_option linter.unusedSimpArgs false
set_option linter.unusedVariables false
namespace Go.X

/-! ### several heaps as one -/
def join : List PHeap → PHeap
  | [] => emp
  | h :: t => ⟨fun b => (h b).or (join t b), none⟩
theorem join_none {hs : List PHeap} {b : Nat} : join hs b = none ↔ ∀ h ∈ hs, h b = none := by
  induction hs with
  | nil => simp [join, emp]
  | cons h t ih => simp [join, ih]
theorem join_mem {hs : List PHeap} {b : Nat} {ob : Obj} (h : join hs b = some ob) : ∃ g ∈ hs, g b = some ob := by
  induction hs with
  | nil => cases h
  | cons g t ih =>
    simp only [join] at h
    cases hg : g b with
    | some x =>
      rw [hg] at h
      exact ⟨g, List.mem_cons_self, by rw [hg]; simpa using h⟩
    | none =>
      rw [hg] at h
      obtain ⟨g', h1, h2⟩ := ih (by simpa using h)
      exact ⟨g', List.mem_cons_of_mem _ h1, h2⟩
theorem mem_join {hs : List PHeap} {b : Nat} {ob : Obj} (hp : hs.Pairwise Disj) {g : PHeap} (hg : g ∈ hs) (h : g b = some ob) : join hs b = some ob := by
  induction hs with
  | nil => cases hg
  | cons x t ih =>
    simp only [join]
    rcases List.mem_cons.1 hg with rfl | hg
    · rw [h]; rfl
    · have h1 := (List.pairwise_cons.1 hp).1 g hg b
      rw [h] at h1
      rw [h1.resolve_right (by simp)]
      simpa using ih (List.pairwise_cons.1 hp).2 hg
theorem join_disj {hs : List PHeap} {g : PHeap} : Disj (join hs) g ↔ ∀ h ∈ hs, Disj h g := by
  constructor
  · intro h x hx b
    rcases h b with h1 | h1
    · exact .inl (join_none.1 h1 x hx)
    · exact .inr h1
  · intro h b
    by_cases hg : g b = none
    · exact .inr hg
    · left
      exact join_none.2 fun x hx => (h x hx b).resolve_right hg
theorem join_m (hs : List PHeap) : (join hs).m = none := by cases hs <;> rfl
theorem Sep.join {hs o r : List PHeap} {w : World} (s : Sep (hs ++ o) r w) : Sep (X.join hs :: o) r w where
  pw := List.pairwise_cons.2 ⟨fun g hg => join_disj.2 fun h hh => (List.pairwise_append.1 s.pw).2.2 h hh g hg, s.right.pw⟩
  dr := fun h hh g hg => by
    rcases List.mem_cons.1 hh with rfl | hh
    · exact join_disj.2 fun x hx => s.dr x (List.mem_append_left _ hx) g hg
    · exact s.dr h (List.mem_append_right _ hh) g hg
  so := fun h hh => by
    rcases List.mem_cons.1 hh with rfl | hh
    · intro b ob hb
      obtain ⟨g, h1, h2⟩ := join_mem hb
      exact s.so g (List.mem_append_left _ h1) b ob h2
    · exact s.so h (List.mem_append_right _ hh)
  sr := s.sr
  no := fun h hh => by
    rcases List.mem_cons.1 hh with rfl | hh
    · exact join_m hs
    · exact s.no h (List.mem_append_right _ hh)
  sm := s.sm
def PD (hs : List PHeap) : Prop := hs.Pairwise Disj ∧ ∀ h ∈ hs, h.m = none
theorem Sep.split {hs o r : List PHeap} {w : World} (hpd : PD hs) (s : Sep (X.join hs :: o) r w) : Sep (hs ++ o) r w where
  pw := List.pairwise_append.2 ⟨hpd.1, (List.pairwise_cons.1 s.pw).2, fun h hh g hg => join_disj.1 ((List.pairwise_cons.1 s.pw).1 g hg) h hh⟩
  dr := fun h hh g hg => by
    rcases List.mem_append.1 hh with hh | hh
    · exact join_disj.1 (s.dr _ List.mem_cons_self g hg) h hh
    · exact s.dr h (List.mem_cons_of_mem _ hh) g hg
  so := fun h hh => by
    rcases List.mem_append.1 hh with hh | hh
    · exact fun b ob hb => s.so _ List.mem_cons_self b ob (mem_join hpd.1 hh hb)
    · exact s.so h (List.mem_cons_of_mem _ hh)
  sr := s.sr
  no := fun h hh => by
    rcases List.mem_append.1 hh with hh | hh
    · exact hpd.2 h hh
    · exact s.no h (List.mem_cons_of_mem _ hh)
  sm := s.sm

/-! ### the frame of a call -/
theorem frame_in {Hm Hr o r : List PHeap} {w : World} (hs : Sep (Hm ++ o) r w) (hr : ∀ h ∈ Hr, h ∈ o ∨ h ∈ r) : Sep Hm (hole w Hm :: Hr) w := by
  have hdis : ∀ h ∈ Hr, ∀ g ∈ Hm, Disj g h := fun h hh g hg => by
    rcases hr h hh with h1 | h1
    · exact (List.pairwise_append.1 hs.pw).2.2 g hg h h1
    · exact hs.dr g (List.mem_append_left _ hg) h h1
  have hsub : ∀ h ∈ Hr, sub h w := fun h hh => by
    rcases hr h hh with h1 | h1
    · exact hs.so h (List.mem_append_right _ h1)
    · exact hs.sr h h1
  refine ⟨hs.left.pw, ?_, hs.left.so, ?_, hs.left.no, ?_⟩
  · intro g hg x hx
    rcases List.mem_cons.1 hx with rfl | hx
    · intro b
      by_cases hn : g b = none
      · exact .inl hn
      · right
        unfold hole; dsimp only
        rw [if_pos ⟨g, hg, hn⟩]
    · exact hdis x hx g hg
  · intro x hx
    rcases List.mem_cons.1 hx with rfl | hx
    · intro b ob hb
      unfold hole at hb; dsimp only at hb
      split at hb
      · cases hb
      · exact hb
    · exact hsub x hx
  · intro x hx m hm
    rcases List.mem_cons.1 hx with rfl | hx
    · exact Option.some.inj hm
    · rcases hr x hx with h1 | h1
      · rw [hs.right.no x h1] at hm; cases hm
      · exact hs.sm x h1 m hm
theorem frame_out {Hm hs' o r : List PHeap} {w w' : World} (hs : Sep (Hm ++ o) r w) (hS' : Sep hs' [hole w Hm] w') : Sep (hs' ++ o) r w' := by
  have hBw : ∀ b ob, hole w Hm b = some ob → w'.heap[b]? = some ob := hS'.sr (hole w Hm) List.mem_cons_self
  have hfr : ∀ h, sub h w → (∀ g ∈ Hm, Disj g h) → sub h w' ∧ ∀ x ∈ hs', Disj x h := fun h h1 h2 =>
    ⟨fun b ob hb => hBw b ob (le_hole h1 h2 hb), fun x hx b => by
      rcases hS'.dr x hx (hole w Hm) List.mem_cons_self b with h3 | h3
      · exact .inl h3
      · right
        cases hh : h b with
        | none => rfl
        | some ob => rw [le_hole h1 h2 hh] at h3; cases h3⟩
  have ho : ∀ h ∈ o, sub h w ∧ ∀ g ∈ Hm, Disj g h := fun h hh => ⟨hs.right.so h hh, fun g hg => (List.pairwise_append.1 hs.pw).2.2 g hg h hh⟩
  have hrr : ∀ h ∈ r, sub h w ∧ ∀ g ∈ Hm, Disj g h := fun h hh => ⟨hs.sr h hh, fun g hg => hs.dr g (List.mem_append_left _ hg) h hh⟩
  have hmt : mt w' = mt w := hS'.sm _ List.mem_cons_self _ rfl
  refine ⟨List.pairwise_append.2 ⟨hS'.pw, hs.right.pw, fun x hx h hh => (hfr h (ho h hh).1 (ho h hh).2).2 x hx⟩, ?_, ?_, ?_, ?_, fun g hg m hm => hmt.trans (hs.sm g hg m hm)⟩
  · intro x hx g hg
    rcases List.mem_append.1 hx with hx | hx
    · exact (hfr g (hrr g hg).1 (hrr g hg).2).2 x hx
    · exact hs.right.dr x hx g hg
  · intro x hx
    rcases List.mem_append.1 hx with hx | hx
    · exact hS'.so x hx
    · exact (hfr x (ho x hx).1 (ho x hx).2).1
  · exact fun g hg => (hfr g (hrr g hg).1 (hrr g hg).2).1
  · intro x hx
    rcases List.mem_append.1 hx with hx | hx
    · exact hS'.no x hx
    · exact hs.right.no x hx

/-! ### function values -/
def NDoes (P : Program) (s : Sem Next) (w : World) (Post : Value → World → Prop) : Prop :=
  match s.run P w with
  | .ok (.enter g args) w' => Calls P g args w' fun e w'' => ∃ v, e = .returned v ∧ Post v w''
  | .ok (.round l g tmps assign body) w' => Rounds P l g tmps assign body w' Post
  | _ => False
def callv (y : Value) (args : Array Value) : Sem Next := do
  let d ← Deferred.ofValue y args
  invoke d.target d.args
/-- A call of the function value y. -/
def VSpec (P : Program) (y : Value) (args : List Value) (Hm Hr : List PHeap) (R : Value → List PHeap → Prop) : Prop :=
  ∀ o r w, Sep (Hm ++ o) r w → (∀ h ∈ Hr, h ∈ o ∨ h ∈ r) → NDoes P (callv y args.toArray) w fun v w' => ∃ hs, R v hs ∧ Sep (hs ++ o) r w'
theorem VSpec.fn {P : Program} {g : FuncId} {fst vs cap A : List Value} {Hm Hr : List PHeap} {R : Value → List PHeap → Prop}
    (hc : ∀ args w, (callFunc g args).run P w = .ok (.enter g args) w) (hA : fst ++ vs ++ cap = A) (hS : Spec P g A.toArray Hm Hr R) :
    VSpec P (.func (.func g) fst.toArray cap.toArray) vs Hm Hr R := fun o r w hs hr => by
  unfold NDoes
  have hrun : (callv (.func (.func g) fst.toArray cap.toArray) vs.toArray).run P w = .ok (.enter g A.toArray) w := by
    unfold callv
    have e1 : (Deferred.ofValue (.func (.func g) fst.toArray cap.toArray) vs.toArray).run P w = .ok { target := .fn (.func g) cap.toArray, args := fst.toArray ++ vs.toArray } w := rfl
    rw [bind_ok e1]
    simp only [invoke]
    rw [hc]
    simp [← hA]
  rw [hrun]
  refine (hS o r w hs hr).mono ?_
  rintro e w' ⟨v, hs', rfl, hR, hS'⟩
  exact ⟨v, rfl, hs', hR, hS'⟩
section
variable {P : Program} {ops : Array Oper} {e : Env} {o r : List PHeap} {d : Option Tmp} {ty : TypeId} {pos : String} {aft : Array Edge}
theorem NDoes.does {x : Operand} {l : List Operand} {tys : Array TypeId} {y : Value} {vs : List Value} {a : Array Value} {w : World} (he : ERel e a) (hx : ev e x = some y) (hl : evs e l = some vs)
    {g : Option (Nat × Bool)} (hg : Region.wanted (⟨d, .call ⟨.value x, l.toArray, tys⟩, ty, pos, aft, g⟩ : Oper) (yielded ops a) = true)
    {Post : Value → World → Prop} (h : NDoes P (callv y vs.toArray) w Post) : Does P ops ⟨d, .call ⟨.value x, l.toArray, tys⟩, ty, pos, aft, g⟩ a w Post := by
  have hx' : (execOp (evA a) (⟨d, .call ⟨.value x, l.toArray, tys⟩, ty, pos, aft, g⟩ : Oper)) = callv y vs.toArray := by
    simp only [execOp, resolve, ev_rel he hx, List.map_toArray, evs_rel he hl, callv]
  unfold Does
  rw [hg, if_pos rfl, hx']
  unfold NDoes at h
  split at h <;> rename_i heq
  · rw [heq]; exact h
  · rw [heq]; exact h
  · exact h.elim
theorem Stp.vcall {x : Operand} {l : List Operand} {tys : Array TypeId} {y : Value} {vs : List Value} {Hm Hr : List PHeap} {R : Value → List PHeap → Prop} {o1 : List PHeap}
    (hx : ev e x = some y) (hl : evs e l = some vs) (hS : VSpec P y vs Hm Hr R) [t : Takes Hm o o1] [al : AllIn Hr o1 r] :
    Stp P ops ⟨d, .call ⟨.value x, l.toArray, tys⟩, ty, pos, aft, none⟩ e o r (fun v o2 => ∃ hs, R v hs ∧ o2 = hs ++ o1) := fun D a w he hs => by
  refine NDoes.does he hx hl (by simp [Region.wanted]) ?_
  have h := hS (D :: o1) r w (hs.perm (t.more D).pf) (al.more D).pf
  unfold NDoes at *
  split at h <;> rename_i heq
  · refine h.mono ?_
    rintro e' w' ⟨v, rfl, hs', hR, hS'⟩
    exact ⟨v, rfl, hs' ++ D :: o1, ⟨hs' ++ o1, ⟨hs', hR, rfl⟩, List.perm_middle⟩, hS'⟩
  · intro c0 cs
    obtain ⟨v, w', ⟨hs', hR, hS'⟩, st⟩ := h c0 cs
    exact ⟨v, w', ⟨hs' ++ D :: o1, ⟨hs' ++ o1, ⟨hs', hR, rfl⟩, List.perm_middle⟩, hS'⟩, st⟩
  · exact h.elim
/-- Under a guard: it is called, or not. -/
theorem Stp.gvcall {x : Operand} {l : List Operand} {tys : Array TypeId} {y : Value} {vs : List Value} {Hm Hr : List PHeap} {R : Value → List PHeap → Prop} {o1 : List PHeap} {j gt : Nat} {want b : Bool}
    (hj : (ops[j]?).bind (·.dst) = some gt) (hg : find e gt = some (.bool b)) (hx : b = want → ev e x = some y) (hl : b = want → EvL e l vs) (hS : b = want → VSpec P y vs Hm Hr R) [t : Takes Hm o o1] [al : AllIn Hr o1 r] :
    Stp P ops ⟨d, .call ⟨.value x, l.toArray, tys⟩, ty, pos, aft, some (j, want)⟩ e o r
      (fun v o2 => (b = want ∧ ∃ hs, R v hs ∧ o2 = hs ++ o1) ∨ (b ≠ want ∧ v = undef ∧ o2 = o)) := fun D a w he hs => by
  have hw := wanted_guard (d := d) (ty := ty) (pos := pos) (aft := aft) (want := want) (op := .call ⟨.value x, l.toArray, tys⟩) hj (he gt _ hg)
  by_cases hb : b = want
  · have hw' : Region.wanted (⟨d, .call ⟨.value x, l.toArray, tys⟩, ty, pos, aft, some (j, want)⟩ : Oper) (yielded ops a) = true := by rw [hw]; simp [hb]
    have hx' : (execOp (evA a) (⟨d, .call ⟨.value x, l.toArray, tys⟩, ty, pos, aft, some (j, want)⟩ : Oper)) = callv y vs.toArray := by
      simp only [execOp, resolve, ev_rel he (hx hb), List.map_toArray, (hl hb).rel he, callv]
    have h := hS hb (D :: o1) r w (hs.perm (t.more D).pf) (al.more D).pf
    unfold Does
    rw [hw', if_pos rfl, hx']
    unfold NDoes at h
    split at h <;> rename_i heq
    · rw [heq]
      refine h.mono ?_
      rintro e' w' ⟨v, rfl, hs', hR, hS'⟩
      exact ⟨v, rfl, hs' ++ D :: o1, ⟨hs' ++ o1, .inl ⟨hb, hs', hR, rfl⟩, List.perm_middle⟩, hS'⟩
    · rw [heq]
      intro c0 cs
      obtain ⟨v, w', ⟨hs', hR, hS'⟩, st⟩ := h c0 cs
      exact ⟨v, w', ⟨hs' ++ D :: o1, ⟨hs' ++ o1, .inl ⟨hb, hs', hR, rfl⟩, List.perm_middle⟩, hS'⟩, st⟩
    · exact h.elim
  · unfold Does
    rw [hw, if_neg (by simpa using hb)]
    exact ⟨D :: o, ⟨o, .inr ⟨hb, rfl, rfl⟩, List.Perm.refl _⟩, hs⟩
end
section
variable {c : Cx} {ops : Array Oper} {rest : List Oper} {k : List Item} {e : Env} {o r : List PHeap} {d : Nat} {ty : TypeId} {pos : String} {aft : Array Edge}
theorem XO.vcall {x : Operand} {l : List Operand} {tys : Array TypeId} {y : Value} {vs : List Value} {Hm Hr : List PHeap} {R : Value → List PHeap → Prop} {o1 : List PHeap}
    (hx : ev e x = some y) (hl : evs e l = some vs) (hS : VSpec c.P y vs Hm Hr R) [t : Takes Hm o o1] [al : AllIn Hr o1 (c.B :: r)] (h : ∀ v hs, R v hs → XO c ops rest k ((d, some v) :: e) (hs ++ o1) r) :
    XO c ops (⟨some d, .call ⟨.value x, l.toArray, tys⟩, ty, pos, aft, none⟩ :: rest) k e o r := XO.s (Stp.vcall hx hl hS) fun v o2 ⟨hs, hR, h2⟩ => by subst h2; exact h v hs hR
theorem XO.gvcall {x : Operand} {l : List Operand} {tys : Array TypeId} {y : Value} {vs : List Value} {Hm Hr : List PHeap} {R : Value → List PHeap → Prop} {o1 : List PHeap} {j gt : Nat} {want b : Bool}
    (hj : (ops[j]?).bind (·.dst) = some gt) (hg : find e gt = some (.bool b)) (hx : b = want → ev e x = some y) (hl : b = want → EvL e l vs) (hS : b = want → VSpec c.P y vs Hm Hr R) [t : Takes Hm o o1] [al : AllIn Hr o1 (c.B :: r)]
    (h : b = want → ∀ v hs, R v hs → XO c ops rest k ((d, some v) :: e) (hs ++ o1) r) (h' : b ≠ want → XO c ops rest k ((d, some undef) :: e) o r) :
    XO c ops (⟨some d, .call ⟨.value x, l.toArray, tys⟩, ty, pos, aft, some (j, want)⟩ :: rest) k e o r :=
  XO.s (Stp.gvcall hj hg hx hl hS) fun v o2 hh => by
    rcases hh with ⟨hb, hs, hR, h2⟩ | ⟨hb, rfl, rfl⟩
    · subst h2; exact h hb v hs hR
    · exact h' hb
end
end Go.X
