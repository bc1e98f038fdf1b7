/- A part of the proof: a small program logic, plain laws and contracts of functions, each proved by a walk through its operations. No condition but those that stand in each theorem. -/
import Derived.Test.YtfenlpoaphbfgaaA1
import Derived.Carry
import Derived.Deep.Grids
import Derived.Lib.AppendZeros
import Derived.OpenShut
import Derived.ProofKit
import Derived.SizedLaws
/- Loops over functions: the rounds, the loop, an iterator's contract. No condition. -/
set_option linter.unusedSimpArgs false
set_option linter.unusedVariables false
namespace Go.X

/-! ### a round -/
def rdy (l : Nat) (rec : Loop) : PHeap := sing l (.loop { rec with state := .ready, pending := none })
def bsy (l : Nat) (rec : Loop) : PHeap := sing l (.loop { rec with state := .busy, pending := none })
def ovr (l : Nat) (rec : Loop) (j : Option Code) : PHeap := sing l (.loop { rec with state := if j.isNone then .ready else .done, pending := j })
def Leaves : Option Code → List Item → Prop
  | none, [] => True
  | some .ret, .code .ret :: _ => True
  | some (.exit id), .code (.exit id') :: k => id = id' ∧ exitTo id k = none
  | _, _ => False
/-- The frame of a round; at its end: the jump, the heaps. -/
abbrev rcx (P : Program) (f : FuncId) (N : Nat) (l : Nat) (rec : Loop) (B : PHeap) (R : Option Code → List PHeap → Prop) : Cx :=
  { P, f, rd := some l, N, B, E := fun fr w' => ∃ j k a ds hs, fr = mk f (some l) a (marks ds) k ∧ Leaves j k ∧ R j hs ∧ Sep (bsy l rec :: hs) [B] w' }
section
variable {P : Program} {f : FuncId} {N l : Nat} {rec : Loop} {B : PHeap} {R : Option Code → List PHeap → Prop} {k : List Item} {e : Env} {o o1 r : List PHeap}
theorem Sep.turn {b : Nat} {x y : Obj} {o r : List PHeap} {w : World} (s : Sep (sing b x :: o) r w) : Sep (sing b y :: o) r (w.putObj b y) ∧ w.heap[b]? = some x := by
  have hb : w.heap[b]? = some x := s.so _ List.mem_cons_self b x (sing_self b x)
  have hlt : b < w.heap.size := (Array.getElem?_eq_some_iff.1 hb).1
  refine ⟨s.swap (fun x' hx' => ?_) (fun x' ob hx' => ?_) (fun x' hx' => ?_) rfl rfl, hb⟩
  · unfold sing at *; dsimp only at hx' ⊢; split at hx'
    · cases hx'
    · simp [*]
  · obtain ⟨rfl, rfl⟩ := sing_some hx'
    exact World.putObj_heap_same hlt
  · refine World.putObj_heap_other ?_
    rintro rfl
    rw [sing_self] at hx'; cases hx'
theorem XK.beginRound [t : Take (rdy l rec) o o1] (h : XK (rcx P f N l rec B R) k e (bsy l rec :: o1) r) : XK (rcx P f N l rec B R) (.beginRound :: k) e o r := fun D ds a w cs ha he hD hm => by
  have hp : (D :: o).Perm (rdy l rec :: D :: o1) := (t.pf.cons D).trans (List.Perm.swap _ _ _)
  obtain ⟨h1, hb⟩ := Sep.turn (y := .loop { rec with state := .busy, pending := none }) (hm.perm hp)
  obtain ⟨fr, w', hE, st⟩ := h D ds a _ cs ha he hD (h1.perm (List.Perm.swap _ _ _))
  refine ⟨fr, w', hE, .head (step_lone_go ?_) st⟩
  have hr := run_beginRound (P := P) hb rfl
  simp [stepG, stepG.exec, stepG.apply, mk, Sem.runT_eq, hr, Result.andThen, Frame.finish]
theorem XK.leave {j : Option Code} (hs : List PHeap) [p : Wk o (bsy l rec :: hs)] (hj : Leaves j k) (hR : R j hs) : XK (rcx P f N l rec B R) k e o r := fun D ds a w cs ha he hD hm =>
  ⟨_, w, ⟨j, k, a, ds, hs, rfl, hj, hR, (p.sep hm.tail).reads (fun g hg => by simp at hg; subst hg; exact List.mem_cons_self)⟩, .refl _ _⟩
theorem step_leave {j : Option Code} {a : Array Value} {ds : List Deferred} {c0 : Frame} {cs : List Frame} {w w' : World} {v : Value} (hj : Leaves j k) (hr : (Instr.endRound l j).run P w = .ok v w') :
    step P (lone (mk f (some l) a ds k) (c0 :: cs) w) = .next (lone (c0.finish v) cs w') := by
  unfold Leaves at hj
  split at hj
  · exact step_lone_go (by simp [stepG, stepG.exec, mk, Sem.runT_eq, hr, doReturn])
  · exact step_lone_go (by simp [stepG, stepG.exec, mk, Sem.runT_eq, hr, doReturn])
  · obtain ⟨rfl, hx⟩ := hj
    exact step_lone_go (by simp [stepG, stepG.exec, mk, hx, Sem.runT_eq, hr, doReturn])
  · exact hj.elim
def pars : List Tmp → List Value → Env → Env
  | p :: ps, v :: vs, e => pars ps vs ((p, some v) :: e)
  | _, _, e => e
theorem pars_rel : ∀ (ps : List Tmp) (vs : List Value) (e : Env) (a : Array Value), (∀ p ∈ ps, p < a.size) → ERel e a →
    ERel (pars ps vs e) ((ps.zip vs).foldl (fun tmps (t, x) => tmps.setIfInBounds t x) a) ∧ ((ps.zip vs).foldl (fun tmps (t, x) => tmps.setIfInBounds t x) a).size = a.size
  | [], vs, e, a, _, he => by cases vs <;> exact ⟨he, rfl⟩
  | p :: ps, [], e, a, _, he => ⟨he, rfl⟩
  | p :: ps, v :: vs, e, a, hp, he => by
    have h1 : ERel ((p, some v) :: e) (a.setIfInBounds p v) := he.put (hp p List.mem_cons_self)
    obtain ⟨h2, h3⟩ := pars_rel ps vs _ (a.setIfInBounds p v) (fun q hq => by simp; exact hp q (List.mem_cons_of_mem _ hq)) h1
    exact ⟨h2, by rw [List.zip_cons_cons, List.foldl_cons]; rw [h3]; simp⟩
/-- A call of yield is a round. -/
theorem VSpec.round {Hr hs0 : List PHeap} {ps : List Tmp} {vs : List Value} {asn bd : Code} {L0 : Nat} {a : Array Value} (hrec : rec = { state := .ready, pending := none, fn := f, tmps := a, params := ps.toArray, assign := asn, body := bd, defers := L0 })
    (hN : a.size = N) (he : ERel e a) (hps : ∀ p ∈ ps, p < N) (hlen : vs.length = ps.length)
    (h : ∀ B, XK (rcx P f N l rec B R) [.code asn, .beginRound, .code bd] (pars ps vs e) (rdy l rec :: hs0) Hr) :
    VSpec P (.func (.yield l) #[] #[]) vs (rdy l rec :: hs0) Hr (fun v hs => ∃ j hs', v = .bool (Option.isNone j) ∧ hs = ovr l rec j :: hs' ∧ R j hs') := fun o r w hs hr => by
  have hb : w.heap[l]? = some (.loop { rec with state := .ready, pending := none }) := hs.so _ List.mem_cons_self l _ (sing_self _ _)
  have hrun : (callv (.func (.yield l) #[] #[]) vs.toArray).run P w =
      .ok (.round l f ((ps.zip vs).foldl (fun tmps (t, x) => tmps.setIfInBounds t x) a) asn bd) w := by
    unfold callv
    have e1 : (Deferred.ofValue (.func (.yield l) #[] #[]) vs.toArray).run P w = .ok { target := .fn (.yield l) #[], args := #[] ++ vs.toArray } w := rfl
    rw [bind_ok e1]
    simp only [invoke, Array.empty_append]
    rw [run_yield hb (by subst hrec; simp [hlen])]
    subst hrec
    simp [List.zip_toArray, List.foldl_toArray]
  unfold NDoes
  rw [hrun]
  intro c0 cs
  obtain ⟨hr1, hr2⟩ := pars_rel ps vs e a (fun p hp => hN ▸ hps p hp) he
  obtain ⟨fr, w', ⟨j, k, a', ds, hs', rfl, hj, hR, hS⟩, st⟩ := h (hole w (rdy l rec :: hs0)) emp [] _ w (c0 :: cs) (hr2.trans hN) hr1 ⟨List.nodup_nil, fun b => by simp [emp]⟩ (frame_in hs hr).empC
  obtain ⟨hS2, hb2⟩ := Sep.turn (y := .loop { rec with state := if j.isNone then .ready else .done, pending := j }) hS
  have hend := run_endRound (P := P) j hb2
  refine ⟨_, _, ⟨_, ⟨j, hs', rfl, rfl, hR⟩, frame_out hs hS2⟩, ?_⟩
  refine Steps.trans ?_ (.one (step_leave (f := f) (a := a') (ds := marks ds) (c0 := c0) (cs := cs) hj hend))
  exact st
end

/-! ### the loop -/
theorem NDoes.mono {P : Program} {s : Sem Next} {w : World} {Q R : Value → World → Prop} (h : NDoes P s w Q) (m : ∀ v w', Q v w' → R v w') : NDoes P s w R := by
  unfold NDoes at *
  split at h
  · exact h.mono fun e w'' ⟨v, he, hv⟩ => ⟨v, he, m _ _ hv⟩
  · exact fun c0 cs => let ⟨v, w', hv, hs⟩ := h c0 cs; ⟨v, w', m _ _ hv, hs⟩
  · exact h.elim
theorem VSpec.mono {P : Program} {y : Value} {vs : List Value} {Hm Hr : List PHeap} {R R' : Value → List PHeap → Prop} (h : VSpec P y vs Hm Hr R) (m : ∀ v hs, R v hs → R' v hs) : VSpec P y vs Hm Hr R' :=
  fun o r w hs hr => (h o r w hs hr).mono fun v _ ⟨hs', hR, hS⟩ => ⟨hs', m v hs' hR, hS⟩
theorem VSpec.joined {P : Program} {y : Value} {vs : List Value} {Hm Hr : List PHeap} {R : Value → List PHeap → Prop} (h : VSpec P y vs Hm Hr R) (hp : PD Hm) :
    VSpec P y vs [join Hm] Hr (fun v hs => ∃ hs', R v hs' ∧ PD hs' ∧ hs = [join hs']) := fun o r w hs hr =>
  (h o r w (Sep.split hp hs) hr).mono fun v _ ⟨hs', hR, hS⟩ => ⟨_, ⟨hs', hR, ⟨hS.left.pw, hS.left.no⟩, rfl⟩, hS.join⟩
/-- An iterator: it yields the items, one after the other, till a call of yield answers false. -/
def It (P : Program) (y : Value) (items : List (List Value)) (Hg : List PHeap) : Prop :=
  ∀ (f : Value) (Hr : List PHeap) (Q : Nat → PHeap → Prop) (X : PHeap → Prop),
    (∀ i, i < items.length → ∀ q, Q i q → VSpec P f (items.getD i []) [q] Hr (fun v hs => ∃ b q', v = .bool b ∧ hs = [q'] ∧ (b = true → Q (i + 1) q') ∧ (b = false → X q'))) →
    ∀ q, Q 0 q → VSpec P y [f] [q] (Hg ++ Hr) (fun _ hs => ∃ q', hs = [q'] ∧ (Q items.length q' ∨ X q'))
theorem step_range {P : Program} {f : FuncId} {a : Array Value} {ds mark : List Deferred} {k : List Item} {cs : List Frame} {w w1 : World} {l : Nat} {x : Operand} {y : Value} {ps : Array Tmp} {asn bd : Code}
    {Post : Value → World → Prop} (he : (Instr.enterLoop f a ps asn bd none).run P w = .ok (l, mark) w1) (hx : evA a x = y) (h : NDoes P (callv y #[.func (.yield l) #[] #[]]) w1 Post) :
    ∃ v w', Post v w' ∧ Steps P (lone (mk f none a ds (.code (.rangeFunc x ps asn bd) :: k)) cs w) (lone (mk f none a (mark ++ ds) (.endRangeFunc l :: k)) cs w') := by
  have hev : ∀ z, (mk f none a (mark ++ ds) (.inRangeFunc l :: k)).eval z = evA a z := fun z => eval_mk z
  have hcall : (do
      let d ← resolve (mk f none a (mark ++ ds) (.inRangeFunc l :: k)).eval { callee := .value x, args := #[.const (.func (.yield l) #[] #[])], argTypes := #[] } 0
      invoke d.target d.args : Sem Next) = callv y #[.func (.yield l) #[] #[]] := by
    simp only [resolve, hev, hx, callv]
    simp [eval_mk, evA]
  simp only [mk] at hcall
  have hfin : ∀ v, (mk f none a (mark ++ ds) (.inRangeFunc l :: k)).finish v = mk f none a (mark ++ ds) (.endRangeFunc l :: k) := fun v => by simp [Frame.finish, mk]
  unfold NDoes at h
  split at h
  · rename_i g args w' hr
    obtain ⟨e, w'', fr, ⟨v, rfl, hp⟩, hsteps, _, hleave⟩ := h (mk f none a (mark ++ ds) (.inRangeFunc l :: k) :: cs)
    have henter : step P (lone (mk f none a ds (.code (.rangeFunc x ps asn bd) :: k)) cs w) =
        .next (lone (Frame.enter P g args .normal) (mk f none a (mark ++ ds) (.inRangeFunc l :: k) :: cs) w') :=
      step_lone_go (by simp [stepG, stepG.exec, stepG.apply, mk, Sem.runT_eq, he, hcall, hr, GStep.bare_after])
    refine ⟨v, w'', hp, .head henter (Steps.trans hsteps ?_)⟩
    rw [← hfin v]; exact finish_returns hleave
  · rename_i l' g tmps asn' bd' w' hr
    obtain ⟨v, w'', hp, hs⟩ := h (mk f none a (mark ++ ds) (.inRangeFunc l :: k)) cs
    have henter : step P (lone (mk f none a ds (.code (.rangeFunc x ps asn bd) :: k)) cs w) =
        .next (lone (Frame.round l' g tmps asn' bd' .normal) (mk f none a (mark ++ ds) (.inRangeFunc l :: k) :: cs) w') :=
      step_lone_go (by simp [stepG, stepG.exec, stepG.apply, mk, Sem.runT_eq, he, hcall, hr, GStep.bare_after])
    refine ⟨v, w'', hp, .head henter ?_⟩
    rw [← hfin v]; exact hs
  · exact h.elim
theorem step_endRange {P : Program} {f : FuncId} {a : Array Value} {ds : List Deferred} {k : List Item} {cs : List Frame} {w w1 : World} {l : Nat} {j : Option Code}
    (h : (Instr.endLoop l).run P w = .ok j w1) : step P (lone (mk f none a ds (.endRangeFunc l :: k)) cs w) = .next (lone (mk f none a ds ((j.map Item.code).toList ++ k)) cs w1) :=
  step_lone_go (by simp [stepG, stepG.exec, mk, Sem.runT_eq, h, GStep.bare_after])
def RoundR {X : Type} (oc : X → List PHeap) (I : X → Prop) (J : Code → X → Prop) : Option Code → List PHeap → Prop
  | none, hs => ∃ x, I x ∧ hs = oc x
  | some j, hs => ∃ x, J j x ∧ hs = oc x
/-- A loop over a function in a frame that is no round. 'I i x': ahead of item i; 'J j x': a round has left the loop by the jump j. -/
theorem XK.range {P : Program} {f : FuncId} {N : Nat} {B : PHeap} {E : Frame → World → Prop} {X : Type} {k : List Item} {e : Env} {o ok r : List PHeap} {x : Operand} {y : Value} {ps : List Tmp} {asn bd : Code} {Hg : List PHeap} (items : List (List Value))
    (oc : X → List PHeap) (I : Nat → X → Prop) (J : Code → X → Prop) (x0 : X) (o0 : List PHeap) [rst : Rest o0 o ok] (ho0 : oc x0 = o0) (h0 : I 0 x0) (hx : ev e x = some y)
    (hit : It P y items Hg) [al : AllIn Hg ok (B :: r)] (hps : ps.all (fun p => Nat.blt p N) = true) (hlen : ∀ i, i < items.length → (items.getD i []).length = ps.length)
    (round : ∀ l rec B' i x, i < items.length → I i x → XK (rcx P f N l rec B' (RoundR oc (I (i + 1)) J)) [.code asn, .beginRound, .code bd] (pars ps (items.getD i []) e) (rdy l rec :: oc x) (ok ++ r))
    (cont : ∀ x, I items.length x → XK ⟨P, f, none, N, B, E⟩ k e (oc x ++ ok) r)
    (jump : ∀ j x, J j x → XK ⟨P, f, none, N, B, E⟩ (.code j :: k) e (oc x ++ ok) r) :
    XK ⟨P, f, none, N, B, E⟩ (.code (.rangeFunc x ps.toArray asn bd) :: k) e o r := fun D ds a w cs ha he hD hm => by
  have hm1 : Sep (D :: (o0 ++ ok)) (B :: r) w := rst.wk.sepD hm
  let rec' : Loop := { state := .ready, pending := none, fn := f, tmps := a, params := ps.toArray, assign := asn, body := bd, defers := w.heap.size }
  let l := w.heap.size + 1
  let w1 := (w.alloc (.deferred (some []))).alloc (.loop rec')
  have henter : (Instr.enterLoop f a ps.toArray asn bd none).run P w = .ok (l, [{ target := .collected w.heap.size, args := #[] }]) w1 := run_enterLoop_outer f a ps.toArray asn bd
  have hs1 : Sep (rdy l rec' :: sing w.heap.size (.deferred (some [])) :: D :: (o0 ++ ok)) (B :: r) w1 := by
    have := (hm1.push (.deferred (some []))).push (.loop rec')
    simp only [Array.size_push] at this
    exact this
  let D' := Go.X.join [sing w.heap.size (.deferred (some [])), D]
  have hs2 : Sep (D' :: rdy l rec' :: (o0 ++ ok)) (B :: r) w1 := by
    refine Sep.join (hs := [sing w.heap.size (.deferred (some [])), D]) (hs1.perm ?_)
    exact (List.Perm.swap _ _ _).trans ((List.Perm.swap _ _ _).cons _)
  have hD' : Marked D' (w.heap.size :: ds) := by
    refine ⟨List.nodup_cons.2 ⟨fun hmem => ?_, hD.1⟩, fun b => ?_⟩
    · have := sub_lt (hm.so D List.mem_cons_self) (b := w.heap.size) (o := .deferred (some [])) (by rw [hD.2, if_pos hmem])
      omega
    · simp only [D', Go.X.join, sing, emp, Option.or_none, hD.2 b, List.mem_cons]
      by_cases hb : b = w.heap.size
      · simp [hb]
      · simp [hb]
  have hs3 : Sep (Go.X.join (rdy l rec' :: o0) :: D' :: ok) (B :: r) w1 := Sep.join (hs := rdy l rec' :: o0) (hs2.perm (by
    simp only [List.cons_append]
    exact (List.Perm.swap _ _ _).trans (List.perm_middle.symm.cons _)))
  have hp0 : PD (rdy l rec' :: oc x0) := by
    rw [ho0]
    have hsub : (rdy l rec' :: o0).Sublist (rdy l rec' :: (o0 ++ ok)) := List.Sublist.cons_cons _ (List.sublist_append_left _ _)
    exact ⟨hs2.tail.pw.sublist hsub, fun h hh => hs2.tail.no h (hsub.mem hh)⟩
  have hpsN : ∀ p ∈ ps, p < N := fun p hp => by
    have := List.all_eq_true.1 hps p hp
    rwa [Nat.blt_eq] at this
  have hyield : ∀ i, i < items.length → ∀ q, (∃ x, I i x ∧ PD (rdy l rec' :: oc x) ∧ q = Go.X.join (rdy l rec' :: oc x)) →
      VSpec P (.func (.yield l) #[] #[]) (items.getD i []) [q] (ok ++ r) (fun v hs => ∃ b q', v = .bool b ∧ hs = [q'] ∧
        (b = true → ∃ x, I (i + 1) x ∧ PD (rdy l rec' :: oc x) ∧ q' = Go.X.join (rdy l rec' :: oc x)) ∧
        (b = false → ∃ j x, J j x ∧ PD (ovr l rec' (some j) :: oc x) ∧ q' = Go.X.join (ovr l rec' (some j) :: oc x))) := by
    rintro i hi q ⟨x, hI, hp, rfl⟩
    refine ((VSpec.round (rec := rec') (N := N) (e := e) rfl ha he hpsN (hlen i hi) (fun B' => round l rec' B' i x hi hI)).joined hp).mono ?_
    rintro v hs ⟨hs', ⟨j, hs'', rfl, rfl, hR⟩, hpw, rfl⟩
    refine ⟨_, _, rfl, rfl, ?_, ?_⟩
    · intro hj
      cases j with
      | some j => cases hj
      | none =>
        obtain ⟨x', h1, rfl⟩ := hR
        exact ⟨x', h1, hpw, rfl⟩
    · intro hj
      cases j with
      | none => cases hj
      | some j =>
        obtain ⟨x', h1, rfl⟩ := hR
        exact ⟨j, x', h1, hpw, rfl⟩
  have hN := hit _ (ok ++ r) _ _ hyield (Go.X.join (rdy l rec' :: o0)) ⟨x0, h0, hp0, by rw [ho0]⟩ (D' :: ok) (B :: r) w1 hs3 (fun h hh => by
    rcases List.mem_append.1 hh with hh | hh
    · exact orMap (al.pf h hh) (List.mem_cons_of_mem _) id
    · rcases List.mem_append.1 hh with hh | hh
      · exact .inl (List.mem_cons_of_mem _ hh)
      · exact .inr (List.mem_cons_of_mem _ hh))
  obtain ⟨v, w', ⟨hs', ⟨q', rfl, hq⟩, hS⟩, st⟩ := step_range (ds := marks ds) (k := k) (cs := cs) henter (ev_rel he hx) hN
  rcases hq with ⟨x', hI, hpw, rfl⟩ | ⟨j, x', hJ, hpw, rfl⟩
  · obtain ⟨hS2, hb⟩ := Sep.turn (y := .loop { rec' with state := .exhausted, pending := none }) (Sep.split hpw hS)
    obtain ⟨fr, w2, hE, st2⟩ := cont x' hI D' (w.heap.size :: ds) a _ cs ha he hD' (hS2.tail.perm List.perm_middle)
    exact ⟨fr, w2, hE, Steps.trans st (.head (step_endRange (run_endLoop hb (by simp))) st2)⟩
  · obtain ⟨hS2, hb⟩ := Sep.turn (y := .loop { rec' with state := .exhausted, pending := some j }) (Sep.split hpw hS)
    obtain ⟨fr, w2, hE, st2⟩ := jump j x' hJ D' (w.heap.size :: ds) a _ cs ha he hD' (hS2.tail.perm List.perm_middle)
    exact ⟨fr, w2, hE, Steps.trans st (.head (step_endRange (run_endLoop hb (by simp))) st2)⟩
end Go.X

/- Bits of unsigned numbers; copies between slices. No condition. -/
set_option linter.unusedSimpArgs false
set_option linter.unusedVariables false
namespace Go.X
section
variable {P : Program} {ops : Array Oper} {e : Env} {o r : List PHeap} {d : Option Tmp} {ty : TypeId} {pos : String} {aft : Array Edge}
theorem wrapu64 {n : Int} (h : 0 ≤ n ∧ n < 18446744073709551616) : IntKind.u64.wrap n = n := by
  have : IntKind.u64.wrap n = n % 18446744073709551616 := rfl
  rw [this]; omega
theorem Q.addU {t t2 : TypeId} {x y : Operand} {m n : Int} (hx : ev e x = some (.int .u64 m)) (hy : ev e y = some (.int .u64 n)) (h : 0 ≤ m + n ∧ m + n < 18446744073709551616) :
    Quiet P ops ⟨d, .binOp .add t x y t2, ty, pos, aft, none⟩ e o r (.int .u64 (m + n)) := by
  have := Q.addW (P := P) (ops := ops) (o := o) (r := r) (d := d) (ty := ty) (pos := pos) (aft := aft) (t := t) (t2 := t2) hx hy
  rwa [wrapu64 h] at this
theorem Q.mulU {t t2 : TypeId} {x y : Operand} {m n : Int} (hx : ev e x = some (.int .u64 m)) (hy : ev e y = some (.int .u64 n)) (h : 0 ≤ m * n ∧ m * n < 18446744073709551616) :
    Quiet P ops ⟨d, .binOp .mul t x y t2, ty, pos, aft, none⟩ e o r (.int .u64 (m * n)) := by
  have := Q.mulW (P := P) (ops := ops) (o := o) (r := r) (d := d) (ty := ty) (pos := pos) (aft := aft) (t := t) (t2 := t2) hx hy
  rwa [wrapu64 h] at this
/-- & with 2^32 - 1 -/
theorem Q.mask32 {t t2 : TypeId} {x y : Operand} {m : Int} (hx : ev e x = some (.int .u64 m)) (hy : ev e y = some (.int .u64 4294967295)) (h : 0 ≤ m ∧ m < 18446744073709551616) :
    Quiet P ops ⟨d, .binOp .and t x y t2, ty, pos, aft, none⟩ e o r (.int .u64 (m % 4294967296)) := Q.bin hx hy fun w => by
  obtain ⟨n, rfl⟩ := Int.eq_ofNat_of_zero_le h.1
  have hn : n < 18446744073709551616 := by omega
  have e1 : binOp .and t (.int .u64 (n : Int)) (.int .u64 4294967295) = Op.intBits .and .u64 (n : Int) 4294967295 := by simp [binOp]
  rw [e1]
  have e2 : (BitVec.ofInt 64 (n : Int) &&& BitVec.ofInt 64 4294967295).toNat = n % 4294967296 := by
    have e3 : BitVec.ofInt 64 (4294967295 : Int) = BitVec.ofNat 64 (2 ^ 32 - 1) := by decide
    rw [e3, BitVec.ofInt_natCast, BitVec.toNat_and, BitVec.toNat_ofNat, BitVec.toNat_ofNat, Nat.mod_eq_of_lt hn, Nat.mod_eq_of_lt (show 2 ^ 32 - 1 < 2 ^ 64 by decide), Nat.and_two_pow_sub_one_eq_mod]
  have e4 : Op.intBits .and .u64 (n : Int) 4294967295 = (pure (.int .u64 (IntKind.u64.wrap ((BitVec.ofInt 64 (n : Int) &&& BitVec.ofInt 64 4294967295).toNat : Int))) : Sem Value) := rfl
  rw [e4, e2, wrapu64 (by omega)]
  simp
theorem Q.shr32 {t t2 : TypeId} {x y : Operand} {k' : IntKind} {m : Int} (hx : ev e x = some (.int .u64 m)) (hy : ev e y = some (.int k' 32)) :
    Quiet P ops ⟨d, .binOp .shr t x y t2, ty, pos, aft, none⟩ e o r (.int .u64 (m / 4294967296)) := Q.bin hx hy fun w => by
  have e1 : binOp .shr t (.int .u64 m) (.int k' 32) = Op.shift .shr .u64 m k' 32 := by simp [binOp]
  rw [e1]
  have e2 : Op.shift .shr .u64 m k' 32 = (pure (.int .u64 (m.fdiv (2 ^ 32))) : Sem Value) := rfl
  rw [e2, Int.fdiv_eq_ediv_of_nonneg _ (by decide)]
  rfl
end

/-! ### copies -/
theorem flat_take {α : Type} {enc : α → List Value} {sz : Nat} (he : ∀ x, (enc x).length = sz) : ∀ (xs : List α) (i : Nat), (xs.take i).flatMap enc = (xs.flatMap enc).take (i * sz)
  | [], i => by simp
  | x :: xs, 0 => by simp
  | x :: xs, i + 1 => by
    rw [List.take_succ_cons, List.flatMap_cons, List.flatMap_cons, flat_take he xs i, Nat.add_mul, Nat.one_mul, List.take_append, he]
    rw [List.take_of_length_le (l := enc x) (by rw [he]; omega), show i * sz + sz - sz = i * sz by omega]
theorem flat_drop {α : Type} {enc : α → List Value} {sz : Nat} (he : ∀ x, (enc x).length = sz) : ∀ (xs : List α) (i : Nat), (xs.drop i).flatMap enc = (xs.flatMap enc).drop (i * sz)
  | [], i => by simp
  | x :: xs, 0 => by simp
  | x :: xs, i + 1 => by
    rw [List.drop_succ_cons, List.flatMap_cons, flat_drop he xs i, Nat.add_mul, Nat.one_mul, List.drop_append, he]
    rw [List.drop_of_length_le (l := enc x) (by rw [he]; omega), show i * sz + sz - sz = i * sz by omega, List.nil_append]
def tailv (v : Value) (sz i : Nat) : Value := match v with
  | .slice ad n c => .slice (if c = i then ad else ad.map (·.add (i * sz))) (n - i) (c - i)
  | v => v
def splice {α : Type} (xs ys : List α) (i : Nat) : List α := xs.take i ++ ys.take (min ys.length (xs.length - i)) ++ xs.drop (i + min ys.length (xs.length - i))
section
variable {P : Program} {ops : Array Oper} {e : Env} {o r : List PHeap} {d : Option Tmp} {ty : TypeId} {pos : String} {aft : Array Edge}
variable {α : Type} {enc : α → List Value} {sz : Nat} {h : PHeap} {xs : List α} {v : Value}
theorem tailv_zero {T : TypeId} [s : OArr v enc sz T h xs] : tailv v sz 0 = v := by
  obtain ⟨he, hm, ⟨rfl, rfl, rfl⟩ | ⟨b, c, cs, rfl, rfl, hle, hlen, ht⟩⟩ := s.pf
  · rfl
  · simp only [tailv, Nat.zero_mul, Nat.sub_zero, Option.map_some, add_none]
    split <;> simp
theorem Q.tail {t el : TypeId} [u : Und P t (.slice el)] [z : TySize P el sz] {x : Operand} {lo : Option Operand} {i : Nat} (hx : ev e x = some v) [s : Arr v enc sz h xs] (hlo : Bd e 0 lo i) (hi : i ≤ xs.length) :
    Quiet P ops ⟨d, .slice t x lo none none, ty, pos, aft, none⟩ e o r (tailv v sz i) := .mk fun a w he _ => by
  obtain ⟨henc, hm, ad, c, rfl, hle, hnn, hc⟩ := s.pf
  have hrun : (Instr.sliceAt t (.slice ad xs.length c) (lo.map (evA a)) none none).run P w =
      .ok (.slice (if c = i then ad else ad.map (·.add (i * sz))) (xs.length - i) (c - i)) w := by
    unfold Instr.sliceAt
    rw [bind_ok (u.pf w)]
    simp only
    unfold Instr.slice
    rw [bind_ok (u.pf w)]
    simp only
    have hb : (Instr.sliceBounds true xs.length c (lo.map (evA a)) none none).run P w = .ok (i, xs.length, c) w := by
      unfold Instr.sliceBounds
      simp only [pure_bind]
      rcases Bd.run (P := P) he hlo xs.length .sliceB (by omega) w with ⟨h3, h4⟩ | ⟨v3, h3, h4⟩
      · rw [h3, h4]; rfl
      · rw [h3]
        simp only [Option.isSome_none, Bool.false_eq_true, if_false]
        rw [bind_ok h4]; rfl
    rw [bind_ok hb]
    simp only
    rw [bind_ok (z.pf w)]
    rfl
  simp only [execOp, ev_rel he hx, Option.map_none]
  exact run_val hrun
theorem run_copy {t0 t1 ty el : TypeId} [u : Und P t0 (.slice el)] [z : TySize P el sz] {v2 : Value} {h2 : PHeap} {ys : List α} [s2 : Arr v2 enc sz h2 ys] {w w' : World} (hsub2 : sub h2 w) {ad : Option Addr} {m c : Nat}
    (hst : ((match ad with | some a => storeCells a ((ys.take (min ys.length m)).flatMap enc) 0 | none => pure () : Sem Unit)).run P w = .ok () w') :
    (Builtin.copy_ #[t0, t1] ty #[.slice ad m c, v2]).run P w = .ok (.int .i64 ((min ys.length m : Nat) : Int)) w' := by
  obtain ⟨henc2, hm2, a2, c2, hv2, hle2, hnn2, hc2⟩ := s2.pf
  have hlen2 : (Builtin.lenOf v2).run P w = .ok ys.length w := by rw [hv2]; rfl
  have hcells : (Builtin.firstCells sz (min ys.length m) v2).run P w = .ok ((ys.take (min ys.length m)).flatMap enc).toArray w := s2.cells hsub2 _ (by omega)
  unfold Builtin.copy_
  simp only [List.getElem?_toArray, List.getElem?_cons_zero, List.getElem?_cons_succ]
  rw [bind_ok (u.pf w)]
  simp only
  rw [bind_ok hlen2, bind_ok (z.pf w)]
  have hcells' : (Builtin.firstCells sz (Nat.min ys.length m) v2).run P w = .ok ((ys.take (min ys.length m)).flatMap enc).toArray w := hcells
  rw [bind_ok hcells']
  cases ad with
  | none =>
    simp only at hst ⊢
    have : w' = w := by
      have h1 : (pure () : Sem Unit).run P w = .ok () w := rfl
      rw [h1] at hst
      injection hst with h2 h3
      exact h3.symm
    subst this
    rfl
  | some a =>
    simp only at hst ⊢
    rw [bind_ok hst]
    rfl
theorem Stp0.copy {t0 t1 el T : TypeId} [u : Und P t0 (.slice el)] [z : TySize P el sz] {x y : Operand} {vd v2 : Value} {h2 : PHeap} {ys : List α} {i : Nat} {o1 : List PHeap} (hx : ev e x = some vd) (hd : vd = tailv v sz i) (hy : ev e y = some v2)
    [s : OArr v enc sz T h xs] [tk : Take h o o1] [s2 : Arr v2 enc sz h2 ys] [m : InM h2 o r] (hi : i ≤ xs.length) :
    Stp0 P ops ⟨d, .call ⟨.builtin .copy, #[x, y], #[t0, t1]⟩, ty, pos, aft, none⟩ e o r (fun v' o2 => ∃ h', v' = .int .i64 ((min ys.length (xs.length - i) : Nat) : Int) ∧ OArr v enc sz T h' (splice xs ys i) ∧ o2 = h' :: o1) := fun a w he hs => by
  subst hd
  have hs1 := hs.perm tk.pf
  have hsub2 : sub h2 w := m.pf.elim (hs.so _) (hs.sr _)
  have hx' := ev_rel he hx
  have hy' := ev_rel he hy
  obtain ⟨henc2, hm2, a2, c2, hv2, hle2, hnn2, hc2⟩ := s2.pf
  have hexec : ∀ w', (Builtin.copy_ #[t0, t1] ty #[tailv v sz i, v2]).run P w = .ok (.int .i64 ((min ys.length (xs.length - i) : Nat) : Int)) w' →
      (execOp (evA a) (⟨d, .call ⟨.builtin .copy, #[x, y], #[t0, t1]⟩, ty, pos, aft, none⟩ : Oper)).run P w = .ok (.value (.int .i64 ((min ys.length (xs.length - i) : Nat) : Int))) w' := by
    intro w' hw'
    simp only [execOp, resolve, List.map_toArray, List.map_cons, List.map_nil, hx', hy']
    exact run_val hw'
  obtain ⟨henc, hm, ⟨rfl, rfl, rfl⟩ | ⟨b, c, cs, rfl, rfl, hle, hlen, ht⟩⟩ := s.pf
  · unfold Does
    rw [if_pos (by simp [Region.wanted]), hexec w (by
      have hi0 : i = 0 := by simpa using hi
      subst hi0
      have := run_copy (t0 := t0) (t1 := t1) (ty := ty) (el := el) (s2 := s2) (w := w) (w' := w) (P := P) hsub2 (ad := none) (m := 0) (c := 0) rfl
      simpa [tailv] using this)]
    refine ⟨emp :: o1, ⟨emp, rfl, ?_, rfl⟩, hs1⟩
    simp [splice]
    exact s
  · have hn' : min ys.length (xs.length - i) ≤ xs.length - i := Nat.min_le_right _ _
    have hny : min ys.length (xs.length - i) ≤ ys.length := Nat.min_le_left _ _
    generalize hne : min ys.length (xs.length - i) = n' at *
    have hZ : ((ys.take n').flatMap enc).length = n' * sz := by rw [flat_len henc, List.length_take, Nat.min_eq_left hny]
    have hmul1 : i * sz + n' * sz ≤ xs.length * sz := by rw [← Nat.add_mul]; exact Nat.mul_le_mul_right _ (by omega)
    have hmul2 : xs.length * sz ≤ c * sz := Nat.mul_le_mul_right _ hle
    have hh : w.heap[b]? = some (.cells cs.toArray T (0, 0)) := hs1.so _ List.mem_cons_self b _ (sing_self _ _)
    have hones : ∀ v ∈ (ys.take n').flatMap enc, one v = true := fun v hv => by
      obtain ⟨y, hy1, hy2⟩ := List.mem_flatMap.1 hv
      exact hm2.2 y (List.mem_of_mem_take hy1) v hy2
    obtain ⟨w', h1, h2, h3, h4⟩ := run_storeCells (P := P) (b := b) (k := i * sz) (T := T) ((ys.take n').flatMap enc) 0 w cs hones hh (by omega)
    have hst : ((match (if c = i then some (⟨b, 0, none⟩ : Addr) else (some (⟨b, 0, none⟩ : Addr)).map (·.add (i * sz))) with | some a => storeCells a ((ys.take n').flatMap enc) 0 | none => pure () : Sem Unit)).run P w = .ok () w' := by
      by_cases hci : c = i
      · rw [if_pos hci]
        have hn0 : n' = 0 := by omega
        subst hn0
        simp only [List.take_zero, List.flatMap_nil] at h1 ⊢
        exact h1
      · rw [if_neg hci]
        simp only [Option.map_some, add_none, Nat.zero_add]
        exact h1
    unfold Does
    rw [if_pos (by simp [Region.wanted]), hexec w' (by
      have := run_copy (t0 := t0) (t1 := t1) (ty := ty) (el := el) (s2 := s2) (w := w) (w' := w') (P := P) hsub2 (ad := (if c = i then some (⟨b, 0, none⟩ : Addr) else (some (⟨b, 0, none⟩ : Addr)).map (·.add (i * sz)))) (m := xs.length - i) (c := c - i) (by rw [hne]; exact hst)
      rw [hne] at this
      exact this)]
    simp only [Nat.add_zero, hZ] at h2
    refine ⟨blk b (cs.take (i * sz) ++ (ys.take n').flatMap enc ++ cs.drop (i * sz + n' * sz)) T :: o1, ⟨_, rfl, ?_, rfl⟩, Sep.swap hs1 ?_ ?_ ?_ rfl h4⟩
    · have hlen' : (splice xs ys i).length = xs.length := by
        unfold splice; rw [hne]; simp only [List.length_append, List.length_take, List.length_drop]; omega
      refine ⟨henc, ⟨by rw [hlen']; exact hm.1, fun y hy cc hcc => ?_⟩, .inr ⟨b, c, _, by rw [hlen'], rfl, by rw [hlen']; exact hle, ?_, ?_⟩⟩
      · unfold splice at hy
        rcases List.mem_append.1 hy with hy | hy
        · rcases List.mem_append.1 hy with hy | hy
          · exact hm.2 y (List.mem_of_mem_take hy) cc hcc
          · exact hm2.2 y (List.mem_of_mem_take hy) cc hcc
        · exact hm.2 y (List.mem_of_mem_drop hy) cc hcc
      · simp only [List.length_append, List.length_take, List.length_drop, hZ]; omega
      · rw [hlen']
        unfold splice
        rw [hne, List.flatMap_append, List.flatMap_append, flat_take henc xs, flat_drop henc xs, ← ht, Nat.add_mul]
        rw [List.take_append, List.take_append]
        simp only [List.length_append, List.length_take, hZ]
        rw [List.take_of_length_le (l := cs.take (i * sz)) (by rw [List.length_take]; omega), List.take_of_length_le (l := (ys.take n').flatMap enc) (by rw [hZ]; omega)]
        congr 1
        · congr 1
          rw [List.take_take, Nat.min_eq_left (by omega)]
        · rw [List.drop_take]
          congr 1
          omega
    · exact fun x hx => none_blk (blk_none hx)
    · intro x ob hb
      obtain ⟨rfl, rfl⟩ := sing_some hb
      exact h2
    · exact fun x hx => h3 x (blk_none hx)
theorem Stp.copy {t0 t1 el T : TypeId} [u : Und P t0 (.slice el)] [z : TySize P el sz] {x y : Operand} {vd v2 : Value} {h2 : PHeap} {ys : List α} {i : Nat} {o1 : List PHeap} (hx : ev e x = some vd) (hd : vd = tailv v sz i) (hy : ev e y = some v2)
    [s : OArr v enc sz T h xs] [tk : Take h o o1] [s2 : Arr v2 enc sz h2 ys] [m : InM h2 o r] (hi : i ≤ xs.length) :
    Stp P ops ⟨d, .call ⟨.builtin .copy, #[x, y], #[t0, t1]⟩, ty, pos, aft, none⟩ e o r (fun v' o2 => ∃ h', v' = .int .i64 ((min ys.length (xs.length - i) : Nat) : Int) ∧ OArr v enc sz T h' (splice xs ys i) ∧ o2 = h' :: o1) := fun D a w he hs =>
  (Stp0.copy (tk := tk.more D) (m := m.more D) hx hd hy hi a w he hs).mono fun v w' ⟨o2, ⟨h', h1, h2, h3⟩, hs'⟩ => ⟨o2, ⟨h' :: o1, ⟨h', h1, h2, rfl⟩, by rw [h3]; exact List.Perm.swap _ _ _⟩, hs'⟩
end
section
variable {c : Cx} {ops : Array Oper} {rest : List Oper} {k : List Item} {e : Env} {o r : List PHeap} {d : Nat} {ty : TypeId} {pos : String} {aft : Array Edge}
variable {α : Type} {enc : α → List Value} {sz : Nat} {h : PHeap} {xs : List α} {v : Value}
theorem XO.copy {t0 t1 el T : TypeId} [u : Und c.P t0 (.slice el)] [z : TySize c.P el sz] {x y : Operand} {vd v2 : Value} {h2 : PHeap} {ys : List α} {i : Nat} {o1 : List PHeap} (hx : ev e x = some vd) (hd : vd = tailv v sz i) (hy : ev e y = some v2)
    [s : OArr v enc sz T h xs] [tk : Take h o o1] [s2 : Arr v2 enc sz h2 ys] [m : InM h2 o (c.B :: r)] (hi : i ≤ xs.length)
    (hn : ∀ h', OArr v enc sz T h' (splice xs ys i) → XO c ops rest k ((d, some (.int .i64 ((min ys.length (xs.length - i) : Nat) : Int))) :: e) (h' :: o1) r) :
    XO c ops (⟨some d, .call ⟨.builtin .copy, #[x, y], #[t0, t1]⟩, ty, pos, aft, none⟩ :: rest) k e o r :=
  XO.s (Stp.copy hx hd hy hi) fun v' o2 ⟨h', h1, h2, h3⟩ => by subst h1 h3; exact hn h' h2
variable {fl : List Nat} {f : List PHeap} {i0 : Nat} {bb : Bool} {tt uu : Plan}
theorem XT.copy {t0 t1 el T : TypeId} [u : Und c.P t0 (.slice el)] [z : TySize c.P el sz] {x y : Operand} {vd v2 : Value} {h2 : PHeap} {ys : List α} {i : Nat} {o1 : List PHeap}
    (hi0 : ops[i0]? = some ⟨some d, .call ⟨.builtin .copy, #[x, y], #[t0, t1]⟩, ty, pos, aft, none⟩) (hok : okOper c.N ⟨some d, .call ⟨.builtin .copy, #[x, y], #[t0, t1]⟩, ty, pos, aft, none⟩ = true)
    (hx : ev e x = some vd) (hd : vd = tailv v sz i) (hy : ev e y = some v2)
    [s : OArr v enc sz T h xs] [tk : Take h o o1] [s2 : Arr v2 enc sz h2 ys] [m : InM h2 o (c.B :: r)] (hi : i ≤ xs.length)
    (hn : ∀ h', OArr v enc sz T h' (splice xs ys i) → Keeps bb f (h' :: o1) ∧ XT c ops fl f k r tt ((d, some (.int .i64 ((min ys.length (xs.length - i) : Nat) : Int))) :: e) (h' :: o1)) (hu : XT c ops fl f k r uu e o) :
    XT c ops fl f k r (.br i0 bb tt uu) e o :=
  XT.s hi0 hok (Stp.copy hx hd hy hi) (fun v' o2 ⟨h', h1, h2, h3⟩ => by subst h1 h3; exact hn h' h2) hu
end
def cutv (v : Value) (sz i j : Nat) : Value := match v with
  | .slice ad n c => .slice (if c = i then ad else ad.map (·.add (i * sz))) (j - i) (c - i)
  | v => v
section
variable {P : Program} {ops : Array Oper} {e : Env} {o r : List PHeap} {d : Option Tmp} {ty : TypeId} {pos : String} {aft : Array Edge}
variable {α : Type} {enc : α → List Value} {sz : Nat} {h : PHeap} {xs : List α} {v : Value}
theorem Arr.cut (s : Arr v enc sz h xs) {i j : Nat} (hij : i ≤ j) (hj : j ≤ xs.length) : Arr (cutv v sz i j) enc sz h ((xs.drop i).take (j - i)) := ⟨by
  obtain ⟨henc, hm, ad, c, rfl, hle, hnn, hc⟩ := s.pf
  have hl : ((xs.drop i).take (j - i)).length = j - i := by simp; omega
  refine ⟨henc, ⟨by omega, fun y hy cc hcc => hm.2 y (List.mem_of_mem_drop (List.mem_of_mem_take hy)) cc hcc⟩, (if c = i then ad else ad.map (·.add (i * sz))), c - i, by rw [hl]; rfl, by omega, ?_, fun hp => ?_⟩
  · intro hnone
    split at hnone
    · rw [hnn hnone]; omega
    · cases ad with
      | none => rw [hnn rfl]; omega
      | some a => simp at hnone
  · obtain ⟨b, k, cs, T, fr, rfl, hb, hcs⟩ := hc (by omega)
    refine ⟨b, k + i * sz, cs, T, fr, ?_, hb, fun m n hm' hn => ?_⟩
    · rw [if_neg (by omega)]
      simp [add_none]
    · have := hcs (i + m) n (by omega) hn
      rw [Nat.add_mul, ← Nat.add_assoc] at this
      rw [this]
      congr 1
      rw [List.getElem?_take, if_pos (by omega), List.getElem?_drop]⟩
theorem Q.cut {t el : TypeId} [u : Und P t (.slice el)] [z : TySize P el sz] {x : Operand} {lo hi : Option Operand} {i j : Nat} (hx : ev e x = some v) [s : Arr v enc sz h xs] (hlo : Bd e 0 lo i) (hhi : Bd e xs.length hi j) (hij : i ≤ j) (hj : j ≤ xs.length) :
    Quiet P ops ⟨d, .slice t x lo hi none, ty, pos, aft, none⟩ e o r (cutv v sz i j) := .mk fun a w he _ => by
  obtain ⟨henc, hm, ad, c, rfl, hle, hnn, hc⟩ := s.pf
  have hrun : (Instr.sliceAt t (.slice ad xs.length c) (lo.map (evA a)) (hi.map (evA a)) none).run P w =
      .ok (.slice (if c = i then ad else ad.map (·.add (i * sz))) (j - i) (c - i)) w := by
    unfold Instr.sliceAt
    rw [bind_ok (u.pf w)]
    simp only
    unfold Instr.slice
    rw [bind_ok (u.pf w)]
    simp only
    have hb : (Instr.sliceBounds true xs.length c (lo.map (evA a)) (hi.map (evA a)) none).run P w = .ok (i, j, c) w := by
      unfold Instr.sliceBounds
      simp only [pure_bind]
      rcases Bd.run (P := P) he hhi c .sliceAcap (by omega) w with ⟨h1, h2⟩ | ⟨v1, h1, h2⟩
      · rw [h1, h2]
        simp only [pure_bind]
        rcases Bd.run (P := P) he hlo xs.length .sliceB (by omega) w with ⟨h3, h4⟩ | ⟨v3, h3, h4⟩
        · rw [h3, h4]; rfl
        · rw [h3]
          simp only [Option.isSome_none, Bool.false_eq_true, if_false]
          rw [bind_ok h4]; rfl
      · rw [h1]
        simp only [if_true]
        rw [bind_ok h2]
        rcases Bd.run (P := P) he hlo j .sliceB hij w with ⟨h3, h4⟩ | ⟨v3, h3, h4⟩
        · rw [h3, h4]; rfl
        · rw [h3]
          simp only [Option.isSome_none, Bool.false_eq_true, if_false]
          rw [bind_ok h4]; rfl
    rw [bind_ok hb]
    simp only
    rw [bind_ok (z.pf w)]
    rfl
  simp only [execOp, ev_rel he hx, Option.map_none]
  exact run_val hrun
end
end Go.X

/- Repeated lists. No condition. -/
set_option linter.unusedVariables false
namespace Go.X
theorem repeat_first {α : Type} (x z : α) (n : Nat) : splice (List.replicate n z) [x] 0 = List.replicate (min 1 n) x ++ List.replicate (n - min 1 n) z := by
  unfold splice
  cases n with
  | zero => simp
  | succ n => simp [List.replicate_succ, show min 1 (n + 1) = 1 by omega]
theorem repeat_step {α : Type} (x z : α) {m n : Nat} (h : m ≤ n) :
    splice (List.replicate m x ++ List.replicate (n - m) z) (((List.replicate m x ++ List.replicate (n - m) z).drop 0).take (m - 0)) m =
      List.replicate (m + min m (n - m)) x ++ List.replicate (n - (m + min m (n - m))) z := by
  unfold splice
  have e1 : (List.replicate m x ++ List.replicate (n - m) z).take m = List.replicate m x := by
    rw [List.take_append, List.length_replicate, Nat.sub_self, List.take_zero, List.append_nil, List.take_of_length_le (by simp)]
  have e2 : (List.replicate m x ++ List.replicate (n - m) z).length = n := by simp; omega
  rw [List.drop_zero, Nat.sub_zero, e1, e2, List.length_replicate, List.take_replicate, Nat.min_eq_left (Nat.min_le_left _ _), List.drop_append, List.length_replicate,
    List.drop_of_length_le (l := List.replicate m x) (by simp), List.nil_append, List.drop_replicate, List.replicate_append_replicate]
  congr 2
  omega
end Go.X

/- Plain facts on lists. No condition. -/
set_option linter.unusedVariables false
namespace Go.X
theorem take_step {α : Type} [Inhabited α] {xs ys : List α} {i : Nat} (h : xs.take i = ys.take i) (hx : i < xs.length) (hy : i < ys.length) (he : xs.getD i default = ys.getD i default) : xs.take (i + 1) = ys.take (i + 1) := by
  rw [List.take_succ_eq_append_getElem hx, List.take_succ_eq_append_getElem hy, h]
  simp [hx, hy] at he
  rw [he]
theorem take_all {α : Type} {xs ys : List α} {i : Nat} (h : xs.take i = ys.take i) (hx : ¬ (i : Int) < xs.length) (hl : xs.length = ys.length) : xs = ys := by
  rw [List.take_of_length_le (by omega), List.take_of_length_le (by omega)] at h
  exact h
theorem getD_mem {α : Type} [Inhabited α] {xs : List α} {i : Nat} (h : i < xs.length) : xs.getD i default ∈ xs := by
  simp [h]
/-- The first place that a test takes; -1 if there is none. -/
def findFirst {α : Type} (p : α → Bool) (xs : List α) : Int := match xs.findIdx? p with
  | some i => i
  | none => -1
theorem any_step {α : Type} [Inhabited α] {p : α → Bool} {xs : List α} {i : Nat} (h : (xs.take i).any p = false) (hx : i < xs.length) (hp : p (xs.getD i default) = false) : (xs.take (i + 1)).any p = false := by
  rw [List.take_succ_eq_append_getElem hx, List.any_append, h]
  simp [hx] at hp
  simp [hp]
theorem findFirst_here {α : Type} [Inhabited α] {p : α → Bool} {xs : List α} {i : Nat} (h : (xs.take i).any p = false) (hx : i < xs.length) (hp : p (xs.getD i default) = true) : findFirst p xs = i := by
  unfold findFirst
  have : xs.findIdx? p = some i := by
    rw [List.findIdx?_eq_some_iff_getElem]
    simp [hx] at hp
    refine ⟨hx, hp, fun j hj => ?_⟩
    have := List.any_eq_false.1 h xs[j] (by rw [List.mem_take_iff_getElem]; exact ⟨j, by omega, rfl⟩)
    simpa using this
  rw [this]
theorem findFirst_none {α : Type} {p : α → Bool} {xs : List α} {i : Nat} (h : (xs.take i).any p = false) (hx : ¬ (i : Int) < xs.length) : findFirst p xs = -1 := by
  rw [List.take_of_length_le (by omega)] at h
  unfold findFirst
  have : xs.findIdx? p = none := by
    rw [List.findIdx?_eq_none_iff]
    intro x hx
    have := List.any_eq_false.1 h x hx
    simpa using this
  rw [this]
theorem findFirst_any {α : Type} {p : α → Bool} {xs : List α} : decide ((0 : Int) ≤ findFirst p xs) = xs.any p := by
  unfold findFirst
  cases h : xs.findIdx? p with
  | none =>
    rw [List.findIdx?_eq_none_iff] at h
    have : xs.any p = false := List.any_eq_false.2 (fun x hx => by simp [h x hx])
    simp [this]
  | some i =>
    rw [List.findIdx?_eq_some_iff_getElem] at h
    obtain ⟨hi, hp, _⟩ := h
    have : xs.any p = true := List.any_eq_true.2 ⟨xs[i], List.getElem_mem hi, hp⟩
    simp only [this, decide_eq_true_eq]
    omega
end Go.X

/- Games, in plain numbers and lists. No condition. -/
set_option linter.unusedVariables false
namespace Go.X
structure G where
  S : Int
  C : Int
  K : Int
  next : List Int
  good : List Bool
def gcheck (g : G) : Int :=
  if g.S < 1 ∨ 400 < g.S ∨ g.C < 1 ∨ 16 < g.C ∨ g.K < 1 ∨ 16 < g.K then 2
  else if (g.next.length : Int) ≠ g.S * g.C * g.K ∨ (g.good.length : Int) ≠ g.S then 1
  else if g.next.any (fun n => decide (n < -1) || decide (g.S ≤ n)) = true then 6 else 0
theorem mul_bd {a b m n : Int} (h1 : 1 ≤ a) (h2 : a ≤ m) (h3 : 1 ≤ b) (h4 : b ≤ n) : 1 ≤ a * b ∧ a * b ≤ m * n := by
  have e1 : 1 * 1 ≤ a * b := Int.mul_le_mul h1 h3 (by omega) (by omega)
  have e2 : a * b ≤ m * n := Int.mul_le_mul h2 h4 (by omega) (by omega)
  omega
theorem g_bd {S C K : Int} (h : ¬ (((((S < 1 ∨ 400 < S) ∨ C < 1) ∨ 16 < C) ∨ K < 1) ∨ 16 < K)) : 1 ≤ S * C ∧ S * C ≤ 6400 ∧ 1 ≤ S * C * K ∧ S * C * K ≤ 102400 := by
  have h1 := mul_bd (a := S) (b := C) (m := 400) (n := 16) (by omega) (by omega) (by omega) (by omega)
  have h2 := mul_bd (a := S * C) (b := K) (m := 6400) (n := 16) (by omega) (by omega) (by omega) (by omega)
  omega
/-- What is known of a valid game. -/
structure Ok (S C K : Nat) (next : List Int) (good : List Bool) : Prop where
  s1 : 1 ≤ S
  s2 : S ≤ 400
  c1 : 1 ≤ C
  c2 : C ≤ 16
  k1 : 1 ≤ K
  k2 : K ≤ 16
  len : next.length = S * C * K
  glen : good.length = S
  inr : ∀ n ∈ next, -1 ≤ n ∧ n < S
theorem gcheck_ok {g : G} (h : gcheck g = 0) : ∃ S C K : Nat, g.S = S ∧ g.C = C ∧ g.K = K ∧ Ok S C K g.next g.good := by
  unfold gcheck at h
  split at h
  · omega
  · rename_i h1
    split at h
    · omega
    · rename_i h2
      split at h
      · omega
      · rename_i h3
        obtain ⟨S, hS⟩ := Int.eq_ofNat_of_zero_le (a := g.S) (by omega)
        obtain ⟨C, hC⟩ := Int.eq_ofNat_of_zero_le (a := g.C) (by omega)
        obtain ⟨K, hK⟩ := Int.eq_ofNat_of_zero_le (a := g.K) (by omega)
        rw [hS, hC, hK] at h1 h2
        have hl : (g.next.length : Int) = ((S * C * K : Nat) : Int) := by
          have : (g.next.length : Int) = S * C * K := by omega
          rw [this]; simp
        refine ⟨S, C, K, hS, hC, hK, by omega, by omega, by omega, by omega, by omega, by omega, by omega, by omega, fun n hn => ?_⟩
        have h4 : g.next.any (fun n => decide (n < -1) || decide (g.S ≤ n)) = false := by simpa using h3
        have h5 := List.any_eq_false.1 h4 n hn
        simp only [hS, Bool.or_eq_true, decide_eq_true_eq] at h5
        omega
theorem Ok.sc {S C K : Nat} {next : List Int} {good : List Bool} (h : Ok S C K next good) : 1 ≤ S * C ∧ S * C ≤ 6400 ∧ 1 ≤ S * C * K ∧ S * C * K ≤ 102400 := by
  have h1 : S * C ≤ 400 * 16 := Nat.mul_le_mul h.s2 h.c2
  have h2 : S * C * K ≤ 6400 * 16 := Nat.mul_le_mul (by omega) h.k2
  have h3 : 0 < S * C := Nat.mul_pos h.s1 h.c1
  have h4 : 0 < S * C * K := Nat.mul_pos h3 h.k1
  omega
theorem lead_le {S C K s u : Nat} (hs : s < S) (hu : u < C) : s * C ≤ S * C ∧ s * C + u < S * C ∧ (s * C + u) * K + K ≤ S * C * K := by
  have h1 : (s + 1) * C ≤ S * C := Nat.mul_le_mul_right _ hs
  rw [Nat.add_mul] at h1
  have h2 : (s * C + u + 1) * K ≤ S * C * K := Nat.mul_le_mul_right _ (by omega)
  rw [Nat.add_mul] at h2
  omega
theorem lead_int (s u C K : Nat) : ((s : Int) * C + u) * K = (((s * C + u) * K : Nat) : Int) := by simp
/-- The states that shocks lead to. -/
def leads (next : List Int) (C K s u : Nat) : List Int := (next.drop ((s * C + u) * K)).take K
end Go.X

/- A game without a control; a product of games. No condition. -/
set_option linter.unusedVariables false
namespace Go.X
def zeroG : G := ⟨0, 0, 0, [], []⟩
def cellW (next : List Int) (C K u s v : Nat) : List Int := if v = u then [] else leads next C K s v
def rowW (next : List Int) (C K u s : Nat) : List Int := (List.range C).flatMap (cellW next C K u s)
def rowsW (next : List Int) (C K u s : Nat) : List Int := (List.range s).flatMap (rowW next C K u)
def without (g : G) (u : Int) : G × Int :=
  if gcheck g ≠ 0 then (zeroG, gcheck g)
  else if u < 0 ∨ g.C ≤ u then (zeroG, 1)
  else if g.C = 1 then (zeroG, 2)
  else (⟨g.S, g.C - 1, g.K, rowsW g.next g.C.toNat g.K.toNat u.toNat g.S.toNat, g.good⟩, 0)
theorem without_bad {g : G} {u : Int} (h : gcheck g ≠ 0) : without g u = (zeroG, gcheck g) := by rw [without, if_pos h]
theorem leads_len (next : List Int) (C K s u : Nat) : (leads next C K s u).length ≤ K := by unfold leads; rw [List.length_take]; omega
theorem flat_le {α : Type} (f : Nat → List α) (k : Nat) (h : ∀ i, (f i).length ≤ k) : ∀ n, ((List.range n).flatMap f).length ≤ n * k
  | 0 => by simp
  | n + 1 => by
    have := flat_le f k h n
    have h2 := h n
    rw [List.range_succ, List.flatMap_append, List.length_append]
    simp only [List.flatMap_cons, List.flatMap_nil, List.append_nil]
    rw [Nat.add_mul]
    omega
theorem flat_succ {α : Type} (f : Nat → List α) (n : Nat) : (List.range (n + 1)).flatMap f = (List.range n).flatMap f ++ f n := by
  rw [List.range_succ, List.flatMap_append]; simp
theorem cellW_len (next : List Int) (C K u s v : Nat) : (cellW next C K u s v).length ≤ K := by
  unfold cellW; split
  · simp
  · exact leads_len ..
theorem rowW_len (next : List Int) (C K u s : Nat) : (rowW next C K u s).length ≤ C * K := flat_le _ K (fun v => cellW_len next C K u s v) C
theorem rowsW_len (next : List Int) (C K u s : Nat) : (rowsW next C K u s).length ≤ s * (C * K) := flat_le _ (C * K) (fun s => rowW_len next C K u s) s
theorem partW_len {S C K : Nat} {next : List Int} {good : List Bool} (ok : Ok S C K next good) (u : Nat) {s v : Nat} (hs : s < S) (hv : v < C) :
    (rowsW next C K u s ++ (List.range v).flatMap (cellW next C K u s)).length ≤ 204800 := by
  have h1 := rowsW_len next C K u s
  have h2 := flat_le (cellW next C K u s) K (fun v => cellW_len next C K u s v) v
  have h3 := ok.sc
  have h4 : s * (C * K) ≤ S * (C * K) := Nat.mul_le_mul_right _ (by omega)
  have h5 : v * K ≤ C * K := Nat.mul_le_mul_right _ (by omega)
  have h6 : S * (C * K) = S * C * K := (Nat.mul_assoc ..).symm
  have h7 : 1 * (C * K) ≤ S * (C * K) := Nat.mul_le_mul_right _ ok.s1
  rw [List.length_append]
  omega
end Go.X

/- The reference's game without a control. No condition. -/
set_option linter.unusedVariables false
namespace Go.X
end Go.X

/- A product of games, in plain lists. No condition. -/
set_option linter.unusedVariables false
namespace Go.X
def pxa (an : List Int) (Ca Ka Sb Cb Kb s u w : Nat) : Int := an.getD ((s / Sb * Ca + u / Cb) * Ka + w / Kb) 0
def pxb (bn : List Int) (Sb Cb Kb s u w : Nat) : Int := bn.getD ((s % Sb * Cb + u % Cb) * Kb + w % Kb) 0
def pcell (an bn : List Int) (Ca Ka Sb Cb Kb s u w : Nat) : Int :=
  if pxa an Ca Ka Sb Cb Kb s u w < 0 ∨ pxb bn Sb Cb Kb s u w < 0 then -1 else pxa an Ca Ka Sb Cb Kb s u w * Sb + pxb bn Sb Cb Kb s u w
def pnext (an bn : List Int) (Ca Ka Sb Cb Kb C K n : Nat) : Int := pcell an bn Ca Ka Sb Cb Kb (n / K / C) (n / K % C) (n % K)
def pgood (ag bg : List Bool) (Sb s : Nat) : Bool := ag.getD (s / Sb) false && bg.getD (s % Sb) false
def product (a b : G) : G × Int :=
  if gcheck a ≠ 0 then (zeroG, gcheck a)
  else if gcheck b ≠ 0 then (zeroG, gcheck b)
  else if 400 < a.S * b.S ∨ 16 < a.C * b.C ∨ 16 < a.K * b.K then (zeroG, 2)
  else (⟨a.S * b.S, a.C * b.C, a.K * b.K,
      (List.range ((a.S * b.S).toNat * (a.C * b.C).toNat * (a.K * b.K).toNat)).map (pnext a.next b.next a.C.toNat a.K.toNat b.S.toNat b.C.toNat b.K.toNat (a.C * b.C).toNat (a.K * b.K).toNat),
      (List.range (a.S * b.S).toNat).map (pgood a.good b.good b.S.toNat)⟩, 0)
theorem leads_getD {next : List Int} {C K s u w : Nat} (hw : w < K) : (leads next C K s u).getD w default = next.getD ((s * C + u) * K + w) 0 := by
  unfold leads
  rw [List.getD_eq_getElem?_getD, List.getElem?_take, if_pos hw, List.getElem?_drop, List.getD_eq_getElem?_getD]
  rfl
theorem leads_length {next : List Int} {C K s v : Nat} (hl : (s * C + v) * K + K ≤ next.length) : (leads next C K s v).length = K := by
  unfold leads; rw [List.length_take, List.length_drop]; omega
theorem Ok.get {S C K : Nat} {next : List Int} {good : List Bool} (h : Ok S C K next good) (i : Nat) : -1 ≤ next.getD i 0 ∧ next.getD i 0 < S := by
  have h1 := h.s1
  rw [List.getD_eq_getElem?_getD]
  cases hi : next[i]? with
  | none => simp; omega
  | some x => exact h.inr x (List.mem_of_getElem? hi)
theorem div_lt' {s Sa Sb : Nat} (h : s < Sa * Sb) : s / Sb < Sa ∧ s % Sb < Sb := by
  have hp : 0 < Sb := by rcases Nat.eq_zero_or_pos Sb with rfl | h1 <;> simp_all
  exact ⟨Nat.div_lt_of_lt_mul (by rw [Nat.mul_comm]; exact h), Nat.mod_lt _ hp⟩
theorem pnext_at {an bn : List Int} {Ca Ka Sb Cb Kb C K s u w : Nat} (hu : u < C) (hw : w < K) :
    pnext an bn Ca Ka Sb Cb Kb C K ((s * C + u) * K + w) = pcell an bn Ca Ka Sb Cb Kb s u w := by
  have hk : 0 < K := by omega
  have hc : 0 < C := by omega
  have h1 : ((s * C + u) * K + w) / K = s * C + u := by
    rw [Nat.mul_comm, Nat.mul_add_div hk, Nat.div_eq_of_lt hw]; rfl
  have h2 : ((s * C + u) * K + w) % K = w := by
    rw [Nat.mul_comm, Nat.mul_add_mod, Nat.mod_eq_of_lt hw]
  have h3 : (s * C + u) / C = s := by
    rw [Nat.mul_comm, Nat.mul_add_div hc, Nat.div_eq_of_lt hu]; rfl
  have h4 : (s * C + u) % C = u := by
    rw [Nat.mul_comm, Nat.mul_add_mod, Nat.mod_eq_of_lt hu]
  unfold pnext
  rw [h1, h2, h3, h4]
theorem range_map_succ {α : Type} (f : Nat → α) (n : Nat) : (List.range (n + 1)).map f = (List.range n).map f ++ [f n] := by
  rw [List.range_succ, List.map_append]; rfl
end Go.X

/- The reference's product of games. No condition. -/
set_option linter.unusedVariables false
namespace Go.X
end Go.X

/- Safe sets, in plain lists. No condition. -/
set_option linter.unusedVariables false
namespace Go.X
def bad (ins : List Bool) (n : Int) : Bool := decide (n < 0) || !(ins.getD n.toNat false)
def keepsP (next : List Int) (C K : Nat) (ins : List Bool) (s u : Nat) : Bool := !((leads next C K s u).any (bad ins))
def insL (ins : List Bool) : List Nat := (List.range ins.length).filter fun s => ins.getD s false
theorem filter_at {p : Nat → Bool} {n s : Nat} (hs : s < n) (hp : p s = true) :
    ((List.range s).filter p).length < ((List.range n).filter p).length ∧ ((List.range n).filter p)[((List.range s).filter p).length]? = some s := by
  have h1 : List.range n = List.range s ++ s :: (List.range' (s + 1) (n - s - 1)) := by
    rw [List.range_eq_range', List.range_eq_range', ← List.range'_succ]
    have := List.range'_append_1 (s := 0) (m := s) (n := n - s - 1 + 1)
    rw [Nat.zero_add] at this
    rw [this]
    congr 1
    omega
  rw [h1, List.filter_append, List.filter_cons, if_pos hp]
  constructor
  · simp
  · rw [List.getElem?_append_right (Nat.le_refl _)]
    simp
theorem filter_succ {p : Nat → Bool} {s : Nat} : ((List.range (s + 1)).filter p).length = ((List.range s).filter p).length + if p s = true then 1 else 0 := by
  rw [List.range_succ, List.filter_append, List.length_append]
  by_cases h : p s = true <;> simp [h]
end Go.X

/- The safe set of a game, round after round. No condition. -/
set_option linter.unusedVariables false
namespace Go.X
def ctlOf (next : List Int) (C K : Nat) (ins : List Bool) (s : Nat) : Int :=
  match (List.range C).find? (fun u => keepsP next C K ins s u) with
  | some u => u
  | none => -1
def ctlAt (next : List Int) (C K : Nat) (ins : List Bool) (ctl : List Int) (L : List Nat) : List Int := L.foldl (fun c s => c.set s (ctlOf next C K ins s)) ctl
def outsAt (next : List Int) (C K : Nat) (ins : List Bool) (L : List Nat) : List Nat := L.filter fun s => decide (ctlOf next C K ins s < 0)
def setAll {α : Type} (l : List α) (L : List Nat) (x : α) : List α := L.foldl (fun l s => l.set s x) l
def rounds (next : List Int) (C K : Nat) : Nat → Int → List Bool → List Int → List Int → List Bool × List Int × List Int
  | 0, _, ins, ctl, rnk => (ins, ctl, rnk)
  | f + 1, rank, ins, ctl, rnk =>
    if outsAt next C K ins (insL ins) = [] then (ins, ctlAt next C K ins ctl (insL ins), rnk)
    else rounds next C K f (rank + 1) (setAll ins (outsAt next C K ins (insL ins)) false) (ctlAt next C K ins ctl (insL ins)) (setAll rnk (outsAt next C K ins (insL ins)) rank)
def solved (S C K : Nat) (next : List Int) (good : List Bool) : List Bool × List Int × List Int :=
  let x := rounds next C K (S + 1) 1 good (List.replicate S (-1)) (List.replicate S 0)
  (x.1, x.2.1, setAll x.2.2 (insL x.1) (-1))
theorem ctlOf_at {next : List Int} {C K : Nat} {ins : List Bool} {s u : Nat} (hu : u < C) (h : keepsP next C K ins s u = true) (h0 : ∀ u' < u, keepsP next C K ins s u' = false) : ctlOf next C K ins s = u := by
  unfold ctlOf
  have : (List.range C).find? (fun u => keepsP next C K ins s u) = some u := by
    rw [List.find?_range_eq_some]
    exact ⟨h, List.mem_range.2 hu, fun j hj => by simp [h0 j hj]⟩
  rw [this]
theorem ctlOf_none {next : List Int} {C K : Nat} {ins : List Bool} {s : Nat} (h0 : ∀ u' < C, keepsP next C K ins s u' = false) : ctlOf next C K ins s = -1 := by
  unfold ctlOf
  have : (List.range C).find? (fun u => keepsP next C K ins s u) = none := by
    rw [List.find?_range_eq_none]
    exact fun i hi => by simp [h0 i hi]
  rw [this]
theorem take_snoc {α : Type} {L : List α} {i : Nat} {s : α} (h : L[i]? = some s) : L.take (i + 1) = L.take i ++ [s] := by
  rw [List.take_add_one, h]; rfl
theorem ctlAt_snoc {next : List Int} {C K : Nat} {ins : List Bool} {ctl : List Int} {L : List Nat} {s : Nat} : ctlAt next C K ins ctl (L ++ [s]) = (ctlAt next C K ins ctl L).set s (ctlOf next C K ins s) := by
  simp [ctlAt, List.foldl_append]
theorem ctlAt_len {next : List Int} {C K : Nat} {ins : List Bool} {L : List Nat} : ∀ {ctl : List Int}, (ctlAt next C K ins ctl L).length = ctl.length := by
  unfold ctlAt
  induction L with
  | nil => intro ctl; rfl
  | cons s L ih => intro ctl; rw [List.foldl_cons, ih, List.length_set]
theorem setAll_snoc {α : Type} {l : List α} {L : List Nat} {s : Nat} {x : α} : setAll l (L ++ [s]) x = (setAll l L x).set s x := by simp [setAll, List.foldl_append]
theorem setAll_len {α : Type} {L : List Nat} {x : α} : ∀ {l : List α}, (setAll l L x).length = l.length := by
  unfold setAll
  induction L with
  | nil => intro l; rfl
  | cons s L ih => intro l; rw [List.foldl_cons, ih, List.length_set]
theorem insL_mem {ins : List Bool} {i s : Nat} (h : (insL ins)[i]? = some s) : s < ins.length ∧ ins.getD s false = true := by
  have := List.mem_of_getElem? h
  unfold insL at this
  rw [List.mem_filter, List.mem_range] at this
  exact this
theorem count_set_le (l : List Bool) (s : Nat) : (l.set s false).count true ≤ l.count true := by
  by_cases h : s < l.length
  · rw [List.count_set h]; simp
  · rw [List.set_eq_of_length_le (by omega)]; exact Nat.le_refl _
theorem count_setAll_le (L : List Nat) : ∀ l : List Bool, (setAll l L false).count true ≤ l.count true := by
  induction L with
  | nil => intro l; exact Nat.le_refl _
  | cons s L ih => intro l; exact Nat.le_trans (ih (l.set s false)) (count_set_le l s)
theorem count_setAll_lt {L : List Nat} {l : List Bool} (h : L ≠ []) (hm : ∀ s ∈ L, s < l.length ∧ l.getD s false = true) : (setAll l L false).count true < l.count true := by
  cases L with
  | nil => exact absurd rfl h
  | cons s L =>
    obtain ⟨h1, h2⟩ := hm s List.mem_cons_self
    refine Nat.lt_of_le_of_lt (count_setAll_le L (l.set s false)) ?_
    rw [List.count_set h1]
    have h3 : l[s] = true := by rw [List.getD_eq_getElem?_getD, List.getElem?_eq_getElem h1] at h2; exact h2
    have h4 : 0 < l.count true := List.count_pos_iff.2 (h3 ▸ List.getElem_mem h1)
    simp [h3]
    omega
end Go.X
namespace Go.X
theorem outs_no {next : List Int} {C K : Nat} {ins : List Bool} {L : List Nat} {s : Nat} (h : ¬ ctlOf next C K ins s < 0) : outsAt next C K ins (L ++ [s]) = outsAt next C K ins L := by
  simp [outsAt, List.filter_append, h]
theorem outs_yes {next : List Int} {C K : Nat} {ins : List Bool} {L : List Nat} {s : Nat} (h : ctlOf next C K ins s < 0) : outsAt next C K ins (L ++ [s]) = outsAt next C K ins L ++ [s] := by
  simp [outsAt, List.filter_append, h]
theorem outs_le {next : List Int} {C K : Nat} {ins : List Bool} {i : Nat} : (outsAt next C K ins ((insL ins).take i)).length ≤ ins.length := by
  unfold outsAt
  refine Nat.le_trans (List.length_filter_le ..) ?_
  rw [List.length_take]
  refine Nat.le_trans (Nat.min_le_right ..) ?_
  unfold insL
  refine Nat.le_trans (List.length_filter_le ..) ?_
  simp
end Go.X

/- Operations under a guard that is known to hold. No condition. -/
set_option linter.unusedSimpArgs false
set_option linter.unusedVariables false
namespace Go.X
section
variable {P : Program} {ops : Array Oper} {e : Env} {o r : List PHeap} {d : Option Tmp} {ty : TypeId} {pos : String} {aft : Array Edge}
theorem Stp.want {op : Op} {j gt : Nat} {want b : Bool} {Ψ : Value → List PHeap → Prop} (hj : (ops[j]?).bind (·.dst) = some gt) (hg : find e gt = some (.bool b)) (hb : b = want)
    (s : Stp P ops ⟨d, op, ty, pos, aft, none⟩ e o r Ψ) : Stp P ops ⟨d, op, ty, pos, aft, some (j, want)⟩ e o r Ψ := fun D a w he hs => by
  have h := s D a w he hs
  have hw := wanted_guard (d := d) (ty := ty) (pos := pos) (aft := aft) (want := want) (op := op) hj (he gt _ hg)
  have hx : execOp (evA a) (⟨d, op, ty, pos, aft, some (j, want)⟩ : Oper) = execOp (evA a) (⟨d, op, ty, pos, aft, none⟩ : Oper) := rfl
  unfold Does at h ⊢
  rw [hw, hx, if_pos (by simp [hb])]
  rwa [if_pos (by simp [Region.wanted])] at h
end
section
variable {c : Cx} {ops : Array Oper} {rest : List Oper} {k : List Item} {e : Env} {o r : List PHeap} {d : Nat} {ty : TypeId} {pos : String} {aft : Array Edge}
variable {α : Type} {enc : α → List Value} {sz : Nat} {h : PHeap} {xs : List α} {v : Value}
theorem XO.litG {t el : TypeId} [u : Und c.P t (.slice el)] [z : TySize c.P el sz] {zs : List Value} [zz : Zero c.P el zs] {n : Nat} {l : List (Nat × Operand)} {j gt : Nat} {want b : Bool} (zl cs : List Value) (xs : List α) (enc : α → List Value)
    (hj : (ops[j]?).bind (·.dst) = some gt) (hg : find e gt = some (.bool b)) (hb : b = want)
    (hzs : zs.length = sz) (hsz : Nat.blt 0 sz = true) (hn : Nat.ble (n * sz) 16777216 = true) (hzl : (List.replicate n zs).flatten = zl) (hf : Fill e (fun i => some (i * sz, sz)) l zl cs)
    (henc : ∀ x, (enc x).length = sz) (hcs : xs.flatMap enc = cs) (hxn : xs.length = n) (ho : Ones cs) (hle : Nat.ble n 16777216 = true)
    (hnx : ∀ v' h', OArr v' enc sz el h' xs → XO c ops rest k ((d, some v') :: e) (h' :: o) r) :
    XO c ops (⟨some d, .buildSlice t n l.toArray, ty, pos, aft, some (j, want)⟩ :: rest) k e o r :=
  XO.s (Stp.want hj hg hb ((Makes.lit cs hzs hsz hn (by rw [hzl]; exact hf)).stp _ _)) fun _ _ ⟨b, hv, ho'⟩ => by subst hv ho'; exact hnx _ _ (OArr.lit xs enc henc hcs hxn ho hle)
end
end Go.X

/- The example of the chapter. No condition. -/
set_option linter.unusedVariables false
namespace Go.X
def solveG (g : G) : List Bool × List Int × List Int := if gcheck g ≠ 0 then ([], [], []) else solved g.S.toNat g.C.toNat g.K.toNat g.next g.good
def exG : G := ⟨3, 2, 2, [0, 1, 0, 0, 1, 2, 0, 1, 2, 2, 2, 2], [true, true, false]⟩
theorem ex1 : gcheck exG = 0 := by decide +kernel
theorem ex2 : (without exG 1).2 = 0 := by decide +kernel
theorem ex3 : gcheck (without exG 1).1 = 0 := by decide +kernel
theorem ex4 : (product exG exG).2 = 0 := by decide +kernel
theorem ex5 : gcheck (product exG exG).1 = 0 := by decide +kernel
theorem ex6 : (solveG exG).1 = [true, true, false] := by decide +kernel
theorem ex7 : (solveG exG).2.1 = [0, 1, -1] := by decide +kernel
theorem ex8 : (solveG exG).2.2 = [-1, -1, 0] := by decide +kernel
theorem ex9 : (solveG (without exG 1).1).2.2 = [2, 1, 0] := by decide +kernel
theorem ex10 : (solveG (product exG exG).1).1.count true = 4 := by decide +kernel
theorem count_snoc {l : List Bool} {i : Nat} (hi : i < l.length) : (l.take (i + 1)).count true = (l.take i).count true + if l.getD i default = true then 1 else 0 := by
  rw [List.take_add_one, List.getElem?_eq_getElem hi, Option.toList_some, List.count_append, List.getD_eq_getElem?_getD, List.getElem?_eq_getElem hi, Option.getD_some]
  congr 1
  cases l[i] <;> simp
end Go.X

/- Guards within guards. No condition. -/
set_option linter.unusedSimpArgs false
set_option linter.unusedVariables false
namespace Go.X
theorem bpT {b : Bool} {p : Prop} [t : BoolP b p] (h : b = true) : p := t.pf.1 h
theorem bpF {b : Bool} {p : Prop} [t : BoolP b p] (h : b = false) : ¬ p := fun hp => by rw [t.pf.2 hp] at h; cases h
theorem wanted_val {ops : Array Oper} {d : Option Tmp} {op : Op} {ty : TypeId} {pos : String} {aft : Array Edge} {j : Nat} {want : Bool} {g : Nat} {a : Array Value} {v : Value} (hj : (ops[j]?).bind (·.dst) = some g) (hv : a.getD g undef = v) (hn : v ≠ .bool want) :
    Region.wanted ⟨d, op, ty, pos, aft, some (j, want)⟩ (yielded ops a) = false := by
  have hy : yielded ops a j ≠ some want := by
    unfold yielded
    rw [hj]
    simp only [Option.bind_some]
    rcases Nat.lt_or_ge g a.size with hlt | hge
    · have e1 : a[g]? = some a[g] := Array.getElem?_eq_getElem hlt
      have e2 : a[g] = v := by simpa [hlt] using hv
      rw [e1, e2]
      intro h
      cases v <;> simp_all
    · rw [Array.getElem?_eq_none hge]
      simp
  simp only [Region.wanted]
  simpa using hy
/-- What the value at g tells: φ, or not. -/
def Tells (e : Env) (g : Nat) (want : Bool) (φ : Prop) : Prop := ∃ v, find e g = some v ∧ (φ → v = .bool want) ∧ (¬ φ → v ≠ .bool want)
theorem undef_ne {b : Bool} : undef ≠ .bool b := by simp [undef]
theorem Tells.d1 {e : Env} {g : Nat} {want b : Bool} (h : find e g = some (.bool b)) : Tells e g want (b = want) :=
  ⟨_, h, fun hb => by rw [hb], fun hb hv => hb (by simpa using hv)⟩
theorem Tells.d2 {e : Env} {g : Nat} {want b b1 w1 : Bool} (h : find e g = some (lz b1 w1 (.bool b))) : Tells e g want (b1 = w1 ∧ b = want) :=
  ⟨_, h, fun ⟨h1, h2⟩ => by simp [lz, h1, h2], fun hn hv => by
    unfold lz at hv
    split at hv
    · exact hn ⟨‹_›, by simpa using hv⟩
    · exact undef_ne hv⟩
theorem Tells.d3 {e : Env} {g : Nat} {want b b1 w1 b2 w2 : Bool} (h : find e g = some (lz b1 w1 (lz b2 w2 (.bool b)))) : Tells e g want (b1 = w1 ∧ b2 = w2 ∧ b = want) :=
  ⟨_, h, fun ⟨h1, h2, h3⟩ => by simp [lz, h1, h2, h3], fun hn hv => by
    unfold lz at hv
    split at hv
    · split at hv
      · exact hn ⟨‹_›, ‹_›, by simpa using hv⟩
      · exact undef_ne hv
    · exact undef_ne hv⟩
section
variable {P : Program} {ops : Array Oper} {e : Env} {o r : List PHeap} {d : Option Tmp} {ty : TypeId} {pos : String} {aft : Array Edge}
theorem Tells.no {φ : Prop} {j : Nat} {want : Bool} {g : Nat} {op : Op} {a : Array Value} (hj : (ops[j]?).bind (·.dst) = some g) (t : Tells e g want φ) (he : ERel e a) (hn : ¬ φ) :
    Region.wanted ⟨d, op, ty, pos, aft, some (j, want)⟩ (yielded ops a) = false := by
  obtain ⟨v, h1, _, h3⟩ := t
  exact wanted_val hj (he _ _ h1) (h3 hn)
theorem Tells.yes {φ : Prop} {j : Nat} {want : Bool} {g : Nat} {op : Op} {a : Array Value} (hj : (ops[j]?).bind (·.dst) = some g) (t : Tells e g want φ) (he : ERel e a) (hn : φ) :
    Region.wanted ⟨d, op, ty, pos, aft, some (j, want)⟩ (yielded ops a) = true := by
  obtain ⟨v, h1, h2, _⟩ := t
  have := he _ _ h1
  rw [h2 hn] at this
  rw [wanted_guard hj this]
  simp
theorem Quiet.tells {φ : Prop} {op : Op} {v v' : Value} {j : Nat} {want : Bool} {g : Nat} (hj : (ops[j]?).bind (·.dst) = some g) (t : Tells e g want φ) (h1 : φ → v' = v) (h2 : ¬ φ → v' = undef)
    (h : φ → Quiet P ops ⟨d, op, ty, pos, aft, none⟩ e o r v) : Quiet P ops ⟨d, op, ty, pos, aft, some (j, want)⟩ e o r v' := by
  intro a w he hr
  by_cases hp : φ
  · rcases h hp a w he hr with ⟨_, h3⟩ | ⟨h3, _⟩
    · left
      refine ⟨t.yes hj he hp, ?_⟩
      rw [h1 hp]
      exact h3
    · simp [Region.wanted] at h3
  · exact .inr ⟨t.no hj he hp, h2 hp⟩
theorem Quiet.guard2 {op : Op} {v : Value} {j : Nat} {want b b1 w1 : Bool} {g : Nat} (hj : (ops[j]?).bind (·.dst) = some g) (hg : find e g = some (lz b1 w1 (.bool b)))
    (h : b1 = w1 → b = want → Quiet P ops ⟨d, op, ty, pos, aft, none⟩ e o r v) : Quiet P ops ⟨d, op, ty, pos, aft, some (j, want)⟩ e o r (lz b1 w1 (lz b want v)) :=
  Quiet.tells hj (.d2 hg) (fun ⟨h1, h2⟩ => by simp [lz, h1, h2]) (fun hn => by
    unfold lz
    split
    · split
      · exact absurd ⟨‹_›, ‹_›⟩ hn
      · rfl
    · rfl) (fun ⟨h1, h2⟩ => h h1 h2)
/-- A call of a function value that only computes, under guards. -/
theorem Stp.vtells {φ : Prop} {x : Operand} {l : List Operand} {tys : Array TypeId} {y : Value} {vs : List Value} {Hr : List PHeap} {u u' : Value} {j : Nat} {want : Bool} {g : Nat}
    (hj : (ops[j]?).bind (·.dst) = some g) (t : Tells e g want φ) (h1 : φ → u' = u) (h2 : ¬ φ → u' = undef) (hx : φ → ev e x = some y) (hl : φ → EvL e l vs) (hS : φ → VSpec P y vs [] Hr (fun v hs => v = u ∧ hs = [])) [al : AllIn Hr o r] :
    Stp P ops ⟨d, .call ⟨.value x, l.toArray, tys⟩, ty, pos, aft, some (j, want)⟩ e o r (fun v o2 => v = u' ∧ o2 = o) := fun D a w he hs => by
  by_cases hp : φ
  · have hw := t.yes (d := d) (ty := ty) (pos := pos) (aft := aft) (op := .call ⟨.value x, l.toArray, tys⟩) hj he hp
    have hx' : (execOp (evA a) (⟨d, .call ⟨.value x, l.toArray, tys⟩, ty, pos, aft, some (j, want)⟩ : Oper)) = callv y vs.toArray := by
      simp only [execOp, resolve, ev_rel he (hx hp), List.map_toArray, (hl hp).rel he, callv]
    have h := hS hp (D :: o) r w hs (al.more D).pf
    unfold Does
    rw [hw, if_pos rfl, hx']
    unfold NDoes at h
    split at h <;> rename_i heq
    · rw [heq]
      refine h.mono ?_
      rintro e' w' ⟨v, rfl, hs', ⟨rfl, rfl⟩, hS'⟩
      exact ⟨v, rfl, D :: o, ⟨o, ⟨(h1 hp).symm, rfl⟩, List.Perm.refl _⟩, hS'⟩
    · rw [heq]
      intro c0 cs
      obtain ⟨v, w', ⟨hs', ⟨rfl, rfl⟩, hS'⟩, st⟩ := h c0 cs
      exact ⟨v, w', ⟨D :: o, ⟨o, ⟨(h1 hp).symm, rfl⟩, List.Perm.refl _⟩, hS'⟩, st⟩
    · exact h.elim
  · unfold Does
    rw [t.no hj he hp]
    exact ⟨D :: o, ⟨o, ⟨(h2 hp).symm, rfl⟩, List.Perm.refl _⟩, hs⟩
end
section
variable {c : Cx} {ops : Array Oper} {rest : List Oper} {k : List Item} {e : Env} {o r : List PHeap} {d : Nat} {ty : TypeId} {pos : String} {aft : Array Edge}
variable {fl : List Nat} {f : List PHeap} {i0 : Nat} {bb : Bool} {tt uu : Plan}
section
variable {x : Operand} {l : List Operand} {tys : Array TypeId} {y : Value} {vs : List Value} {Hr : List PHeap} {u : Value} {j g : Nat} {want b b1 w1 b2 w2 : Bool}
theorem XO.vg2 (hj : (ops[j]?).bind (·.dst) = some g) (hg : find e g = some (lz b1 w1 (.bool b))) (hx : b1 = w1 → b = want → ev e x = some y) (hl : b1 = w1 → b = want → EvL e l vs)
    (hS : b1 = w1 → b = want → VSpec c.P y vs [] Hr (fun v hs => v = u ∧ hs = [])) [al : AllIn Hr o (c.B :: r)] (h : XO c ops rest k ((d, some (lz b1 w1 (lz b want u))) :: e) o r) :
    XO c ops (⟨some d, .call ⟨.value x, l.toArray, tys⟩, ty, pos, aft, some (j, want)⟩ :: rest) k e o r :=
  XO.s (Stp.vtells hj (.d2 hg) (u' := lz b1 w1 (lz b want u)) (fun h => by simp [lz, h.1, h.2]) (fun h => by
    unfold lz
    split
    · split
      · exact absurd ⟨‹_›, ‹_›⟩ h
      · rfl
    · rfl) (fun h => hx h.1 h.2) (fun h => hl h.1 h.2) (fun h => hS h.1 h.2)) fun v o2 ⟨h1, h2⟩ => by subst h1 h2; exact h
theorem XT.vg2 (hi : ops[i0]? = some ⟨some d, .call ⟨.value x, l.toArray, tys⟩, ty, pos, aft, some (j, want)⟩) (hok : okOper c.N ⟨some d, .call ⟨.value x, l.toArray, tys⟩, ty, pos, aft, some (j, want)⟩ = true)
    (hj : (ops[j]?).bind (·.dst) = some g) (hg : find e g = some (lz b1 w1 (.bool b))) (hx : b1 = w1 → b = want → ev e x = some y) (hl : b1 = w1 → b = want → EvL e l vs)
    (hS : b1 = w1 → b = want → VSpec c.P y vs [] Hr (fun v hs => v = u ∧ hs = [])) [al : AllIn Hr o (c.B :: r)] (h : Keeps bb f o ∧ XT c ops fl f k r tt ((d, some (lz b1 w1 (lz b want u))) :: e) o) (hu : XT c ops fl f k r uu e o) :
    XT c ops fl f k r (.br i0 bb tt uu) e o :=
  XT.s hi hok (Stp.vtells hj (.d2 hg) (u' := lz b1 w1 (lz b want u)) (fun h => by simp [lz, h.1, h.2]) (fun h => by
    unfold lz
    split
    · split
      · exact absurd ⟨‹_›, ‹_›⟩ h
      · rfl
    · rfl) (fun h => hx h.1 h.2) (fun h => hl h.1 h.2) (fun h => hS h.1 h.2)) (fun v o2 ⟨h1, h2⟩ => by subst h1 h2; exact h) hu
end
end
end Go.X

/- Shifts and bits, whatever they give. No condition. -/
set_option linter.unusedSimpArgs false
set_option linter.unusedVariables false
namespace Go.X
section
variable {P : Program} {ops : Array Oper} {e : Env} {o r : List PHeap} {d : Option Tmp} {ty : TypeId} {pos : String} {aft : Array Edge}
end
end Go.X

/- Calls under a guard that is known to hold. No condition. -/
set_option linter.unusedSimpArgs false
set_option linter.unusedVariables false
namespace Go.X
section
variable {c : Cx} {ops : Array Oper} {rest : List Oper} {k : List Item} {e : Env} {o r : List PHeap} {d : Nat} {ty : TypeId} {pos : String} {aft : Array Edge}
variable {fl : List Nat} {f : List PHeap} {i0 : Nat} {bb : Bool} {tt uu : Plan}
theorem EvL.evs {e : Env} : ∀ {l : List Operand} {vs : List Value}, EvL e l vs → evs e l = some vs
  | [], _, .n => rfl
  | x :: l, _, .c h r => by simp only [X.evs, h, EvL.evs r]
theorem XO.callS {g : FuncId} {x : Operand} {l : List Operand} {tys : Array TypeId} {fst vs cap A : List Value} {Hm Hr : List PHeap} {R : Value → List PHeap → Prop} {o1 : List PHeap} {j gt : Nat} {want b : Bool}
    (hj : (ops[j]?).bind (·.dst) = some gt) (hg : find e gt = some (.bool b)) (hb : b = want)
    (hc : ∀ args w, (callFunc g args).run c.P w = .ok (.enter g args) w) (hx : ev e x = some (.func (.func g) fst.toArray cap.toArray)) (hl : EvL e l vs) (hA : fst ++ vs ++ cap = A)
    (hS : Spec c.P g A.toArray Hm Hr R) [t : Takes Hm o o1] [al : AllIn Hr o1 (c.B :: r)] (h : ∀ v hs, R v hs → XO c ops rest k ((d, some v) :: e) (hs ++ o1) r) :
    XO c ops (⟨some d, .call ⟨.value x, l.toArray, tys⟩, ty, pos, aft, some (j, want)⟩ :: rest) k e o r :=
  XO.s (Stp.want hj hg hb (Stp.call hc hx hl.evs hA hS)) fun v o2 ⟨hs, hR, h2⟩ => by subst h2; exact h v hs hR
theorem XT.callS {g : FuncId} {x : Operand} {l : List Operand} {tys : Array TypeId} {fst vs cap A : List Value} {Hm Hr : List PHeap} {R : Value → List PHeap → Prop} {o1 : List PHeap} {j gt : Nat} {want b : Bool}
    (hi : ops[i0]? = some ⟨some d, .call ⟨.value x, l.toArray, tys⟩, ty, pos, aft, some (j, want)⟩) (hok : okOper c.N ⟨some d, .call ⟨.value x, l.toArray, tys⟩, ty, pos, aft, some (j, want)⟩ = true)
    (hj : (ops[j]?).bind (·.dst) = some gt) (hg : find e gt = some (.bool b)) (hb : b = want)
    (hc : ∀ args w, (callFunc g args).run c.P w = .ok (.enter g args) w) (hx : ev e x = some (.func (.func g) fst.toArray cap.toArray)) (hl : EvL e l vs) (hA : fst ++ vs ++ cap = A)
    (hS : Spec c.P g A.toArray Hm Hr R) [tk : Takes Hm o o1] [al : AllIn Hr o1 (c.B :: r)] (h : ∀ v hs, R v hs → Keeps bb f (hs ++ o1) ∧ XT c ops fl f k r tt ((d, some v) :: e) (hs ++ o1)) (hu : XT c ops fl f k r uu e o) :
    XT c ops fl f k r (.br i0 bb tt uu) e o :=
  XT.s hi hok (Stp.want hj hg hb (Stp.call hc hx hl.evs hA hS)) (fun v o2 ⟨hs, hR, h2⟩ => by subst h2; exact h v hs hR) hu
end
end Go.X

/- The place of a field of an element. No condition. -/
namespace Go.X
variable {P : Program} {ops : Array Oper} {e : Env} {o r : List PHeap} {d : Option Tmp} {ty : TypeId} {pos : String} {aft : Array Edge}
variable {α : Type} {enc : α → List Value} {sz : Nat} {h : PHeap} {xs : List α} {v : Value}
theorem Q.fieldQ {s' f off : Nat} [fl : Fld P s' f off] {x : Operand} {i k : Nat} (hx : ev e x = some (pat v sz i k)) [s : Arr v enc sz h xs] (hi : i < xs.length) :
    Quiet P ops ⟨d, .fieldAddr s' x f, ty, pos, aft, none⟩ e o r (pat v sz i (k + off)) := Q.fieldP (n := 0) hx hi
end Go.X

/- Halls, in plain numbers and lists. No condition. -/
set_option linter.unusedVariables false
namespace Go.X
structure HRoom where
  store : Int
  limit : Int
structure HWall where
  a : Int
  b : Int
  pass : Int
structure HBranch where
  up : Int
  opn : Int
  leak : Int
structure HCooler where
  room : Int
  br : Int
  gain : Int
  carry : Int
  supply : Int
instance : Inhabited HRoom := ⟨⟨0, 0⟩⟩
instance : Inhabited HWall := ⟨⟨0, 0, 0⟩⟩
instance : Inhabited HBranch := ⟨⟨0, 0, 0⟩⟩
instance : Inhabited HCooler := ⟨⟨0, 0, 0, 0, 0⟩⟩
structure Hall where
  rooms : List HRoom
  walls : List HWall
  branches : List HBranch
  coolers : List HCooler
structure HCase where
  load : List Int
  out : Int
  pump : Int
def sumTo (f : Nat → Int) : Nat → Int
  | 0 => 0
  | n + 1 => sumTo f n + f n
def inP (n m : Int) : Bool := decide (0 ≤ n) && decide (n ≤ m)
def ixP (n : Int) (len : Nat) : Bool := decide (0 ≤ n) && decide (n < (len : Int))
def okRoom (x : HRoom) : Bool := (decide (1 ≤ x.store) && decide (x.store ≤ 1000000)) && inP x.limit 1000000
def okWall (n : Nat) (x : HWall) : Bool := ((ixP x.a n && (decide (x.b = -1) || ixP x.b n)) && decide (x.a ≠ x.b)) && inP x.pass 100000
def okBranch (i : Nat) (x : HBranch) : Bool := ((if i = 0 then decide (x.up = -1) else ixP x.up i) && inP x.opn 100) && inP x.leak 100000
def okCooler (n m : Nat) (x : HCooler) : Bool := (((ixP x.room n && ixP x.br m) && inP x.gain 100000) && inP x.carry 1000) && inP x.supply 1000000
/-- All of the first n. -/
def allTo (p : Nat → Bool) (n : Nat) : Bool := (List.range n).all p
theorem allTo_succ {p : Nat → Bool} {n : Nat} : allTo p (n + 1) = (allTo p n && p n) := by
  unfold allTo; rw [List.range_succ, List.all_append]; simp
theorem allTo_false {p : Nat → Bool} {n s : Nat} (hs : s < n) (h : p s = false) : allTo p n = false := by
  unfold allTo
  rw [List.all_eq_false]
  exact ⟨s, List.mem_range.2 hs, by simp [h]⟩
theorem allTo_at {p : Nat → Bool} {n s : Nat} (h : allTo p n = true) (hs : s < n) : p s = true := by
  unfold allTo at h
  rw [List.all_eq_true] at h
  exact h s (List.mem_range.2 hs)
def roomsOk (h : Hall) (n : Nat) : Bool := allTo (fun i => okRoom (h.rooms.getD i default)) n
def wallsOk (h : Hall) (n : Nat) : Bool := allTo (fun i => okWall h.rooms.length (h.walls.getD i default)) n
def branchesOk (h : Hall) (n : Nat) : Bool := allTo (fun i => okBranch i (h.branches.getD i default)) n
def coolersOk (h : Hall) (n : Nat) : Bool := allTo (fun i => okCooler h.rooms.length h.branches.length (h.coolers.getD i default)) n
def allowedP (h : Hall) : Bool := ((roomsOk h h.rooms.length && wallsOk h h.walls.length) && branchesOk h h.branches.length) && coolersOk h h.coolers.length
def wslope (h : Hall) (i : Nat) (k : Nat) : Int := if (h.walls.getD k default).a = i ∨ (h.walls.getD k default).b = i then (h.walls.getD k default).pass else 0
def cslope (h : Hall) (i : Nat) (k : Nat) : Int := if (h.coolers.getD k default).room = i then (h.coolers.getD k default).gain else 0
def slope (h : Hall) (i : Nat) : Int := sumTo (wslope h i) h.walls.length + sumTo (cslope h i) h.coolers.length
def hcheck (h : Hall) : Int :=
  if (((((h.rooms.length : Int) < 1 ∨ 8 < (h.rooms.length : Int)) ∨ 16 < (h.walls.length : Int)) ∨ 16 < (h.branches.length : Int)) ∨ 16 < (h.coolers.length : Int)) then 2
  else if allowedP h = false then 6
  else if allTo (fun i => decide (slope h i ≤ (h.rooms.getD i default).store)) h.rooms.length = true then 0 else 70
/-- What is known of a valid hall. -/
structure HOk (h : Hall) : Prop where
  r1 : 1 ≤ h.rooms.length
  r2 : h.rooms.length ≤ 8
  w2 : h.walls.length ≤ 16
  b2 : h.branches.length ≤ 16
  c2 : h.coolers.length ≤ 16
  room : ∀ i, i < h.rooms.length → 1 ≤ (h.rooms.getD i default).store ∧ (h.rooms.getD i default).store ≤ 1000000 ∧ 0 ≤ (h.rooms.getD i default).limit ∧ (h.rooms.getD i default).limit ≤ 1000000
  wall : ∀ i, i < h.walls.length → (0 ≤ (h.walls.getD i default).a ∧ (h.walls.getD i default).a < h.rooms.length) ∧ ((h.walls.getD i default).b = -1 ∨ (0 ≤ (h.walls.getD i default).b ∧ (h.walls.getD i default).b < h.rooms.length)) ∧
    (h.walls.getD i default).a ≠ (h.walls.getD i default).b ∧ 0 ≤ (h.walls.getD i default).pass ∧ (h.walls.getD i default).pass ≤ 100000
  branch : ∀ i, i < h.branches.length → (if i = 0 then (h.branches.getD i default).up = -1 else 0 ≤ (h.branches.getD i default).up ∧ (h.branches.getD i default).up < i) ∧ (0 ≤ (h.branches.getD i default).opn ∧ (h.branches.getD i default).opn ≤ 100) ∧
    0 ≤ (h.branches.getD i default).leak ∧ (h.branches.getD i default).leak ≤ 100000
  cooler : ∀ i, i < h.coolers.length → (0 ≤ (h.coolers.getD i default).room ∧ (h.coolers.getD i default).room < h.rooms.length) ∧ (0 ≤ (h.coolers.getD i default).br ∧ (h.coolers.getD i default).br < h.branches.length) ∧
    (0 ≤ (h.coolers.getD i default).gain ∧ (h.coolers.getD i default).gain ≤ 100000) ∧ (0 ≤ (h.coolers.getD i default).carry ∧ (h.coolers.getD i default).carry ≤ 1000) ∧ 0 ≤ (h.coolers.getD i default).supply ∧ (h.coolers.getD i default).supply ≤ 1000000
  slope : ∀ i, i < h.rooms.length → X.slope h i ≤ (h.rooms.getD i default).store
theorem hcheck_ok {h : Hall} (hc : hcheck h = 0) : HOk h := by
  unfold hcheck at hc
  split at hc
  · omega
  · rename_i h1
    split at hc
    · omega
    · rename_i h2
      split at hc
      · rename_i h3
        simp only [Bool.not_eq_false, allowedP, Bool.and_eq_true] at h2
        obtain ⟨⟨⟨a1, a2⟩, a3⟩, a4⟩ := h2
        refine ⟨by omega, by omega, by omega, by omega, by omega, fun i hi => ?_, fun i hi => ?_, fun i hi => ?_, fun i hi => ?_, fun i hi => ?_⟩
        · have := allTo_at a1 hi
          simp only [okRoom, inP, Bool.and_eq_true, decide_eq_true_eq] at this
          omega
        · have := allTo_at a2 hi
          simp only [okWall, inP, ixP, Bool.and_eq_true, Bool.or_eq_true, decide_eq_true_eq] at this
          omega
        · have := allTo_at a3 hi
          simp only [okBranch, inP, ixP, Bool.and_eq_true, decide_eq_true_eq] at this
          by_cases h0 : i = 0
          · subst h0; simp only [if_true, decide_eq_true_eq] at this ⊢; omega
          · rw [if_neg h0] at this ⊢
            simp only [Bool.and_eq_true, decide_eq_true_eq] at this
            omega
        · have := allTo_at a4 hi
          simp only [okCooler, inP, ixP, Bool.and_eq_true, decide_eq_true_eq] at this
          omega
        · have := allTo_at h3 hi
          simpa using this
      · omega
/-- The sum of what is open below a branch. -/
def sumOpen (h : Hall) (u : Int) (n : Nat) : Int := sumTo (fun k => if (h.branches.getD k default).up = u then (h.branches.getD k default).opn else 0) n
def feedOf (h : Hall) (pump : Int) (out : List Int) (n : Nat) : Int :=
  if n = 0 then pump
  else if 0 < sumOpen h (h.branches.getD n default).up h.branches.length then
    out.getD (h.branches.getD n default).up.toNat 0 * (h.branches.getD n default).opn / sumOpen h (h.branches.getD n default).up h.branches.length
  else 0
def flowsTo (h : Hall) (pump : Int) : Nat → List Int
  | 0 => []
  | n + 1 => flowsTo h pump n ++ [max (feedOf h pump (flowsTo h pump n) n - (h.branches.getD n default).leak) 0]
def flowsL (h : Hall) (pump : Int) : List Int := flowsTo h pump h.branches.length
def onBr (h : Hall) (b : Int) (n : Nat) : Int := sumTo (fun k => if (h.coolers.getD k default).br = b then 1 else 0) n
def takenAt (h : Hall) (t f : List Int) (k : Nat) : Int :=
  min (max ((h.coolers.getD k default).gain * (t.getD (h.coolers.getD k default).room.toNat 0 - (h.coolers.getD k default).supply)) 0)
    ((h.coolers.getD k default).carry * f.getD (h.coolers.getD k default).br.toNat 0 / onBr h (h.coolers.getD k default).br h.coolers.length)
def takenL (h : Hall) (t : List Int) (pump : Int) : List Int := (List.range h.coolers.length).map (takenAt h t (flowsL h pump))
def wheat (h : Hall) (t : List Int) (out : Int) (i : Nat) (k : Nat) : Int :=
  if (h.walls.getD k default).a = i then (h.walls.getD k default).pass * ((if 0 ≤ (h.walls.getD k default).b then t.getD (h.walls.getD k default).b.toNat 0 else out) - t.getD i 0)
  else if (h.walls.getD k default).b = i then (h.walls.getD k default).pass * (t.getD (h.walls.getD k default).a.toNat 0 - t.getD i 0)
  else 0
def cheat (h : Hall) (taken : List Int) (i : Nat) (k : Nat) : Int := if (h.coolers.getD k default).room = i then - taken.getD k 0 else 0
def heatOf (h : Hall) (t : List Int) (c : HCase) (i : Nat) : Int :=
  (h.rooms.getD i default).store * t.getD i 0 + c.load.getD i 0 + sumTo (wheat h t c.out i) h.walls.length + sumTo (cheat h (takenL h t c.pump) i) h.coolers.length
def nextAt (h : Hall) (t : List Int) (c : HCase) (i : Nat) : Int := min (heatOf h t c i / (h.rooms.getD i default).store) 1000000
def nextL (h : Hall) (t : List Int) (c : HCase) : List Int := (List.range h.rooms.length).map (nextAt h t c)
def warmP (h : Hall) (t : List Int) : Int := if (t.length : Int) ≠ h.rooms.length then 1 else if t.any (fun n => !inP n 1000000) = true then 6 else 0
def casedP (h : Hall) (c : HCase) : Int := if (c.load.length : Int) ≠ h.rooms.length then 1 else if (c.load.any (fun n => !inP n 10000000) = true ∨ ¬ inP c.out 1000000 = true) ∨ ¬ inP c.pump 100000 = true then 6 else 0
def bothP (l : List Int) : Int := if 1 ∈ l then 1 else if 6 ∈ l then 6 else 0
def nextG (h : Hall) (t : List Int) (c : HCase) : List Int × Int :=
  if hcheck h ≠ 0 then ([], hcheck h) else if bothP [warmP h t, casedP h c] ≠ 0 then ([], bothP [warmP h t, casedP h c]) else (nextL h t c, 0)
structure TOk (h : Hall) (t : List Int) : Prop where
  len : t.length = h.rooms.length
  rng : ∀ i, i < t.length → 0 ≤ t.getD i 0 ∧ t.getD i 0 ≤ 1000000
structure COk (h : Hall) (c : HCase) : Prop where
  len : c.load.length = h.rooms.length
  rng : ∀ i, i < c.load.length → 0 ≤ c.load.getD i 0 ∧ c.load.getD i 0 ≤ 10000000
  out : 0 ≤ c.out ∧ c.out ≤ 1000000
  pump : 0 ≤ c.pump ∧ c.pump ≤ 100000
theorem any_no {l : List Int} {m : Int} (h : ¬ l.any (fun n => !inP n m) = true) (i : Nat) (hi : i < l.length) : 0 ≤ l.getD i 0 ∧ l.getD i 0 ≤ m := by
  have h1 : l.any (fun n => !inP n m) = false := by simpa using h
  have := List.any_eq_false.1 h1 (l.getD i 0) (getD_mem hi)
  simp only [inP, Bool.not_eq_true', Bool.and_eq_false_iff, decide_eq_false_iff_not] at this
  omega
theorem warm_ok {h : Hall} {t : List Int} (hw : warmP h t = 0) : TOk h t := by
  unfold warmP at hw
  split at hw
  · omega
  · split at hw
    · omega
    · rename_i h1 h2
      exact ⟨by omega, any_no h2⟩
theorem cased_ok {h : Hall} {c : HCase} (hw : casedP h c = 0) : COk h c := by
  unfold casedP at hw
  split at hw
  · omega
  · split at hw
    · omega
    · rename_i h1 h2
      simp only [not_or, Classical.not_not] at h2
      obtain ⟨⟨a, b⟩, d⟩ := h2
      simp only [inP, Bool.and_eq_true, decide_eq_true_eq] at b d
      exact ⟨by omega, any_no a, b, d⟩
theorem warm_vals (h : Hall) (t : List Int) : warmP h t = 0 ∨ warmP h t = 1 ∨ warmP h t = 6 := by
  unfold warmP; split
  · simp
  · split <;> simp
theorem cased_vals (h : Hall) (c : HCase) : casedP h c = 0 ∨ casedP h c = 1 ∨ casedP h c = 6 := by
  unfold casedP; split
  · simp
  · split <;> simp
theorem both_ok {h : Hall} {t : List Int} {c : HCase} (hb : bothP [warmP h t, casedP h c] = 0) : TOk h t ∧ COk h c := by
  have h1 := warm_vals h t
  have h2 := cased_vals h c
  unfold bothP at hb
  split at hb
  · omega
  · split at hb
    · omega
    · rename_i h3 h4
      simp only [List.mem_cons, List.not_mem_nil, or_false, not_or] at h3 h4
      exact ⟨warm_ok (by omega), cased_ok (by omega)⟩
end Go.X

/- Flows: what a branch has; below which branch it hangs. No condition. -/
set_option linter.unusedVariables false
namespace Go.X
theorem sum_zero {f : Nat → Int} : ∀ {n : Nat}, (∀ k, k < n → f k = 0) → sumTo f n = 0
  | 0, _ => rfl
  | n + 1, h => by rw [sumTo, sum_zero fun k hk => h k (by omega), h n (by omega)]; rfl
theorem sum_nonneg {f : Nat → Int} : ∀ {n : Nat}, (∀ k, k < n → 0 ≤ f k) → 0 ≤ sumTo f n
  | 0, _ => Int.le_refl _
  | n + 1, h => by
    have h1 := sum_nonneg (f := f) (n := n) fun k hk => h k (by omega)
    have h2 := h n (by omega)
    rw [sumTo]; omega
theorem sum_mono {f g : Nat → Int} : ∀ {n : Nat}, (∀ k, k < n → f k ≤ g k) → sumTo f n ≤ sumTo g n
  | 0, _ => Int.le_refl _
  | n + 1, h => by
    have h1 := sum_mono (f := f) (g := g) (n := n) fun k hk => h k (by omega)
    have h2 := h n (by omega)
    rw [sumTo, sumTo]; omega
theorem sum_add {f g : Nat → Int} : ∀ {n : Nat}, sumTo (fun k => f k + g k) n = sumTo f n + sumTo g n
  | 0 => rfl
  | n + 1 => by rw [sumTo, sumTo, sumTo, sum_add]; omega
theorem sum_mul {f : Nat → Int} {c : Int} : ∀ {n : Nat}, sumTo (fun k => c * f k) n = c * sumTo f n
  | 0 => by simp [sumTo]
  | n + 1 => by rw [sumTo, sumTo, sum_mul, Int.mul_add]
theorem sum_congr {f g : Nat → Int} : ∀ {n : Nat}, (∀ k, k < n → f k = g k) → sumTo f n = sumTo g n
  | 0, _ => rfl
  | n + 1, h => by rw [sumTo, sumTo, sum_congr fun k hk => h k (by omega), h n (by omega)]
theorem sum_le {f : Nat → Int} {M : Int} : ∀ {n : Nat}, (∀ k, k < n → f k ≤ M) → sumTo f n ≤ n * M
  | 0, _ => by simp [sumTo]
  | n + 1, h => by
    have h1 := sum_le (f := f) (n := n) (M := M) fun k hk => h k (by omega)
    have h2 := h n (by omega)
    have h3 : ((n + 1 : Nat) : Int) * M = n * M + M := by rw [Int.natCast_add, Int.add_mul]; simp
    rw [sumTo, h3]; omega
theorem sum_part {f : Nat → Int} {n m : Nat} (h : m ≤ n) (hf : ∀ k, k < n → 0 ≤ f k) : sumTo f m ≤ sumTo f n := by
  induction n with
  | zero => rw [show m = 0 by omega]; exact Int.le_refl _
  | succ n ih =>
    rcases Nat.lt_or_ge m (n + 1) with h1 | h1
    · have h2 := ih (by omega) fun k hk => hf k (by omega)
      have h3 := hf n (by omega)
      rw [sumTo]; omega
    · rw [show m = n + 1 by omega]; exact Int.le_refl _
theorem sum_one {f : Nat → Int} {n k : Nat} (h : k < n) (hf : ∀ k, k < n → 0 ≤ f k) : f k ≤ sumTo f n := by
  have h1 := sum_part (f := f) (n := n) (m := k + 1) (by omega) hf
  have h2 := sum_nonneg (f := f) (n := k) fun j hj => hf j (by omega)
  rw [sumTo] at h1; omega
theorem flowsTo_len (h : Hall) (pump : Int) : ∀ n, (flowsTo h pump n).length = n
  | 0 => rfl
  | n + 1 => by rw [flowsTo, List.length_append, flowsTo_len]; rfl
theorem flowsTo_getD (h : Hall) (pump : Int) {n i : Nat} (hi : i < n) : (flowsTo h pump n).getD i 0 = max (feedOf h pump (flowsTo h pump i) i - (h.branches.getD i default).leak) 0 := by
  induction n with
  | zero => omega
  | succ n ih =>
    rw [flowsTo]
    rcases Nat.lt_or_ge i n with h1 | h1
    · rw [List.getD_eq_getElem?_getD, List.getElem?_append_left (by rw [flowsTo_len]; exact h1), ← List.getD_eq_getElem?_getD]
      exact ih h1
    · have h2 : i = n := by omega
      subst h2
      rw [List.getD_eq_getElem?_getD, List.getElem?_append_right (by rw [flowsTo_len]; exact Nat.le_refl _), flowsTo_len, Nat.sub_self]
      rfl
theorem flows_len (h : Hall) (pump : Int) : (flowsL h pump).length = h.branches.length := flowsTo_len ..
section
variable {h : Hall} (ok : HOk h)
include ok
theorem up_of {i : Nat} (hi : i < h.branches.length) (h0 : i ≠ 0) : 0 ≤ (h.branches.getD i default).up ∧ (h.branches.getD i default).up < i := by
  have := (ok.branch i hi).1
  rw [if_neg h0] at this
  exact this
theorem up_zero (hi : 0 < h.branches.length) : (h.branches.getD 0 default).up = -1 := by
  have := (ok.branch 0 hi).1
  rw [if_pos rfl] at this
  exact this
theorem feed_same {pump : Int} {i : Nat} (hi : i < h.branches.length) : feedOf h pump (flowsTo h pump i) i = feedOf h pump (flowsL h pump) i := by
  unfold feedOf
  by_cases h0 : i = 0
  · rw [if_pos h0, if_pos h0]
  · rw [if_neg h0, if_neg h0]
    obtain ⟨h1, h2⟩ := up_of ok hi h0
    have e : (flowsTo h pump i).getD (h.branches.getD i default).up.toNat 0 = (flowsL h pump).getD (h.branches.getD i default).up.toNat 0 := by
      unfold flowsL
      rw [flowsTo_getD h pump (by omega), flowsTo_getD h pump (by omega)]
    rw [e]
theorem flows_at {pump : Int} {i : Nat} (hi : i < h.branches.length) : (flowsL h pump).getD i 0 = max (feedOf h pump (flowsL h pump) i - (h.branches.getD i default).leak) 0 := by
  rw [← feed_same ok hi]
  exact flowsTo_getD h pump hi
theorem open_nonneg (u : Int) {n : Nat} (hn : n ≤ h.branches.length) : 0 ≤ sumOpen h u n := sum_nonneg fun k hk => by
  have := (ok.branch k (by omega)).2.1
  split <;> omega
theorem open_le (u : Int) {n : Nat} (hn : n ≤ h.branches.length) : sumOpen h u n ≤ 1600 := by
  have h1 := sum_le (f := fun k => if (h.branches.getD k default).up = u then (h.branches.getD k default).opn else 0) (n := n) (M := 100) fun k hk => by
    have := (ok.branch k (by omega)).2.1
    split <;> omega
  have h2 := ok.b2
  change sumOpen h u n ≤ _ at h1
  omega
theorem open_one {k : Nat} (hk : k < h.branches.length) : (h.branches.getD k default).opn ≤ sumOpen h (h.branches.getD k default).up h.branches.length := by
  have := sum_one (f := fun j => if (h.branches.getD j default).up = (h.branches.getD k default).up then (h.branches.getD j default).opn else 0) hk fun j hj => by
    have := (ok.branch j hj).2.1
    split <;> omega
  rw [if_pos rfl] at this
  exact this
omit ok in
theorem share_le {x o s : Int} (hx : 0 ≤ x) (ho : 0 ≤ o) (hos : o ≤ s) (hs : 0 < s) : 0 ≤ x * o / s ∧ x * o / s ≤ x := by
  constructor
  · exact Int.ediv_nonneg (Int.mul_nonneg hx ho) (by omega)
  · have h1 : x * o ≤ x * s := Int.mul_le_mul_of_nonneg_left hos hx
    have h2 := Int.ediv_le_ediv hs h1
    rwa [Int.mul_ediv_cancel _ (by omega)] at h2
theorem flows_rng {pump : Int} (hp : 0 ≤ pump) : ∀ i, i < h.branches.length → 0 ≤ (flowsL h pump).getD i 0 ∧ (flowsL h pump).getD i 0 ≤ pump := by
  intro i
  induction i using Nat.strongRecOn with
  | _ i ih =>
    intro hi
    rw [flows_at ok hi]
    have hlk := (ok.branch i hi).2.2
    have hfd : 0 ≤ feedOf h pump (flowsL h pump) i ∧ feedOf h pump (flowsL h pump) i ≤ pump := by
      unfold feedOf
      by_cases h0 : i = 0
      · rw [if_pos h0]; omega
      · rw [if_neg h0]
        obtain ⟨h1, h2⟩ := up_of ok hi h0
        split
        · rename_i hs
          have h3 := ih _ (show (h.branches.getD i default).up.toNat < i by omega) (by omega)
          have h4 := (ok.branch i hi).2.1
          have h5 := share_le h3.1 h4.1 (open_one ok hi) hs
          omega
        · omega
    omega
end
/-- i is j, or j hangs on it, directly or not. -/
inductive Sub (h : Hall) : Nat → Nat → Prop
  | self (i : Nat) : Sub h i i
  | step {i j : Nat} (hj : j < h.branches.length) (h0 : j ≠ 0) (s : Sub h i (h.branches.getD j default).up.toNat) : Sub h i j
section
variable {h : Hall} (ok : HOk h)
include ok
theorem Sub.le {i j : Nat} (s : Sub h i j) : i ≤ j := by
  induction s with
  | self => exact Nat.le_refl _
  | step hj h0 s ih =>
    have := up_of ok hj h0
    omega
omit ok in
theorem Sub.chain {a b j : Nat} (s : Sub h a j) : Sub h b j → Sub h a b ∨ Sub h b a := by
  induction s with
  | self => intro t; exact .inr t
  | step hj h0 s ih =>
    intro t
    cases t with
    | self => exact .inl (.step hj h0 s)
    | step hj' h0' t => exact ih t
theorem Sub.one {c d i j : Nat} (s : Sub h c j) (t : Sub h d j) (hc : c < h.branches.length) (hd : d < h.branches.length) (hc0 : c ≠ 0) (hd0 : d ≠ 0) (uc : (h.branches.getD c default).up = i) (ud : (h.branches.getD d default).up = i) : c = d := by
  have h1 := up_of ok hc hc0
  have h2 := up_of ok hd hd0
  rcases s.chain t with h3 | h3
  · cases h3 with
    | self => rfl
    | step hj h0 h4 =>
      have := h4.le ok
      omega
  · cases h3 with
    | self => rfl
    | step hj h0 h4 =>
      have := h4.le ok
      omega
theorem Sub.split {i j : Nat} (s : Sub h i j) : i = j ∨ ∃ c, c < h.branches.length ∧ c ≠ 0 ∧ (h.branches.getD c default).up = i ∧ Sub h c j := by
  induction s with
  | self => exact .inl rfl
  | @step j hj h0 s ih =>
    right
    have h1 := up_of ok hj h0
    rcases ih with h2 | ⟨c, a, b, d, e⟩
    · exact ⟨j, hj, h0, by omega, .self j⟩
    · exact ⟨c, a, b, d, .step hj h0 e⟩
omit ok in
theorem Sub.under {i c j : Nat} (hc : c < h.branches.length) (h0 : c ≠ 0) (u : (h.branches.getD c default).up = i) (s : Sub h c j) : Sub h i j := by
  induction s with
  | self => exact .step hc h0 (by rw [u]; simpa using Sub.self i)
  | step hj h0 s ih => exact .step hj h0 ih
theorem zero_below {pump : Int} {i j : Nat} (hs : ¬ 0 < sumOpen h i h.branches.length) (s : Sub h i j) : j ≠ i → (flowsL h pump).getD j 0 = 0 := by
  induction s with
  | self => intro hn; exact absurd rfl hn
  | @step j hj h0 s ih =>
    intro _
    have h1 := up_of ok hj h0
    have h2 := (ok.branch j hj).2.2
    rw [flows_at ok hj]
    have h3 : feedOf h pump (flowsL h pump) j = 0 := by
      unfold feedOf
      rw [if_neg h0]
      by_cases hu : (h.branches.getD j default).up.toNat = i
      · rw [if_neg]
        rw [show (h.branches.getD j default).up = (i : Int) by omega]
        exact hs
      · rw [ih hu]
        split
        · simp
        · rfl
    rw [h3]
    omega
end
end Go.X

/- What a hall whose numbers are allowed has; slopes. No condition. -/
set_option linter.unusedVariables false
namespace Go.X.Ht
theorem allowed_facts {h : Hall} (ha : allowedP h = true) :
    (∀ i, i < h.rooms.length → 1 ≤ (h.rooms.getD i default).store ∧ (h.rooms.getD i default).store ≤ 1000000 ∧ 0 ≤ (h.rooms.getD i default).limit ∧ (h.rooms.getD i default).limit ≤ 1000000) ∧
    (∀ i, i < h.walls.length → (0 ≤ (h.walls.getD i default).a ∧ (h.walls.getD i default).a < h.rooms.length) ∧ ((h.walls.getD i default).b = -1 ∨ (0 ≤ (h.walls.getD i default).b ∧ (h.walls.getD i default).b < h.rooms.length)) ∧
      (h.walls.getD i default).a ≠ (h.walls.getD i default).b ∧ 0 ≤ (h.walls.getD i default).pass ∧ (h.walls.getD i default).pass ≤ 100000) ∧
    (∀ i, i < h.coolers.length → (0 ≤ (h.coolers.getD i default).room ∧ (h.coolers.getD i default).room < h.rooms.length) ∧ (0 ≤ (h.coolers.getD i default).br ∧ (h.coolers.getD i default).br < h.branches.length) ∧
      (0 ≤ (h.coolers.getD i default).gain ∧ (h.coolers.getD i default).gain ≤ 100000) ∧ (0 ≤ (h.coolers.getD i default).carry ∧ (h.coolers.getD i default).carry ≤ 1000) ∧ 0 ≤ (h.coolers.getD i default).supply ∧ (h.coolers.getD i default).supply ≤ 1000000) := by
  simp only [allowedP, Bool.and_eq_true] at ha
  obtain ⟨⟨⟨a1, a2⟩, a3⟩, a4⟩ := ha
  refine ⟨fun i hi => ?_, fun i hi => ?_, fun i hi => ?_⟩
  · have := allTo_at a1 hi
    simp only [okRoom, inP, Bool.and_eq_true, decide_eq_true_eq] at this
    omega
  · have := allTo_at a2 hi
    simp only [okWall, inP, ixP, Bool.and_eq_true, Bool.or_eq_true, decide_eq_true_eq] at this
    omega
  · have := allTo_at a4 hi
    simp only [okCooler, inP, ixP, Bool.and_eq_true, decide_eq_true_eq] at this
    omega
theorem wslope_rng {h : Hall} (ha : allowedP h = true) (i : Nat) {k : Nat} (hk : k < h.walls.length) : 0 ≤ wslope h i k ∧ wslope h i k ≤ 100000 := by
  have := (allowed_facts ha).2.1 k hk
  unfold wslope
  split <;> omega
theorem cslope_rng {h : Hall} (ha : allowedP h = true) (i : Nat) {k : Nat} (hk : k < h.coolers.length) : 0 ≤ cslope h i k ∧ cslope h i k ≤ 100000 := by
  have := (allowed_facts ha).2.2 k hk
  unfold cslope
  split <;> omega
theorem wsum_rng {h : Hall} (ha : allowedP h = true) (hw : h.walls.length ≤ 16) (i : Nat) {k : Nat} (hk : k ≤ h.walls.length) : 0 ≤ sumTo (wslope h i) k ∧ sumTo (wslope h i) k ≤ 1600000 := by
  have h1 := sum_nonneg (f := wslope h i) (n := k) fun j hj => (wslope_rng ha i (by omega)).1
  have h2 := sum_le (f := wslope h i) (n := k) (M := 100000) fun j hj => (wslope_rng ha i (by omega)).2
  omega
theorem csum_rng {h : Hall} (ha : allowedP h = true) (hc : h.coolers.length ≤ 16) (i : Nat) {k : Nat} (hk : k ≤ h.coolers.length) : 0 ≤ sumTo (cslope h i) k ∧ sumTo (cslope h i) k ≤ 1600000 := by
  have h1 := sum_nonneg (f := cslope h i) (n := k) fun j hj => (cslope_rng ha i (by omega)).1
  have h2 := sum_le (f := cslope h i) (n := k) (M := 100000) fun j hj => (cslope_rng ha i (by omega)).2
  omega
end Go.X.Ht

/- Feeding the branches, one after the other. No condition. -/
set_option linter.unusedVariables false
namespace Go.X.Ht
theorem open_pos {h : Hall} {u : Int} {k : Nat} (hu : (h.branches.getD k default).up = u) : sumOpen h u k + (h.branches.getD k default).opn = sumOpen h u (k + 1) := by
  unfold sumOpen; rw [sumTo, if_pos hu]
theorem open_neg {h : Hall} {u : Int} {k : Nat} (hu : ¬ (h.branches.getD k default).up = u) : sumOpen h u k = sumOpen h u (k + 1) := by
  unfold sumOpen; rw [sumTo, if_neg hu, Int.add_zero]
def Done (h : Hall) (i k j : Nat) : Prop := j = i ∨ ∃ c, c < k ∧ c ≠ 0 ∧ (h.branches.getD c default).up = (i : Int) ∧ Sub h c j
theorem done_succ {h : Hall} {i k j : Nat} : Done h i (k + 1) j ↔ Done h i k j ∨ (k ≠ 0 ∧ (h.branches.getD k default).up = (i : Int) ∧ Sub h k j) := by
  unfold Done
  constructor
  · rintro (h1 | ⟨c, a, b, d, e⟩)
    · exact .inl (.inl h1)
    · rcases Nat.lt_or_ge c k with h2 | h2
      · exact .inl (.inr ⟨c, h2, b, d, e⟩)
      · have h3 : c = k := by omega
        subst h3
        exact .inr ⟨b, d, e⟩
  · rintro ((h1 | ⟨c, a, b, d, e⟩) | ⟨b, d, e⟩)
    · exact .inl h1
    · exact .inr ⟨c, by omega, b, d, e⟩
    · exact .inr ⟨k, by omega, b, d, e⟩
/-- The state of the list while the branches below i are fed: the first k are looked at. -/
structure Fed (h : Hall) (pump : Int) (i k : Nat) (o z : List Int) : Prop where
  len : z.length = h.branches.length
  yes : ∀ j, j < h.branches.length → Done h i k j → z.getD j 0 = (flowsL h pump).getD j 0
  no : ∀ j, ¬ Done h i k j → z.getD j 0 = o.getD j 0
section
variable {h : Hall} (ok : HOk h) {pump : Int} {i : Nat} {o z : List Int}
include ok
theorem done_sub {j : Nat} (hi : i < h.branches.length) : Sub h i j ↔ Done h i h.branches.length j := by
  constructor
  · intro s
    rcases s.split ok with h1 | ⟨c, a, b, d, e⟩
    · exact .inl h1.symm
    · exact .inr ⟨c, a, b, d, e⟩
  · rintro (h1 | ⟨c, a, b, d, e⟩)
    · rw [h1]; exact .self i
    · exact Sub.under a b d e
theorem not_zero {k : Nat} (hk : k < h.branches.length) (u : (h.branches.getD k default).up = (i : Int)) : k ≠ 0 := by
  rintro rfl
  have := up_zero ok hk
  omega
theorem apart {k j : Nat} (hk : k < h.branches.length) (u : (h.branches.getD k default).up = (i : Int)) (s : Sub h k j) : ¬ Done h i k j := by
  have h0 := not_zero ok hk u
  have h1 := up_of ok hk h0
  rintro (h2 | ⟨c, a, b, d, e⟩)
  · have := s.le ok
    omega
  · have := Sub.one ok e s (by omega) hk b h0 d u
    omega
theorem feed_child {k : Nat} (hk : k < h.branches.length) (u : (h.branches.getD k default).up = (i : Int)) (hs : 0 < sumOpen h i h.branches.length) :
    (flowsL h pump).getD k 0 = max ((flowsL h pump).getD i 0 * (h.branches.getD k default).opn / sumOpen h i h.branches.length - (h.branches.getD k default).leak) 0 := by
  rw [flows_at ok hk]
  unfold feedOf
  rw [if_neg (not_zero ok hk u), u, if_pos hs, Int.toNat_natCast]
omit ok in
theorem fed_start (hi : i < h.branches.length) (ho : o.length = h.branches.length) : Fed h pump i 0 o (o.set i ((flowsL h pump).getD i 0)) where
  len := by rw [List.length_set]; exact ho
  yes := fun j hj hd => by
    rcases hd with h1 | ⟨c, a, _⟩
    · subst h1
      rw [List.getD_eq_getElem?_getD, List.getElem?_set, if_pos rfl, if_pos (by omega)]; rfl
    · omega
  no := fun j hn => by
    rw [List.getD_eq_getElem?_getD, List.getElem?_set, if_neg (fun h1 => hn (.inl h1.symm)), ← List.getD_eq_getElem?_getD]
theorem fed_skip {k : Nat} (f : Fed h pump i k o z) (hk : k < h.branches.length) (hz : ∀ j, Sub h i j → o.getD j 0 = 0) (hn : ¬ ((h.branches.getD k default).up = (i : Int) ∧ 0 < sumOpen h i h.branches.length)) : Fed h pump i (k + 1) o z where
  len := f.len
  yes := fun j hj hd => by
    rcases done_succ.1 hd with h1 | ⟨h0, u, s⟩
    · exact f.yes j hj h1
    · have hs : ¬ 0 < sumOpen h i h.branches.length := fun h => hn ⟨u, h⟩
      have hu := up_of ok hk h0
      have hsi : Sub h i j := Sub.under hk h0 u s
      rw [f.no j (apart ok hk u s), hz j hsi, zero_below ok hs hsi (by have := s.le ok; omega)]
  no := fun j hd => f.no j fun h1 => hd (done_succ.2 (.inl h1))
theorem fed_call {k : Nat} {y : List Int} (f : Fed h pump i k o z) (hk : k < h.branches.length) (u : (h.branches.getD k default).up = (i : Int)) (hl : y.length = h.branches.length)
    (hy : ∀ j, j < h.branches.length → Sub h k j → y.getD j 0 = (flowsL h pump).getD j 0) (hn : ∀ j, ¬ Sub h k j → y.getD j 0 = z.getD j 0) : Fed h pump i (k + 1) o y where
  len := hl
  yes := fun j hj hd => by
    by_cases s : Sub h k j
    · exact hy j hj s
    · rcases done_succ.1 hd with h1 | ⟨_, _, s'⟩
      · rw [hn j s]; exact f.yes j hj h1
      · exact absurd s' s
  no := fun j hd => by
    have h1 : ¬ Sub h k j := fun s => hd (done_succ.2 (.inr ⟨not_zero ok hk u, u, s⟩))
    rw [hn j h1]
    exact f.no j fun h2 => hd (done_succ.2 (.inl h2))
theorem fed_zero {k : Nat} (f : Fed h pump i k o z) (hk : k < h.branches.length) (u : (h.branches.getD k default).up = (i : Int)) (hz : ∀ j, Sub h i j → o.getD j 0 = 0) : ∀ j, Sub h k j → z.getD j 0 = 0 := fun j s => by
  rw [f.no j (apart ok hk u s)]
  exact hz j (Sub.under hk (not_zero ok hk u) u s)
theorem sub_root : ∀ j, j < h.branches.length → Sub h 0 j := by
  intro j
  induction j using Nat.strongRecOn with
  | _ j ih =>
    intro hj
    by_cases h0 : j = 0
    · rw [h0]; exact .self 0
    · have h1 := up_of ok hj h0
      exact .step hj h0 (ih _ (by omega) (by omega))
end
end Go.X.Ht

/- What coolers take; the heat that walls and coolers bring: in range. No condition. -/
set_option linter.unusedVariables false
set_option linter.unusedSectionVars false
namespace Go.X.Ht
theorem onBr_rng {h : Hall} (b : Int) (n : Nat) : 0 ≤ onBr h b n ∧ onBr h b n ≤ n := by
  have h1 := sum_nonneg (f := fun k => if (h.coolers.getD k default).br = b then (1 : Int) else 0) (n := n) fun k _ => by split <;> omega
  have h2 := sum_le (f := fun k => if (h.coolers.getD k default).br = b then (1 : Int) else 0) (n := n) (M := 1) fun k _ => by split <;> omega
  unfold onBr
  omega
theorem onBr_pos {h : Hall} {k : Nat} (hk : k < h.coolers.length) : 1 ≤ onBr h (h.coolers.getD k default).br h.coolers.length := by
  have := sum_one (f := fun j => if (h.coolers.getD j default).br = (h.coolers.getD k default).br then (1 : Int) else 0) hk fun j _ => by split <;> omega
  rw [if_pos rfl] at this
  exact this
theorem onBr_succ {h : Hall} {b : Int} {n : Nat} : onBr h b (n + 1) = onBr h b n + if (h.coolers.getD n default).br = b then 1 else 0 := rfl
theorem mul_abs {p d P D : Int} (hp : 0 ≤ p) (hp2 : p ≤ P) (hd : -D ≤ d) (hd2 : d ≤ D) (hD : 0 ≤ D) : -(P * D) ≤ p * d ∧ p * d ≤ P * D := by
  have h1 : p * d ≤ p * D := Int.mul_le_mul_of_nonneg_left hd2 hp
  have h2 : p * D ≤ P * D := Int.mul_le_mul_of_nonneg_right hp2 hD
  have h3 : p * (-D) ≤ p * d := Int.mul_le_mul_of_nonneg_left hd hp
  rw [Int.mul_neg] at h3
  omega
theorem sum_abs {f : Nat → Int} {M : Int} : ∀ {n : Nat}, (∀ k, k < n → -M ≤ f k ∧ f k ≤ M) → -(n * M) ≤ sumTo f n ∧ sumTo f n ≤ n * M
  | 0, _ => by simp [sumTo]
  | n + 1, h => by
    have h1 := sum_abs (f := f) (n := n) (M := M) fun k hk => h k (by omega)
    have h2 := h n (by omega)
    have h3 : ((n + 1 : Nat) : Int) * M = n * M + M := by rw [Int.natCast_add, Int.add_mul]; simp
    rw [sumTo, h3]; omega
section
variable {h : Hall} (ok : HOk h) {t : List Int} (ht : TOk h t)
include ok ht
theorem temp_at {i : Int} (h0 : 0 ≤ i) (h1 : i < h.rooms.length) : 0 ≤ t.getD i.toNat 0 ∧ t.getD i.toNat 0 ≤ 1000000 := ht.rng _ (by have := ht.len; omega)
theorem taken_rng {pump : Int} (hp : 0 ≤ pump) (hp2 : pump ≤ 100000) {k : Nat} (hk : k < h.coolers.length) : 0 ≤ takenAt h t (flowsL h pump) k ∧ takenAt h t (flowsL h pump) k ≤ 100000000000 := by
  have hc := ok.cooler k hk
  have hT := temp_at ok ht hc.1.1 hc.1.2
  have hF := flows_rng ok hp (h.coolers.getD k default).br.toNat (by omega)
  have hm := mul_abs (p := (h.coolers.getD k default).gain) (d := t.getD (h.coolers.getD k default).room.toNat 0 - (h.coolers.getD k default).supply) (P := 100000) (D := 1000000) hc.2.2.1.1 hc.2.2.1.2 (by omega) (by omega) (by omega)
  have hon := onBr_pos hk
  have hq : 0 ≤ (h.coolers.getD k default).carry * (flowsL h pump).getD (h.coolers.getD k default).br.toNat 0 / onBr h (h.coolers.getD k default).br h.coolers.length :=
    Int.ediv_nonneg (Int.mul_nonneg hc.2.2.2.1.1 hF.1) (by omega)
  unfold takenAt
  omega
theorem taken_getD {pump : Int} {k : Nat} (hk : k < h.coolers.length) : (takenL h t pump).getD k 0 = takenAt h t (flowsL h pump) k := by
  unfold takenL
  rw [List.getD_eq_getElem?_getD, List.getElem?_map, List.getElem?_range hk]; rfl
theorem wheat_rng {out : Int} (ho : 0 ≤ out ∧ out ≤ 1000000) {i k : Nat} (hi : i < h.rooms.length) (hk : k < h.walls.length) : -100000000000 ≤ wheat h t out i k ∧ wheat h t out i k ≤ 100000000000 := by
  have hw := ok.wall k hk
  have hA := temp_at ok ht hw.1.1 hw.1.2
  have hI := ht.rng i (by have := ht.len; omega)
  unfold wheat
  split
  · split
    · rename_i hb
      have hB := temp_at ok ht hb (by omega)
      have := mul_abs (p := (h.walls.getD k default).pass) (d := t.getD (h.walls.getD k default).b.toNat 0 - t.getD i 0) (P := 100000) (D := 1000000) hw.2.2.2.1 hw.2.2.2.2 (by omega) (by omega) (by omega)
      omega
    · have := mul_abs (p := (h.walls.getD k default).pass) (d := out - t.getD i 0) (P := 100000) (D := 1000000) hw.2.2.2.1 hw.2.2.2.2 (by omega) (by omega) (by omega)
      omega
  · split
    · have := mul_abs (p := (h.walls.getD k default).pass) (d := t.getD (h.walls.getD k default).a.toNat 0 - t.getD i 0) (P := 100000) (D := 1000000) hw.2.2.2.1 hw.2.2.2.2 (by omega) (by omega) (by omega)
      omega
    · omega
theorem wsum_abs {out : Int} (ho : 0 ≤ out ∧ out ≤ 1000000) {i n : Nat} (hi : i < h.rooms.length) (hn : n ≤ h.walls.length) : -1600000000000 ≤ sumTo (wheat h t out i) n ∧ sumTo (wheat h t out i) n ≤ 1600000000000 := by
  have h1 := sum_abs (f := wheat h t out i) (n := n) (M := 100000000000) fun k hk => wheat_rng ok ht ho hi (by omega)
  have h2 := ok.w2
  omega
theorem cheat_rng {pump : Int} (hp : 0 ≤ pump) (hp2 : pump ≤ 100000) {i k : Nat} (hk : k < h.coolers.length) : -100000000000 ≤ cheat h (takenL h t pump) i k ∧ cheat h (takenL h t pump) i k ≤ 100000000000 := by
  have h1 := taken_rng ok ht hp hp2 hk
  unfold cheat
  rw [taken_getD ok ht hk]
  split <;> omega
theorem csum_abs {pump : Int} (hp : 0 ≤ pump) (hp2 : pump ≤ 100000) {i n : Nat} (hn : n ≤ h.coolers.length) : -1600000000000 ≤ sumTo (cheat h (takenL h t pump) i) n ∧ sumTo (cheat h (takenL h t pump) i) n ≤ 1600000000000 := by
  have h1 := sum_abs (f := cheat h (takenL h t pump) i) (n := n) (M := 100000000000) fun k hk => cheat_rng ok ht hp hp2 (by omega)
  have h2 := ok.c2
  omega
end
end Go.X.Ht

/- An element of an array value: elements of one cell. No condition. -/
set_option linter.unusedVariables false
namespace Go.X
variable {P : Program} {ops : Array Oper} {e : Env} {o r : List PHeap} {d : Option Tmp} {ty : TypeId} {pos : String} {aft : Array Edge}
theorem Q.index1 {t el len : TypeId} [u : Und P t (.array len el)] [z : TySize P el 1] [g : IsAgg P el false] {x y : Operand} {k : IntKind} {n : Int} {cs : List Value} {v : Value} (hx : ev e x = some (.agg cs.toArray)) (hy : ev e y = some (.int k n))
    (h0 : 0 ≤ n) (h1 : n < (len : Int)) (hv : cs[n.toNat]? = some v) : Quiet P ops ⟨d, .index t x y, ty, pos, aft, none⟩ e o r v := .mk fun a w he _ => by
  simp only [execOp, ev_rel he hx, ev_rel he hy]
  refine run_val ?_
  unfold Instr.index
  have e1 : (asIntOf (.int k n)).run P w = .ok (k, n) w := rfl
  rw [bind_ok e1]
  simp only
  rw [bind_ok (u.pf w)]
  simp only
  rw [if_pos ⟨h0, h1⟩, bind_ok (z.pf w)]
  unfold part
  rw [bind_ok (g.pf w)]
  simp [hv, pure]
theorem Spec.wide {f : FuncId} {args : Array Value} {Hm Hr Hr' : List PHeap} {R : Value → List PHeap → Prop} (h : Spec P f args Hm Hr R) (hh : ∀ x ∈ Hr, x ∈ Hr') : Spec P f args Hm Hr' R :=
  fun o r w hs hr => h o r w hs (fun x hx => hr x (hh x hx))
end Go.X

/- The next temperatures: never below zero; monotone. No condition. -/
set_option linter.unusedVariables false
set_option linter.unusedSectionVars false
namespace Go.X.Ht
def wpart (h : Hall) (t : List Int) (out : Int) (i : Nat) (k : Nat) : Int :=
  if (h.walls.getD k default).a = i then (h.walls.getD k default).pass * (if 0 ≤ (h.walls.getD k default).b then t.getD (h.walls.getD k default).b.toNat 0 else out)
  else if (h.walls.getD k default).b = i then (h.walls.getD k default).pass * t.getD (h.walls.getD k default).a.toNat 0
  else 0
def cpart (h : Hall) (t tl : List Int) (i : Nat) (k : Nat) : Int := if (h.coolers.getD k default).room = i then (h.coolers.getD k default).gain * t.getD i 0 - tl.getD k 0 else 0
theorem wheat_eq (h : Hall) (t : List Int) (out : Int) (i k : Nat) : wheat h t out i k = wpart h t out i k + (- t.getD i 0) * wslope h i k := by
  unfold wheat wpart wslope
  by_cases h1 : (h.walls.getD k default).a = i
  · rw [if_pos h1, if_pos h1, if_pos (show (h.walls.getD k default).a = i ∨ (h.walls.getD k default).b = i from .inl h1), Int.mul_sub, Int.neg_mul, Int.mul_comm (t.getD i 0)]; omega
  · rw [if_neg h1, if_neg h1]
    by_cases h2 : (h.walls.getD k default).b = i
    · rw [if_pos h2, if_pos h2, if_pos (show (h.walls.getD k default).a = i ∨ (h.walls.getD k default).b = i from .inr h2), Int.mul_sub, Int.neg_mul, Int.mul_comm (t.getD i 0)]; omega
    · rw [if_neg h2, if_neg h2, if_neg (show ¬ ((h.walls.getD k default).a = i ∨ (h.walls.getD k default).b = i) by rintro (h | h) <;> contradiction)]; simp
theorem cheat_eq (h : Hall) (t tl : List Int) (i k : Nat) : cheat h tl i k = cpart h t tl i k + (- t.getD i 0) * cslope h i k := by
  unfold cheat cpart cslope
  by_cases h1 : (h.coolers.getD k default).room = i
  · rw [if_pos h1, if_pos h1, if_pos h1, Int.neg_mul, Int.mul_comm (t.getD i 0)]; omega
  · rw [if_neg h1, if_neg h1, if_neg h1]; simp
theorem heat_eq (h : Hall) (t : List Int) (c : HCase) (i : Nat) : heatOf h t c i =
    ((h.rooms.getD i default).store - slope h i) * t.getD i 0 + c.load.getD i 0 + sumTo (wpart h t c.out i) h.walls.length + sumTo (cpart h t (takenL h t c.pump) i) h.coolers.length := by
  have e1 : sumTo (wheat h t c.out i) h.walls.length = sumTo (wpart h t c.out i) h.walls.length + (- t.getD i 0) * sumTo (wslope h i) h.walls.length := by
    rw [sum_congr (g := fun k => wpart h t c.out i k + (- t.getD i 0) * wslope h i k) fun k _ => wheat_eq h t c.out i k, sum_add, sum_mul]
  have e2 : sumTo (cheat h (takenL h t c.pump) i) h.coolers.length = sumTo (cpart h t (takenL h t c.pump) i) h.coolers.length + (- t.getD i 0) * sumTo (cslope h i) h.coolers.length := by
    rw [sum_congr (g := fun k => cpart h t (takenL h t c.pump) i k + (- t.getD i 0) * cslope h i k) fun k _ => cheat_eq h t (takenL h t c.pump) i k, sum_add, sum_mul]
  unfold heatOf slope
  rw [e1, e2, Int.sub_mul, Int.add_mul, Int.neg_mul, Int.neg_mul, Int.mul_comm (sumTo (wslope h i) h.walls.length), Int.mul_comm (sumTo (cslope h i) h.coolers.length)]
  omega
section
variable {h : Hall} (ok : HOk h)
include ok
theorem flows_mono {p q : Int} (hp : 0 ≤ p) (hpq : p ≤ q) : ∀ i, i < h.branches.length → (flowsL h p).getD i 0 ≤ (flowsL h q).getD i 0 := by
  intro i
  induction i using Nat.strongRecOn with
  | _ i ih =>
    intro hi
    rw [flows_at ok hi, flows_at ok hi]
    have hfd : feedOf h p (flowsL h p) i ≤ feedOf h q (flowsL h q) i := by
      unfold feedOf
      by_cases h0 : i = 0
      · rw [if_pos h0, if_pos h0]; exact hpq
      · rw [if_neg h0, if_neg h0]
        obtain ⟨h1, h2⟩ := up_of ok hi h0
        split
        · rename_i hs
          have h3 := ih _ (show (h.branches.getD i default).up.toNat < i by omega) (by omega)
          exact Int.ediv_le_ediv hs (Int.mul_le_mul_of_nonneg_right h3 (ok.branch i hi).2.1.1)
        · exact Int.le_refl _
    omega
end
section
variable {h : Hall} (ok : HOk h) {t : List Int} (tk : TOk h t) {c : HCase} (ck : COk h c)
include ok tk ck
theorem taken_le {k : Nat} (hk : k < h.coolers.length) : (takenL h t c.pump).getD k 0 ≤ (h.coolers.getD k default).gain * t.getD (h.coolers.getD k default).room.toNat 0 := by
  rw [taken_getD ok tk hk]
  have hc := ok.cooler k hk
  have hT := temp_at ok tk hc.1.1 hc.1.2
  have h1 : (h.coolers.getD k default).gain * (t.getD (h.coolers.getD k default).room.toNat 0 - (h.coolers.getD k default).supply) ≤ (h.coolers.getD k default).gain * t.getD (h.coolers.getD k default).room.toNat 0 :=
    Int.mul_le_mul_of_nonneg_left (by omega) hc.2.2.1.1
  have h2 : 0 ≤ (h.coolers.getD k default).gain * t.getD (h.coolers.getD k default).room.toNat 0 := Int.mul_nonneg hc.2.2.1.1 hT.1
  unfold takenAt
  omega
theorem wpart_nonneg {i k : Nat} (hk : k < h.walls.length) : 0 ≤ wpart h t c.out i k := by
  have hw := ok.wall k hk
  have hA := temp_at ok tk hw.1.1 hw.1.2
  unfold wpart
  split
  · refine Int.mul_nonneg hw.2.2.2.1 ?_
    split
    · exact (temp_at ok tk (by assumption) (by omega)).1
    · exact ck.out.1
  · split
    · exact Int.mul_nonneg hw.2.2.2.1 hA.1
    · exact Int.le_refl _
theorem cpart_nonneg {i k : Nat} (hk : k < h.coolers.length) : 0 ≤ cpart h t (takenL h t c.pump) i k := by
  unfold cpart
  split
  · rename_i hr
    have := taken_le ok tk ck hk
    rw [hr, Int.toNat_natCast] at this
    omega
  · exact Int.le_refl _
theorem heat_nonneg {i : Nat} (hi : i < h.rooms.length) : 0 ≤ heatOf h t c i := by
  rw [heat_eq]
  have h1 := ok.slope i hi
  have h2 := tk.rng i (by have := tk.len; omega)
  have h3 := ck.rng i (by have := ck.len; omega)
  have h4 : 0 ≤ ((h.rooms.getD i default).store - slope h i) * t.getD i 0 := Int.mul_nonneg (by omega) h2.1
  have h5 := sum_nonneg (f := wpart h t c.out i) (n := h.walls.length) fun k hk => wpart_nonneg ok tk ck hk
  have h6 := sum_nonneg (f := cpart h t (takenL h t c.pump) i) (n := h.coolers.length) fun k hk => cpart_nonneg ok tk ck hk
  omega
theorem next_rng {i : Nat} (hi : i < h.rooms.length) : 0 ≤ nextAt h t c i ∧ nextAt h t c i ≤ 1000000 := by
  have h1 := heat_nonneg ok tk ck hi
  have h2 := ok.room i hi
  have h3 : 0 ≤ heatOf h t c i / (h.rooms.getD i default).store := Int.ediv_nonneg h1 (by omega)
  unfold nextAt
  omega
theorem next_getD {i : Nat} (hi : i < h.rooms.length) : (nextL h t c).getD i 0 = nextAt h t c i := by
  unfold nextL
  rw [List.getD_eq_getElem?_getD, List.getElem?_map, List.getElem?_range hi]; rfl
theorem next_ok : TOk h (nextL h t c) where
  len := by simp [nextL]
  rng := fun i hi => by
    have hi' : i < h.rooms.length := by simpa [nextL] using hi
    rw [next_getD ok tk ck hi']
    exact next_rng ok tk ck hi'
end
/-- Not lower. -/
def LeL (a b : List Int) : Prop := ∀ i, i < a.length → a.getD i 0 ≤ b.getD i 0
structure LeC (c d : HCase) : Prop where
  load : LeL c.load d.load
  out : c.out ≤ d.out
  pump : d.pump ≤ c.pump
section
variable {h : Hall} (ok : HOk h) {t u : List Int} (tk : TOk h t) (uk : TOk h u) {c d : HCase} (ck : COk h c) (dk : COk h d) (tu : LeL t u) (cd : LeC c d)
include ok tk uk ck dk tu cd
theorem temp_le {i : Int} (h0 : 0 ≤ i) (h1 : i < h.rooms.length) : t.getD i.toNat 0 ≤ u.getD i.toNat 0 := tu _ (by have := tk.len; omega)
theorem wpart_mono {i k : Nat} (hk : k < h.walls.length) : wpart h t c.out i k ≤ wpart h u d.out i k := by
  have hw := ok.wall k hk
  unfold wpart
  split
  · refine Int.mul_le_mul_of_nonneg_left ?_ hw.2.2.2.1
    split
    · exact temp_le ok tk uk ck dk tu cd (by assumption) (by omega)
    · exact cd.out
  · split
    · exact Int.mul_le_mul_of_nonneg_left (temp_le ok tk uk ck dk tu cd hw.1.1 hw.1.2) hw.2.2.2.1
    · exact Int.le_refl _
theorem taken_step {k : Nat} (hk : k < h.coolers.length) : (takenL h u d.pump).getD k 0 - (takenL h t c.pump).getD k 0 ≤
    (h.coolers.getD k default).gain * u.getD (h.coolers.getD k default).room.toNat 0 - (h.coolers.getD k default).gain * t.getD (h.coolers.getD k default).room.toNat 0 := by
  rw [taken_getD ok tk hk, taken_getD ok uk hk]
  have hc := ok.cooler k hk
  have hle := temp_le ok tk uk ck dk tu cd hc.1.1 hc.1.2
  have hg : (h.coolers.getD k default).gain * t.getD (h.coolers.getD k default).room.toNat 0 ≤ (h.coolers.getD k default).gain * u.getD (h.coolers.getD k default).room.toNat 0 := Int.mul_le_mul_of_nonneg_left hle hc.2.2.1.1
  have hF := flows_mono ok dk.pump.1 cd.pump (h.coolers.getD k default).br.toNat (by omega)
  have hq : (h.coolers.getD k default).carry * (flowsL h d.pump).getD (h.coolers.getD k default).br.toNat 0 / onBr h (h.coolers.getD k default).br h.coolers.length ≤
      (h.coolers.getD k default).carry * (flowsL h c.pump).getD (h.coolers.getD k default).br.toNat 0 / onBr h (h.coolers.getD k default).br h.coolers.length :=
    Int.ediv_le_ediv (by have := onBr_pos (h := h) hk; omega) (Int.mul_le_mul_of_nonneg_left hF hc.2.2.2.1.1)
  unfold takenAt
  rw [Int.mul_sub, Int.mul_sub]
  omega
theorem cpart_mono {i k : Nat} (hk : k < h.coolers.length) : cpart h t (takenL h t c.pump) i k ≤ cpart h u (takenL h u d.pump) i k := by
  unfold cpart
  split
  · rename_i hr
    have := taken_step ok tk uk ck dk tu cd hk
    rw [hr, Int.toNat_natCast] at this
    omega
  · exact Int.le_refl _
theorem heat_mono {i : Nat} (hi : i < h.rooms.length) : heatOf h t c i ≤ heatOf h u d i := by
  rw [heat_eq, heat_eq]
  have h1 := ok.slope i hi
  have h2 := tu i (by have := tk.len; omega)
  have h3 := cd.load i (by have := ck.len; omega)
  have h4 : ((h.rooms.getD i default).store - slope h i) * t.getD i 0 ≤ ((h.rooms.getD i default).store - slope h i) * u.getD i 0 := Int.mul_le_mul_of_nonneg_left h2 (by omega)
  have h5 := sum_mono (f := wpart h t c.out i) (g := wpart h u d.out i) (n := h.walls.length) fun k hk => wpart_mono ok tk uk ck dk tu cd hk
  have h6 := sum_mono (f := cpart h t (takenL h t c.pump) i) (g := cpart h u (takenL h u d.pump) i) (n := h.coolers.length) fun k hk => cpart_mono ok tk uk ck dk tu cd hk
  omega
theorem next_mono : LeL (nextL h t c) (nextL h u d) := fun i hi => by
  have hi' : i < h.rooms.length := by simpa [nextL] using hi
  rw [next_getD ok tk ck hi', next_getD ok uk dk hi']
  have h1 := heat_mono ok tk uk ck dk tu cd hi'
  have h2 := ok.room i hi'
  have h3 := Int.ediv_le_ediv (c := (h.rooms.getD i default).store) (by omega) h1
  unfold nextAt
  omega
end
end Go.X.Ht

/- What the statements of heat make of numbers, in plain lists. -/
set_option linter.unusedVariables false
namespace Go.X.Ht
def belowP (a b : List Int) : Bool := decide (a.length = b.length) && allTo (fun i => decide (a.getD i 0 ≤ b.getD i 0)) a.length
theorem below_iff {a b : List Int} : belowP a b = true ↔ a.length = b.length ∧ ∀ i, i < a.length → a.getD i 0 ≤ b.getD i 0 := by
  unfold belowP
  rw [Bool.and_eq_true, decide_eq_true_eq]
  refine and_congr_right fun _ => ⟨fun h i hi => by simpa using allTo_at h hi, fun h => ?_⟩
  unfold allTo
  rw [List.all_eq_true]
  intro i hi
  simpa using h i (List.mem_range.1 hi)
def lowL (a b : List Int) : List Int := (List.range a.length).map fun i => min (a.getD i 0) (b.getD i 0)
def highL (a b : List Int) : List Int := (List.range a.length).map fun i => max (a.getD i 0) (b.getD i 0)
def lowC (a b : HCase) : HCase := ⟨lowL a.load b.load, min a.out b.out, max a.pump b.pump⟩
def highC (a b : HCase) : HCase := ⟨highL a.load b.load, max a.out b.out, min a.pump b.pump⟩
theorem map_range_getD {n : Nat} {f : Nat → Int} {i : Nat} (hi : i < n) : ((List.range n).map f).getD i 0 = f i := by
  rw [List.getD_eq_getElem?_getD, List.getElem?_eq_getElem (by simpa using hi)]; simp
theorem lowL_len (a b : List Int) : (lowL a b).length = a.length := by simp [lowL]
theorem highL_len (a b : List Int) : (highL a b).length = a.length := by simp [highL]
theorem lowL_at {a b : List Int} {i : Nat} (hi : i < a.length) : (lowL a b).getD i 0 = min (a.getD i 0) (b.getD i 0) := map_range_getD hi
theorem highL_at {a b : List Int} {i : Nat} (hi : i < a.length) : (highL a b).getD i 0 = max (a.getD i 0) (b.getD i 0) := map_range_getD hi
def WarmOk (n : Nat) (t : List Int) : Prop := t.length = n ∧ ∀ i, i < t.length → 12000 ≤ t.getD i 0 ∧ t.getD i 0 ≤ 27300
def LoadOk (n : Nat) (t : List Int) : Prop := t.length = n ∧ ∀ i, i < t.length → 0 ≤ t.getD i 0 ∧ t.getD i 0 ≤ 255000
def CasedOk (n : Nat) (c : HCase) : Prop := LoadOk n c.load ∧ (10000 ≤ c.out ∧ c.out ≤ 35500) ∧ 0 ≤ c.pump ∧ c.pump ≤ 2550
theorem snoc_getD {t : List Int} {x : Int} {i : Nat} : (t ++ [x]).getD i 0 = if i < t.length then t.getD i 0 else if i = t.length then x else 0 := by
  rw [List.getD_eq_getElem?_getD, List.getElem?_append]
  split
  · rw [← List.getD_eq_getElem?_getD]
  · split
    · rename_i h; simp [h]
    · rename_i h1 h2
      rw [List.getElem?_eq_none (by simp; omega)]; rfl
theorem snoc_rng {n : Nat} {t : List Int} {x lo hi : Int} (hl : t.length = n) (hr : ∀ i, i < t.length → lo ≤ t.getD i 0 ∧ t.getD i 0 ≤ hi) (hx : lo ≤ x ∧ x ≤ hi) :
    (t ++ [x]).length = n + 1 ∧ ∀ i, i < (t ++ [x]).length → lo ≤ (t ++ [x]).getD i 0 ∧ (t ++ [x]).getD i 0 ≤ hi := by
  refine ⟨by simp [hl], fun i hi => ?_⟩
  rw [snoc_getD]
  simp at hi
  split
  · exact hr i (by assumption)
  · rw [if_pos (by omega)]; exact hx
theorem snoc_ok {n : Nat} {t : List Int} {x : Int} (hl : t.length = n) (hr : ∀ i, i < t.length → 12000 ≤ t.getD i 0 ∧ t.getD i 0 ≤ 27300) (hx : 12000 ≤ x ∧ x ≤ 27300) : WarmOk (n + 1) (t ++ [x]) := snoc_rng hl hr hx
theorem snoc_ok2 {n : Nat} {t : List Int} {x : Int} (hl : t.length = n) (hr : ∀ i, i < t.length → 0 ≤ t.getD i 0 ∧ t.getD i 0 ≤ 255000) (hx : 0 ≤ x ∧ x ≤ 255000) : LoadOk (n + 1) (t ++ [x]) := snoc_rng hl hr hx
def minTo (xs : List Int) : Nat → Int
  | 0 => xs.getD 0 0
  | i + 1 => min (minTo xs i) (xs.getD i 0)
def maxTo (xs : List Int) : Nat → Int
  | 0 => xs.getD 0 0
  | i + 1 => max (maxTo xs i) (xs.getD i 0)
theorem minTo_one (xs : List Int) : minTo xs 1 = xs.getD 0 0 := by rw [minTo, minTo]; omega
theorem maxTo_one (xs : List Int) : maxTo xs 1 = xs.getD 0 0 := by rw [maxTo, maxTo]; omega
theorem minTo_at (xs : List Int) : ∀ n, 0 < n → ∃ j, j < n ∧ minTo xs n = xs.getD j 0
  | 0, h => by omega
  | 1, _ => ⟨0, by omega, minTo_one xs⟩
  | n + 2, _ => by
    obtain ⟨j, hj, e⟩ := minTo_at xs (n + 1) (by omega)
    rw [minTo]
    by_cases hc : minTo xs (n + 1) ≤ xs.getD (n + 1) 0
    · exact ⟨j, by omega, by omega⟩
    · exact ⟨n + 1, by omega, by omega⟩
theorem maxTo_at (xs : List Int) : ∀ n, 0 < n → ∃ j, j < n ∧ maxTo xs n = xs.getD j 0
  | 0, h => by omega
  | 1, _ => ⟨0, by omega, maxTo_one xs⟩
  | n + 2, _ => by
    obtain ⟨j, hj, e⟩ := maxTo_at xs (n + 1) (by omega)
    rw [maxTo]
    by_cases hc : xs.getD (n + 1) 0 ≤ maxTo xs (n + 1)
    · exact ⟨j, by omega, by omega⟩
    · exact ⟨n + 1, by omega, by omega⟩
theorem maxTo_ge (xs : List Int) : ∀ n j, j < n → xs.getD j 0 ≤ maxTo xs n
  | 0, j, h => by omega
  | n + 1, j, h => by
    rw [maxTo]
    by_cases hc : j = n
    · subst hc; omega
    · have := maxTo_ge xs n j (by omega); omega
/-- What Made makes. -/
structure MOk (h : Hall) : Prop where
  ok : hcheck h = 0
  leak : ∀ i, i < h.branches.length → (h.branches.getD i default).leak ≤ 29
end Go.X.Ht

/- A store to the first field. -/
namespace Go.X
instance (priority := high) Upd.first {b : Nat} {vs : List Value} {o o' : List PHeap} [t : Upd b 0 vs o o'] : Upd b (0 + 0) vs o o' := ⟨t.pf⟩
end Go.X

/- What Made makes is a valid hall. -/
set_option linter.unusedVariables false
namespace Go.X.Ht
/-- The slope of walls, of coolers. -/
def wS (ws : List HWall) (i : Nat) : Int := sumTo (fun k => if (ws.getD k default).a = i ∨ (ws.getD k default).b = i then (ws.getD k default).pass else 0) ws.length
def cS (cs : List HCooler) (i : Nat) : Int := sumTo (fun k => if (cs.getD k default).room = i then (cs.getD k default).gain else 0) cs.length
theorem sumTo_congr {f g : Nat → Int} : ∀ {n : Nat}, (∀ k, k < n → f k = g k) → sumTo f n = sumTo g n
  | 0, _ => rfl
  | n + 1, h => by rw [sumTo, sumTo, sumTo_congr fun k hk => h k (by omega), h n (by omega)]
theorem sn_lt {α : Type} [Inhabited α] {l : List α} {x : α} {k : Nat} (hk : k < l.length) : (l ++ [x]).getD k default = l.getD k default := by
  rw [List.getD_eq_getElem?_getD, List.getElem?_append, if_pos hk, ← List.getD_eq_getElem?_getD]
theorem sn_at {α : Type} [Inhabited α] {l : List α} {x : α} : (l ++ [x]).getD l.length default = x := by
  rw [List.getD_eq_getElem?_getD, List.getElem?_append, if_neg (by omega)]; simp
theorem wS_snoc (ws : List HWall) (w : HWall) (i : Nat) : wS (ws ++ [w]) i = wS ws i + if w.a = i ∨ w.b = i then w.pass else 0 := by
  unfold wS
  rw [List.length_append, List.length_singleton, sumTo, sumTo_congr (g := fun k => if (ws.getD k default).a = i ∨ (ws.getD k default).b = i then (ws.getD k default).pass else 0) fun k hk => by rw [sn_lt hk]]
  simp only [sn_at]
theorem cS_snoc (cs : List HCooler) (w : HCooler) (i : Nat) : cS (cs ++ [w]) i = cS cs i + if w.room = i then w.gain else 0 := by
  unfold cS
  rw [List.length_append, List.length_singleton, sumTo, sumTo_congr (g := fun k => if (cs.getD k default).room = i then (cs.getD k default).gain else 0) fun k hk => by rw [sn_lt hk]]
  simp only [sn_at]
def WOk (n : Nat) (w : HWall) : Prop := (0 ≤ w.a ∧ w.a < n) ∧ (w.b = -1 ∨ (0 ≤ w.b ∧ w.b < n)) ∧ w.a ≠ w.b ∧ 0 ≤ w.pass ∧ w.pass ≤ 39
def BOk (i : Nat) (b : HBranch) : Prop := (if i = 0 then b.up = -1 else 0 ≤ b.up ∧ b.up < i) ∧ (0 ≤ b.opn ∧ b.opn ≤ 100) ∧ 0 ≤ b.leak ∧ b.leak ≤ 29
def KOk (n m : Nat) (c : HCooler) : Prop := (0 ≤ c.room ∧ c.room < n) ∧ (0 ≤ c.br ∧ c.br < m) ∧ (0 ≤ c.gain ∧ c.gain ≤ 59) ∧ (0 ≤ c.carry ∧ c.carry ≤ 199) ∧ 0 ≤ c.supply ∧ c.supply ≤ 1000000
def Each {α : Type} [Inhabited α] (p : Nat → α → Prop) (l : List α) : Prop := ∀ i, i < l.length → p i (l.getD i default)
theorem Each.nil {α : Type} [Inhabited α] {p : Nat → α → Prop} : Each p ([] : List α) := fun i hi => by cases hi
theorem Each.snoc {α : Type} [Inhabited α] {p : Nat → α → Prop} {l : List α} {x : α} (h : Each p l) (hx : p l.length x) : Each p (l ++ [x]) := fun i hi => by
  rw [List.length_append, List.length_singleton] at hi
  by_cases hc : i < l.length
  · rw [sn_lt hc]; exact h i hc
  · have : i = l.length := by omega
    subst this; rw [sn_at]; exact hx
theorem sumTo_rng {f : Nat → Int} {M : Int} : ∀ {n : Nat}, (∀ k, k < n → 0 ≤ f k ∧ f k ≤ M) → 0 ≤ sumTo f n ∧ sumTo f n ≤ M * n
  | 0, _ => by simp [sumTo]
  | n + 1, h => by
    have h1 := sumTo_rng (f := f) (M := M) (n := n) fun k hk => h k (by omega)
    have h2 := h n (by omega)
    rw [sumTo, show M * ((n + 1 : Nat) : Int) = M * n + M by rw [Int.natCast_add, Int.mul_add]; simp]
    omega
theorem wS_rng {n : Nat} {ws : List HWall} (h : Each (fun _ => WOk n) ws) (i : Nat) : 0 ≤ wS ws i ∧ wS ws i ≤ 39 * ws.length :=
  sumTo_rng fun k hk => by
    have := (h k hk).2.2.2
    split <;> omega
theorem cS_rng {n m : Nat} {cs : List HCooler} (h : Each (fun _ => KOk n m) cs) (i : Nat) : 0 ≤ cS cs i ∧ cS cs i ≤ 59 * cs.length :=
  sumTo_rng fun k hk => by
    have := (h k hk).2.2.1
    split <;> omega
/-- A number added at a place. -/
def IsAt (n : Nat) (s : List Int) (f : Nat → Int) : Prop := s.length = n ∧ ∀ i, i < n → s.getD i 0 = f i
theorem IsAt.add {n : Nat} {s : List Int} {f : Nat → Int} (h : IsAt n s f) {a : Int} {p : Int} (ha : 0 ≤ a) (ha2 : a < n) : IsAt n (s.set a.toNat (s.getD a.toNat default + p)) (fun i => f i + if a = i then p else 0) := by
  refine ⟨by rw [List.length_set]; exact h.1, fun i hi => ?_⟩
  have h1 := h.1
  show _ = f i + if a = i then p else 0
  rw [List.getD_eq_getElem?_getD, List.getElem?_set]
  by_cases hc : a.toNat = i
  · rw [if_pos hc, if_pos (by omega), if_pos (by omega), Option.getD_some, hc]
    have := h.2 i hi
    change s.getD i default = _ at this
    rw [this]
  · rw [if_neg hc, if_neg (by omega), ← List.getD_eq_getElem?_getD, h.2 i hi, Int.add_zero]
theorem IsAt.congr {n : Nat} {s : List Int} {f g : Nat → Int} (h : IsAt n s f) (hfg : ∀ i, i < n → f i = g i) : IsAt n s g := ⟨h.1, fun i hi => (h.2 i hi).trans (hfg i hi)⟩
theorem IsAt.zero (n : Nat) : IsAt n (List.replicate n 0) (wS []) := ⟨by simp, fun i hi => by rw [List.getD_eq_getElem?_getD, List.getElem?_replicate, if_pos hi]; rfl⟩
theorem IsAt.wall {n : Nat} {s : List Int} {ws : List HWall} (h : IsAt n s (wS ws)) {a b p : Int} (ha : 0 ≤ a) (ha2 : a < n) (hb : 0 ≤ b) (hb2 : b < n) (hab : a ≠ b) :
    IsAt n ((s.set a.toNat (s.getD a.toNat default + p)).set b.toNat ((s.set a.toNat (s.getD a.toNat default + p)).getD b.toNat default + p)) (wS (ws ++ [⟨a, b, p⟩])) :=
  ((h.add (p := p) ha ha2).add (p := p) hb hb2).congr fun i hi => by
    rw [wS_snoc]
    dsimp only
    by_cases h1 : a = i
    · rw [if_pos h1, if_neg (by omega), if_pos (.inl h1), Int.add_zero]
    · by_cases h2 : b = i
      · rw [if_neg h1, if_pos h2, if_pos (.inr h2), Int.add_zero]
      · rw [if_neg h1, if_neg h2, if_neg (by omega), Int.add_zero, Int.add_zero]
theorem IsAt.wall1 {n : Nat} {s : List Int} {ws : List HWall} (h : IsAt n s (wS ws)) {a b p : Int} (ha : 0 ≤ a) (ha2 : a < n) (hb : b = -1) :
    IsAt n (s.set a.toNat (s.getD a.toNat default + p)) (wS (ws ++ [⟨a, b, p⟩])) :=
  (h.add (p := p) ha ha2).congr fun i hi => by
    rw [wS_snoc]
    dsimp only
    by_cases h1 : a = i
    · rw [if_pos h1, if_pos (.inl h1)]
    · rw [if_neg h1, if_neg (by omega)]
theorem IsAt.none {n : Nat} {s : List Int} {ws : List HWall} (h : IsAt n s (wS ws)) : IsAt n s (fun i => wS ws i + cS [] i) := h.congr fun i _ => by rw [show cS [] i = 0 from rfl, Int.add_zero]
theorem IsAt.cooler {n : Nat} {s : List Int} {ws : List HWall} {cs : List HCooler} (h : IsAt n s (fun i => wS ws i + cS cs i)) {c : HCooler} (ha : 0 ≤ c.room) (ha2 : c.room < n) :
    IsAt n (s.set c.room.toNat (s.getD c.room.toNat default + c.gain)) (fun i => wS ws i + cS (cs ++ [c]) i) :=
  (h.add (p := c.gain) ha ha2).congr fun i hi => by rw [cS_snoc, Int.add_assoc]
def ROk (ws : List HWall) (cs : List HCooler) (i : Nat) (r : HRoom) : Prop := wS ws i + cS cs i ≤ r.store ∧ 1 ≤ r.store ∧ r.store ≤ 1000000 ∧ 0 ≤ r.limit ∧ r.limit ≤ 1000000
theorem allTo_of {p : Nat → Bool} {n : Nat} (h : ∀ i, i < n → p i = true) : allTo p n = true := by
  unfold allTo
  rw [List.all_eq_true]
  exact fun i hi => h i (List.mem_range.1 hi)
theorem made_ok {rs : List HRoom} {ws : List HWall} {bs : List HBranch} {cs : List HCooler} (hr : 1 ≤ rs.length) (hr2 : rs.length ≤ 4) (hw : ws.length ≤ 6) (hb : bs.length ≤ 6) (hc : cs.length ≤ 6)
    (er : Each (ROk ws cs) rs) (ew : Each (fun _ => WOk rs.length) ws) (eb : Each BOk bs) (ec : Each (fun _ => KOk rs.length bs.length) cs) : MOk ⟨rs, ws, bs, cs⟩ := by
  refine ⟨?_, fun i hi => (eb i hi).2.2.2⟩
  unfold hcheck
  dsimp only
  rw [if_neg (by omega), if_neg, if_pos]
  · exact allTo_of fun i hi => by rw [decide_eq_true_eq]; exact (er i hi).1
  · rw [Bool.not_eq_false]
    simp only [allowedP, Bool.and_eq_true]
    refine ⟨⟨⟨allTo_of fun i hi => ?_, allTo_of fun i hi => ?_⟩, allTo_of fun i hi => ?_⟩, allTo_of fun i hi => ?_⟩
    · have := er i hi
      unfold ROk at this
      simp only [okRoom, inP, Bool.and_eq_true, decide_eq_true_eq]
      omega
    · have := ew i hi
      unfold WOk at this
      simp only [okWall, inP, ixP, Bool.and_eq_true, Bool.or_eq_true, decide_eq_true_eq]
      omega
    · have := eb i hi
      unfold BOk at this
      by_cases h0 : i = 0
      · subst h0
        simp only [okBranch, inP, if_true, Bool.and_eq_true, decide_eq_true_eq] at this ⊢
        omega
      · rw [if_neg h0] at this
        simp only [okBranch, inP, ixP, if_neg h0, Bool.and_eq_true, decide_eq_true_eq]
        omega
    · have := ec i hi
      unfold KOk at this
      simp only [okCooler, inP, ixP, Bool.and_eq_true, decide_eq_true_eq]
      omega
end Go.X.Ht

/- Laws of the steps of what Made, Warm and Cased make. -/
set_option linter.unusedVariables false
namespace Go.X.Ht
theorem warm_of {h : Hall} {t : List Int} (tk : TOk h t) : warmP h t = 0 := by
  have h1 := tk.len
  unfold warmP
  rw [if_neg (by omega), if_neg]
  intro hc
  obtain ⟨n, hn, hb⟩ := List.any_eq_true.1 hc
  obtain ⟨i, hi, rfl⟩ := List.getElem_of_mem hn
  have := tk.rng i hi
  rw [List.getD_eq_getElem?_getD, List.getElem?_eq_getElem hi, Option.getD_some] at this
  simp only [inP, Bool.not_eq_true', Bool.and_eq_false_iff, decide_eq_false_iff_not] at hb
  omega
theorem cased_of {h : Hall} {c : HCase} (ck : COk h c) : casedP h c = 0 := by
  have h1 := ck.len
  have h2 := ck.out
  have h3 := ck.pump
  unfold casedP
  rw [if_neg (by omega), if_neg]
  rintro ((hc | hc) | hc)
  · obtain ⟨n, hn, hb⟩ := List.any_eq_true.1 hc
    obtain ⟨i, hi, rfl⟩ := List.getElem_of_mem hn
    have := ck.rng i hi
    rw [List.getD_eq_getElem?_getD, List.getElem?_eq_getElem hi, Option.getD_some] at this
    simp only [inP, Bool.not_eq_true', Bool.and_eq_false_iff, decide_eq_false_iff_not] at hb
    omega
  · simp only [inP, Bool.and_eq_true, decide_eq_true_eq] at hc; omega
  · simp only [inP, Bool.and_eq_true, decide_eq_true_eq] at hc; omega
theorem next_fine {h : Hall} {t : List Int} {c : HCase} (hc : hcheck h = 0) (tk : TOk h t) (ck : COk h c) : nextG h t c = (nextL h t c, 0) := by
  unfold nextG
  rw [if_neg (by omega), warm_of tk, cased_of ck, if_neg (by decide)]
theorem WarmOk.tok {h : Hall} {t : List Int} (w : WarmOk h.rooms.length t) : TOk h t := ⟨w.1, fun i hi => by have := w.2 i hi; omega⟩
theorem CasedOk.cok {h : Hall} {c : HCase} (w : CasedOk h.rooms.length c) : COk h c := ⟨w.1.1, fun i hi => by have := w.1.2 i hi; omega, by have := w.2.1; omega, by have := w.2.2; omega⟩
theorem WarmOk.low {n : Nat} {a b : List Int} (ha : WarmOk n a) (hb : WarmOk n b) : WarmOk n (lowL a b) := ⟨(lowL_len a b).trans ha.1, fun i hi => by
  rw [lowL_len] at hi
  have h1 := ha.2 i hi
  have h2 := hb.2 i (by have := ha.1; have := hb.1; omega)
  rw [lowL_at hi]; omega⟩
theorem WarmOk.high {n : Nat} {a b : List Int} (ha : WarmOk n a) (hb : WarmOk n b) : WarmOk n (highL a b) := ⟨(highL_len a b).trans ha.1, fun i hi => by
  rw [highL_len] at hi
  have h1 := ha.2 i hi
  have h2 := hb.2 i (by have := ha.1; have := hb.1; omega)
  rw [highL_at hi]; omega⟩
theorem LoadOk.low {n : Nat} {a b : List Int} (ha : LoadOk n a) (hb : LoadOk n b) : LoadOk n (lowL a b) := ⟨(lowL_len a b).trans ha.1, fun i hi => by
  rw [lowL_len] at hi
  have h1 := ha.2 i hi
  have h2 := hb.2 i (by have := ha.1; have := hb.1; omega)
  rw [lowL_at hi]; omega⟩
theorem LoadOk.high {n : Nat} {a b : List Int} (ha : LoadOk n a) (hb : LoadOk n b) : LoadOk n (highL a b) := ⟨(highL_len a b).trans ha.1, fun i hi => by
  rw [highL_len] at hi
  have h1 := ha.2 i hi
  have h2 := hb.2 i (by have := ha.1; have := hb.1; omega)
  rw [highL_at hi]; omega⟩
theorem CasedOk.low {n : Nat} {a b : HCase} (ha : CasedOk n a) (hb : CasedOk n b) : CasedOk n (lowC a b) :=
  ⟨ha.1.low hb.1, by have := ha.2.1; have := hb.2.1; unfold lowC; dsimp only; omega, by have := ha.2.2; have := hb.2.2; unfold lowC; dsimp only; omega⟩
theorem CasedOk.high {n : Nat} {a b : HCase} (ha : CasedOk n a) (hb : CasedOk n b) : CasedOk n (highC a b) :=
  ⟨ha.1.high hb.1, by have := ha.2.1; have := hb.2.1; unfold highC; dsimp only; omega, by have := ha.2.2; have := hb.2.2; unfold highC; dsimp only; omega⟩
theorem nextL_len (h : Hall) (t : List Int) (c : HCase) : (nextL h t c).length = h.rooms.length := by simp [nextL]
theorem below_of {a b : List Int} (hl : a.length = b.length) (h : LeL a b) : belowP a b = true := below_iff.2 ⟨hl, h⟩
/-- The statement HeatMonotone. -/
theorem monotone {h : Hall} (hc : hcheck h = 0) {s t : List Int} (t1 : TOk h s) (t2 : TOk h t) {a b : HCase} (c1 : COk h a) (c2 : COk h b) (st : LeL s t) (ab : LeC a b) :
    belowP (nextL h s a) (nextL h t b) = true ∧ 0 ≤ minTo (nextL h s a) (nextL h s a).length ∧ maxTo (nextL h t b) (nextL h t b).length ≤ 1000000 := by
  have ok := hcheck_ok hc
  have r1 := ok.r1
  refine ⟨below_of (by rw [nextL_len, nextL_len]) (next_mono ok t1 t2 c1 c2 st ab), ?_, ?_⟩
  · obtain ⟨j, hj, e⟩ := minTo_at (nextL h s a) (nextL h s a).length (by rw [nextL_len]; omega)
    rw [e]
    exact ((next_ok ok t1 c1).rng j hj).1
  · obtain ⟨j, hj, e⟩ := maxTo_at (nextL h t b) (nextL h t b).length (by rw [nextL_len]; omega)
    rw [e]
    exact ((next_ok ok t2 c2).rng j hj).2
end Go.X.Ht

/- Laws of flows: what hangs on a branch, and greater leaks. -/
set_option linter.unusedVariables false
namespace Go.X.Ht
/-- The same hall with other leaks. -/
structure Leakier (g h : Hall) : Prop where
  rooms : g.rooms = h.rooms
  walls : g.walls = h.walls
  coolers : g.coolers = h.coolers
  len : g.branches.length = h.branches.length
  up : ∀ i, (g.branches.getD i default).up = (h.branches.getD i default).up
  opn : ∀ i, (g.branches.getD i default).opn = (h.branches.getD i default).opn
  leak : ∀ i, (h.branches.getD i default).leak ≤ (g.branches.getD i default).leak
end Go.X.Ht

/- Heat is balanced. -/
set_option linter.unusedVariables false
namespace Go.X.Ht
theorem sum_swap {f : Nat → Nat → Int} {m : Nat} : ∀ {n : Nat}, sumTo (fun i => sumTo (f i) m) n = sumTo (fun k => sumTo (fun i => f i k) n) m
  | 0 => (sum_zero fun _ _ => rfl).symm
  | n + 1 => by
    rw [sumTo, sum_swap (n := n), ← sum_add]
    exact sumTo_congr fun k _ => rfl
theorem sum_pick {f : Nat → Int} {a : Int} : ∀ {n : Nat}, 0 ≤ a → a < n → sumTo (fun i => if a = i then f i else 0) n = f a.toNat
  | 0, h0, h1 => by omega
  | n + 1, h0, h1 => by
    rw [sumTo]
    by_cases hc : a = n
    · rw [if_pos hc, sum_zero fun i hi => by rw [if_neg (by omega)], show a.toNat = n by omega, Int.zero_add]
    · rw [if_neg hc, sum_pick h0 (by omega), Int.add_zero]
theorem sum_sub {f g : Nat → Int} : ∀ {n : Nat}, sumTo (fun k => f k - g k) n = sumTo f n - sumTo g n
  | 0 => rfl
  | n + 1 => by rw [sumTo, sumTo, sumTo, sum_sub]; omega
/-- What a room stores, less its load. -/
def stp (h : Hall) (x y : List Int) (c : HCase) (i : Nat) : Int := (h.rooms.getD i default).store * (y.getD i 0 - x.getD i 0) - c.load.getD i 0
def lsp (h : Hall) (i : Nat) : Int := (h.rooms.getD i default).store - 1
def wout (h : Hall) (x : List Int) (out : Int) (k : Nat) : Int := if (h.walls.getD k default).b < 0 then (h.walls.getD k default).pass * (out - x.getD (h.walls.getD k default).a.toNat 0) else 0
section
variable {h : Hall} (ok : HOk h) {x : List Int} (tk : TOk h x) {c : HCase} (ck : COk h c)
include ok tk ck
theorem wheats {k : Nat} (hk : k < h.walls.length) : sumTo (fun i => wheat h x c.out i k) h.rooms.length = wout h x c.out k := by
  have _t := tk
  have _c := ck
  have hw := ok.wall k hk
  have e : ∀ i, wheat h x c.out i k = (if (h.walls.getD k default).a = i then (h.walls.getD k default).pass * ((if 0 ≤ (h.walls.getD k default).b then x.getD (h.walls.getD k default).b.toNat 0 else c.out) - x.getD i 0) else 0) +
      (if (h.walls.getD k default).b = i then (h.walls.getD k default).pass * (x.getD (h.walls.getD k default).a.toNat 0 - x.getD i 0) else 0) := fun i => by
    unfold wheat
    by_cases h1 : (h.walls.getD k default).a = i
    · rw [if_pos h1, if_pos h1, if_neg (show ¬ (h.walls.getD k default).b = (i : Int) by omega), Int.add_zero]
    · rw [if_neg h1, if_neg h1, Int.zero_add]
  rw [sumTo_congr fun i _ => e i, sum_add, sum_pick hw.1.1 hw.1.2]
  unfold wout
  by_cases hb : (h.walls.getD k default).b < 0
  · rw [if_pos hb, if_neg (by omega), sum_zero fun i _ => by rw [if_neg (by omega)], Int.add_zero]
  · rw [if_neg hb, if_pos (by omega), sum_pick (by omega) (by omega), Int.mul_sub, Int.mul_sub]
    omega
theorem cheats {k : Nat} (hk : k < h.coolers.length) : sumTo (fun i => cheat h (takenL h x c.pump) i k) h.rooms.length = - (takenL h x c.pump).getD k 0 := by
  have _t := tk
  have _c := ck
  have hc := ok.cooler k hk
  unfold cheat
  exact sum_pick (f := fun _ => - (takenL h x c.pump).getD k 0) hc.1.1 hc.1.2
theorem stored_eq (hm : ∀ i, i < h.rooms.length → nextAt h x c i ≠ 1000000) :
    sumTo (stp h x (nextL h x c) c) h.rooms.length - sumTo (wout h x c.out) h.walls.length + sumTo (fun k => (takenL h x c.pump).getD k 0) h.coolers.length =
      - sumTo (fun i => heatOf h x c i % (h.rooms.getD i default).store) h.rooms.length := by
  have e : ∀ i, i < h.rooms.length → stp h x (nextL h x c) c i = ((sumTo (wheat h x c.out i) h.walls.length) + (sumTo (cheat h (takenL h x c.pump) i) h.coolers.length)) - heatOf h x c i % (h.rooms.getD i default).store := fun i hi => by
    have hr := ok.room i hi
    have h1 := hm i hi
    unfold stp
    rw [next_getD ok tk ck hi, Int.mul_sub]
    have h2 : nextAt h x c i = heatOf h x c i / (h.rooms.getD i default).store := by unfold nextAt at h1 ⊢; omega
    rw [h2]
    have h3 := Int.mul_ediv_add_emod (heatOf h x c i) (h.rooms.getD i default).store
    have h4 : heatOf h x c i = (h.rooms.getD i default).store * x.getD i 0 + c.load.getD i 0 + sumTo (wheat h x c.out i) h.walls.length + sumTo (cheat h (takenL h x c.pump) i) h.coolers.length := rfl
    omega
  have s1 : sumTo (fun i => sumTo (wheat h x c.out i) h.walls.length) h.rooms.length = sumTo (wout h x c.out) h.walls.length := by
    rw [sum_swap]; exact sumTo_congr fun k hk => wheats ok tk ck hk
  have s2 : sumTo (fun i => sumTo (cheat h (takenL h x c.pump) i) h.coolers.length) h.rooms.length = sumTo (fun k => - (takenL h x c.pump).getD k 0) h.coolers.length := by
    rw [sum_swap]; exact sumTo_congr fun k hk => cheats ok tk ck hk
  rw [sumTo_congr e, sum_sub, sum_add, s1, s2]
  have h5 : sumTo (fun k => - (takenL h x c.pump).getD k 0) h.coolers.length = - sumTo (fun k => (takenL h x c.pump).getD k 0) h.coolers.length := by
    have := sum_mul (f := fun k => (takenL h x c.pump).getD k 0) (c := -1) (n := h.coolers.length)
    rw [Int.neg_mul, Int.one_mul] at this
    rw [← this]
    exact sumTo_congr fun k _ => by rw [Int.neg_mul, Int.one_mul]
  rw [h5]
  omega
theorem balanced (hm : maxTo (nextL h x c) (nextL h x c).length ≠ 1000000) :
    sumTo (stp h x (nextL h x c) c) h.rooms.length - sumTo (wout h x c.out) h.walls.length + sumTo (fun k => (takenL h x c.pump).getD k 0) h.coolers.length ≤ 0 ∧
    - (sumTo (stp h x (nextL h x c) c) h.rooms.length - sumTo (wout h x c.out) h.walls.length + sumTo (fun k => (takenL h x c.pump).getD k 0) h.coolers.length) ≤ sumTo (lsp h) h.rooms.length := by
  have h0 : ∀ i, i < h.rooms.length → nextAt h x c i ≠ 1000000 := fun i hi he => by
    have h1 := maxTo_ge (nextL h x c) (nextL h x c).length i (by rw [nextL_len]; exact hi)
    rw [next_getD ok tk ck hi, he] at h1
    obtain ⟨j, hj, e⟩ := maxTo_at (nextL h x c) (nextL h x c).length (by rw [nextL_len]; have := ok.r1; omega)
    rw [nextL_len] at hj
    have h2 := next_rng ok tk ck hj
    rw [nextL_len] at e
    rw [nextL_len] at h1 hm
    rw [next_getD ok tk ck hj] at e
    omega
  rw [stored_eq ok tk ck h0]
  have h3 := sum_nonneg (f := fun i => heatOf h x c i % (h.rooms.getD i default).store) (n := h.rooms.length) fun i hi => Int.emod_nonneg _ (by have := ok.room i hi; omega)
  have h4 := sum_mono (f := fun i => heatOf h x c i % (h.rooms.getD i default).store) (g := lsp h) (n := h.rooms.length) fun i hi => by
    have := Int.emod_lt_of_pos (heatOf h x c i) (show 0 < (h.rooms.getD i default).store by have := ok.room i hi; omega)
    unfold lsp
    omega
  omega
end
end Go.X.Ht

/- Classes, boxes and settling halls, in plain lists. -/
set_option linter.unusedVariables false
namespace Go.X.Ht
def lbelow (a b : List Int) : Bool := allTo (fun i => decide (a.getD i 0 ≤ b.getD i 0)) a.length
def betweenP (a c b : HCase) : Bool :=
  (((allTo (fun i => decide (a.load.getD i 0 ≤ c.load.getD i 0) && decide (c.load.getD i 0 ≤ b.load.getD i 0)) c.load.length && decide (a.out ≤ c.out)) && decide (c.out ≤ b.out)) && decide (c.pump ≤ a.pump)) && decide (b.pump ≤ c.pump)
def classedG (h : Hall) (a b : HCase) (l : List HCase) : Int :=
  if hcheck h ≠ 0 then hcheck h else if bothP ([casedP h a, casedP h b] ++ l.map (casedP h)) ≠ 0 then bothP ([casedP h a, casedP h b] ++ l.map (casedP h)) else if betweenP a a b = true then 0 else 80
def boxedG (h : Hall) (lo hi : List Int) (a b : HCase) : Int :=
  if classedG h a b [] ≠ 0 then classedG h a b [] else if bothP [warmP h lo, warmP h hi] ≠ 0 then bothP [warmP h lo, warmP h hi] else if lbelow lo hi = true then 0 else 80
def heldG (h : Hall) (lo hi : List Int) (a b : HCase) : Bool × Int :=
  if boxedG h lo hi a b ≠ 0 then (false, boxedG h lo hi a b) else (lbelow lo (nextL h lo a) && lbelow (nextL h hi b) hi, 0)
def iterT (h : Hall) (c : Nat → HCase) (t : List Int) : Nat → List Int
  | 0 => t
  | n + 1 => nextL h (iterT h c t n) (c n)
theorem lbelow_iff {a b : List Int} : lbelow a b = true ↔ LeL a b := by
  unfold lbelow allTo
  rw [List.all_eq_true]
  exact ⟨fun h i hi => by simpa using h i (List.mem_range.2 hi), fun h i hi => by simpa using h i (List.mem_range.1 hi)⟩
theorem between_iff {a c b : HCase} (hl : a.load.length = c.load.length) : betweenP a c b = true ↔ LeC a c ∧ LeC c b := by
  unfold betweenP allTo
  simp only [Bool.and_eq_true, decide_eq_true_eq, List.all_eq_true]
  constructor
  · rintro ⟨⟨⟨⟨h1, h2⟩, h3⟩, h4⟩, h5⟩
    exact ⟨⟨fun i hi => (h1 i (List.mem_range.2 (by omega))).1, h2, h4⟩, ⟨fun i hi => (h1 i (List.mem_range.2 hi)).2, h3, h5⟩⟩
  · rintro ⟨⟨h1, h2, h3⟩, ⟨h4, h5, h6⟩⟩
    exact ⟨⟨⟨⟨fun i hi => ⟨h1 i (by have := List.mem_range.1 hi; omega), h4 i (List.mem_range.1 hi)⟩, h2⟩, h5⟩, h3⟩, h6⟩
theorem LeL.refl {a : List Int} : LeL a a := fun _ _ => Int.le_refl _
theorem LeC.refl {a : HCase} : LeC a a := ⟨LeL.refl, Int.le_refl _, Int.le_refl _⟩
theorem LeL.trans {a b c : List Int} (hl : a.length = b.length) (h1 : LeL a b) (h2 : LeL b c) : LeL a c := fun i hi => Int.le_trans (h1 i hi) (h2 i (by omega))
theorem both_zero {l : List Int} (h : ∀ x ∈ l, x = 0) : bothP l = 0 := by
  unfold bothP
  rw [if_neg (fun hc => absurd (h 1 hc) (by decide)), if_neg (fun hc => absurd (h 6 hc) (by decide))]
theorem classed_fine {h : Hall} {a b : HCase} {l : List HCase} (hc : hcheck h = 0) (ak : COk h a) (bk : COk h b) (lk : ∀ c ∈ l, COk h c) (ab : LeC a b) : classedG h a b l = 0 := by
  have e : bothP ([casedP h a, casedP h b] ++ l.map (casedP h)) = 0 := both_zero fun x hx => by
    rw [List.mem_append, List.mem_map] at hx
    rcases hx with hx | ⟨c, hc, rfl⟩
    · simp only [List.mem_cons, List.not_mem_nil, or_false] at hx
      rcases hx with rfl | rfl
      · exact cased_of ak
      · exact cased_of bk
    · exact cased_of (lk c hc)
  unfold classedG
  rw [if_neg (by omega), if_neg (by omega), if_pos ((between_iff rfl).2 ⟨LeC.refl, ab⟩)]
theorem boxed_fine {h : Hall} {lo hi : List Int} {a b : HCase} (hc : hcheck h = 0) (ak : COk h a) (bk : COk h b) (ab : LeC a b) (lk : TOk h lo) (hk : TOk h hi) (le : LeL lo hi) : boxedG h lo hi a b = 0 := by
  have e := classed_fine (l := []) hc ak bk (fun _ h => by cases h) ab
  unfold boxedG
  rw [if_neg (by omega), warm_of lk, warm_of hk, if_neg (by decide), if_pos (lbelow_iff.2 le)]
theorem held_fine {h : Hall} {lo hi : List Int} {a b : HCase} (hc : hcheck h = 0) (ak : COk h a) (bk : COk h b) (ab : LeC a b) (lk : TOk h lo) (hk : TOk h hi) (le : LeL lo hi) :
    heldG h lo hi a b = (lbelow lo (nextL h lo a) && lbelow (nextL h hi b) hi, 0) := by
  unfold heldG
  rw [if_neg (by rw [boxed_fine hc ak bk ab lk hk le]; decide)]
end Go.X.Ht

/- Rides and runs of a hall: the temperatures of all cases of a class stay between the bounds. -/
set_option linter.unusedVariables false
namespace Go.X.Ht
instance : Inhabited HCase := ⟨⟨[], 0, 0⟩⟩
def rowsL (h : Hall) (c : Nat → HCase) (t : List Int) (n : Nat) : List (List Int) := (List.range n).map fun i => iterT h c t (i + 1)
def boundsG (h : Hall) (lo hi : List Int) (a b : HCase) (n : Int) : List (List Int) × List (List Int) × Int :=
  if boxedG h lo hi a b ≠ 0 then ([], [], boxedG h lo hi a b) else if ¬ inP n 20000 = true then ([], [], 2) else (rowsL h (fun _ => a) lo n.toNat, rowsL h (fun _ => b) hi n.toNat, 0)
theorem rows_len (h : Hall) (c : Nat → HCase) (t : List Int) (n : Nat) : (rowsL h c t n).length = n := by simp [rowsL]
theorem rows_at {h : Hall} {c : Nat → HCase} {t : List Int} {n i : Nat} (hi : i < n) : (rowsL h c t n).getD i default = iterT h c t (i + 1) := by
  unfold rowsL
  rw [List.getD_eq_getElem?_getD, List.getElem?_eq_getElem (by simpa using hi)]; simp
theorem bounds_fine {h : Hall} {lo hi : List Int} {a b : HCase} (hc : hcheck h = 0) (ak : COk h a) (bk : COk h b) (ab : LeC a b) (lk : TOk h lo) (hk : TOk h hi) (le : LeL lo hi) {n : Nat} (hn : n ≤ 20000) :
    boundsG h lo hi a b n = (rowsL h (fun _ => a) lo n, rowsL h (fun _ => b) hi n, 0) := by
  unfold boundsG
  rw [if_neg (by rw [boxed_fine hc ak bk ab lk hk le]; decide), if_neg (by simp only [inP, Bool.and_eq_true, decide_eq_true_eq]; omega), Int.toNat_natCast]
end Go.X.Ht

/- Errors of lists of cases. -/
set_option linter.unusedVariables false
namespace Go.X.Ht
theorem both_vals {l : List Int} (hb : bothP l = 0) {x : Int} (hx : x ∈ l) : x ≠ 1 ∧ x ≠ 6 := by
  unfold bothP at hb
  split at hb
  · omega
  · rename_i h1
    split at hb
    · omega
    · rename_i h2
      exact ⟨fun h => h1 (h ▸ hx), fun h => h2 (h ▸ hx)⟩
theorem both_cased {h : Hall} {c : HCase} {l : List Int} (hb : bothP l = 0) (hx : casedP h c ∈ l) : COk h c := by
  have h1 := both_vals hb hx
  have h2 := cased_vals h c
  exact cased_ok (by omega)
theorem both_warm {h : Hall} {t : List Int} {l : List Int} (hb : bothP l = 0) (hx : warmP h t ∈ l) : TOk h t := by
  have h1 := both_vals hb hx
  have h2 := warm_vals h t
  exact warm_ok (by omega)
theorem range_getD {α β : Type} [Inhabited α] (l : List α) (f : α → β) : (List.range l.length).map (fun j => f (l.getD j default)) = l.map f := by
  apply List.ext_getElem
  · simp
  · intro i h1 h2
    simp only [List.getElem_map, List.getElem_range]
    rw [List.getD_eq_getElem?_getD, List.getElem?_eq_getElem (by simpa using h2)]; rfl
theorem range_snoc {β : Type} (f : Nat → β) (n : Nat) : (List.range (n + 1)).map f = (List.range n).map f ++ [f n] := by
  rw [List.range_succ, List.map_append]; rfl
def errsL (h : Hall) (a d : HCase) (l : List HCase) : List Int := [casedP h a, casedP h d] ++ l.map (casedP h)
theorem errsL_snoc {h : Hall} {a d : HCase} {l : List HCase} {x : HCase} : errsL h a d (l ++ [x]) = errsL h a d l ++ [casedP h x] := by simp [errsL]
theorem errsL_len {h : Hall} {a d : HCase} {l : List HCase} : (errsL h a d l).length = l.length + 2 := by simp [errsL]
theorem classedG_errs (h : Hall) (a d : HCase) (l : List HCase) : classedG h a d l = if hcheck h ≠ 0 then hcheck h else if bothP (errsL h a d l) ≠ 0 then bothP (errsL h a d l) else if betweenP a a d = true then 0 else 80 := rfl
theorem between_spec1 {a c b : HCase} {i : Nat} (hi : i < c.load.length) (h : c.load.getD i 0 < a.load.getD i 0 ∨ b.load.getD i 0 < c.load.getD i 0) : betweenP a c b = false := by
  unfold betweenP
  rw [allTo_false hi (by rw [Bool.and_eq_false_iff, decide_eq_false_iff_not, decide_eq_false_iff_not]; omega)]
  simp only [Bool.false_and]
theorem classed_ok {h : Hall} {a d : HCase} {l : List HCase} (e : classedG h a d l = 0) : hcheck h = 0 ∧ COk h a ∧ COk h d ∧ (∀ c ∈ l, COk h c) ∧ LeC a d := by
  rw [classedG_errs] at e
  split at e
  · rename_i h1; exact absurd e h1
  · rename_i h1
    split at e
    · rename_i h2; exact absurd e h2
    · rename_i h2
      have h2 := Decidable.of_not_not h2
      have oa : COk h a := both_cased h2 (by simp [errsL])
      split at e
      · rename_i h3
        exact ⟨Decidable.of_not_not h1, oa, both_cased h2 (by simp [errsL]), fun c hc => both_cased h2 (by simp only [errsL, List.mem_append, List.mem_map]; exact .inr ⟨c, hc, rfl⟩), ((between_iff rfl).1 h3).2⟩
      · cases e
theorem boxed_ok {h : Hall} {lo hi : List Int} {a d : HCase} (e : boxedG h lo hi a d = 0) : hcheck h = 0 ∧ COk h a ∧ COk h d ∧ TOk h lo ∧ TOk h hi ∧ LeL lo hi ∧ LeC a d := by
  unfold boxedG at e
  split at e
  · rename_i h1; exact absurd e h1
  · rename_i h1
    obtain ⟨c0, c1, c2, _, c3⟩ := classed_ok (Decidable.of_not_not h1)
    split at e
    · rename_i h2; exact absurd e h2
    · rename_i h2
      have h2 := Decidable.of_not_not h2
      split at e
      · rename_i h3
        exact ⟨c0, c1, c2, both_warm h2 (by simp), both_warm h2 (by simp), lbelow_iff.1 h3, c3⟩
      · cases e
end Go.X.Ht

/- min and max of whole numbers of any width. -/
set_option linter.unusedVariables false
namespace Go.X
section
variable {P : Program} {ops : Array Oper} {e : Env} {o r : List PHeap} {d : Option Tmp} {ty : TypeId} {pos : String} {aft : Array Edge}
end
end Go.X

/- Iterators that yield fresh values: what was yielded stays readable; loops over them. No condition. -/
set_option linter.unusedSimpArgs false
set_option linter.unusedVariables false
namespace Go.X

/-! ### two heaps as one -/
def cat (a b : PHeap) : PHeap := join [a, b]
theorem cat_left (a b : PHeap) : leH a (cat a b) := fun x ob h => by
  show ((a x).or _) = _
  rw [h]; rfl
theorem cat_right {a b : PHeap} (hd : Disj a b) : leH b (cat a b) := fun x ob h => by
  show ((a x).or ((b x).or none)) = _
  rcases hd x with h1 | h1
  · rw [h1, h]; rfl
  · rw [h] at h1; cases h1
theorem leH.trans {a b c : PHeap} (h1 : leH a b) (h2 : leH b c) : leH a c := fun x ob h => h2 x ob (h1 x ob h)
theorem leH.emp (h : PHeap) : leH emp h := fun x ob h => by cases h
section
variable {c : Cx} {ops : Array Oper} {rest : List Oper} {k : List Item} {e : Env} {o o1 o2 r : List PHeap} {fl : List Nat} {f : List PHeap} {t : Plan}
/-- Two owned heaps become one. -/
theorem XK.cat (a b : PHeap) [ta : Take a o o1] [tb : Take b o1 o2] (h : leH a (cat a b) → leH b (cat a b) → XK c k e (cat a b :: o2) r) : XK c k e o r := fun D ds w0 w cs ha he hD hm => by
  have hp : (D :: o).Perm ([a, b] ++ (D :: o2)) := ((ta.pf.trans (tb.pf.cons a)).cons D).trans (by
    show (D :: a :: b :: o2).Perm (a :: b :: D :: o2)
    exact (List.Perm.swap _ _ _).trans ((List.Perm.swap _ _ _).cons _))
  have hs := hm.perm hp
  have hd : Disj a b := (List.pairwise_cons.1 hs.pw).1 b (by simp)
  exact h (cat_left a b) (cat_right hd) D ds w0 w cs ha he hD ((Sep.join hs).perm (List.Perm.swap _ _ _))
theorem XO.cat (a b : PHeap) [ta : Take a o o1] [tb : Take b o1 o2] (h : leH a (cat a b) → leH b (cat a b) → XO c ops rest k e (cat a b :: o2) r) : XO c ops rest k e o r := fun j hj hok D ds w0 w cs ha he hD hm => by
  have hp : (D :: o).Perm ([a, b] ++ (D :: o2)) := ((ta.pf.trans (tb.pf.cons a)).cons D).trans (by
    show (D :: a :: b :: o2).Perm (a :: b :: D :: o2)
    exact (List.Perm.swap _ _ _).trans ((List.Perm.swap _ _ _).cons _))
  have hs := hm.perm hp
  have hd : Disj a b := (List.pairwise_cons.1 hs.pw).1 b (by simp)
  exact h (cat_left a b) (cat_right hd) j hj hok D ds w0 w cs ha he hD ((Sep.join hs).perm (List.Perm.swap _ _ _))
end
/-- Under a guard that is known not to hold, nothing is done. -/
theorem Quiet.off {P : Program} {ops : Array Oper} {e : Env} {o r : List PHeap} {d : Option Tmp} {ty : TypeId} {pos : String} {aft : Array Edge} {op : Op} {j g : Nat} {want b : Bool}
    (hj : (ops[j]?).bind (·.dst) = some g) (hg : find e g = some (.bool b)) (hb : b ≠ want) : Quiet P ops ⟨d, op, ty, pos, aft, some (j, want)⟩ e o r undef := fun a w he _ => by
  refine .inr ⟨?_, rfl⟩
  rw [wanted_guard hj (he g _ hg)]
  simp [hb]
theorem XT.vcall {c : Cx} {ops : Array Oper} {fl : List Nat} {f : List PHeap} {k : List Item} {e : Env} {o r : List PHeap} {i0 d : Nat} {ty : TypeId} {pos : String} {aft : Array Edge} {bb : Bool} {tt uu : Plan}
    {x : Operand} {l : List Operand} {tys : Array TypeId} {y : Value} {vs : List Value} {Hm Hr : List PHeap} {R : Value → List PHeap → Prop} {o1 : List PHeap}
    (hi : ops[i0]? = some ⟨some d, .call ⟨.value x, l.toArray, tys⟩, ty, pos, aft, none⟩) (hok : okOper c.N ⟨some d, .call ⟨.value x, l.toArray, tys⟩, ty, pos, aft, none⟩ = true)
    (hx : ev e x = some y) (hl : evs e l = some vs) (hS : VSpec c.P y vs Hm Hr R) [t : Takes Hm o o1] [al : AllIn Hr o1 (c.B :: r)]
    (h : ∀ v hs, R v hs → Keeps bb f (hs ++ o1) ∧ XT c ops fl f k r tt ((d, some v) :: e) (hs ++ o1)) (hu : XT c ops fl f k r uu e o) :
    XT c ops fl f k r (.br i0 bb tt uu) e o := XT.s hi hok (Stp.vcall hx hl hS) (fun v o2 ⟨hs, hR, h2⟩ => by subst h2; exact h v hs hR) hu

/-- A heap that is one of two that are read. -/
class Either (x : PHeap) (a b : outParam PHeap) : Prop where
  pf : x = a ∨ x = b
instance (priority := low) InM.either (x a b : PHeap) (o r : List PHeap) [t : Either x a b] [ia : InM a o r] [ib : InM b o r] : InM x o r := ⟨t.pf.elim (fun h => h ▸ ia.pf) (fun h => h ▸ ib.pf)⟩
/-! ### iterators with fresh values -/
/-- It yields n times; K: all that it has yielded, to be read in the rounds, owned at the end; Hs: what the iterator itself holds. -/
def ItK (P : Program) (y : Value) (n : Nat) (Y : Nat → PHeap → List Value → Prop) (Hs Hg : List PHeap) : Prop :=
  ∀ (f : Value) (Hr : List PHeap) (Q : Nat → PHeap → PHeap → Prop) (X : PHeap → PHeap → Prop),
    (∀ i K K' q, leH K K' → Q i K q → Q i K' q) →
    (∀ i, i < n → ∀ K vs q, Y i K vs → Q i K q → VSpec P f vs [q] (K :: Hr) (fun v hs => ∃ b q', v = .bool b ∧ hs = [q'] ∧ (b = true → Q (i + 1) K q') ∧ (b = false → X K q'))) →
    ∀ q, Q 0 emp q → VSpec P y [f] (q :: Hs) (Hg ++ Hr) (fun _ hs => ∃ q' K, hs = [q', K] ∧ (Q n K q' ∨ X K q'))
theorem XK.rangeK {P : Program} {f : FuncId} {N : Nat} {B : PHeap} {E : Frame → World → Prop} {X : Type} {k : List Item} {e : Env} {o o1 ok r : List PHeap} {x : Operand} {y : Value} {ps : List Tmp} {asn bd : Code} {Hs Hg : List PHeap} {n : Nat} {Y : Nat → PHeap → List Value → Prop}
    (oc : X → List PHeap) (I : Nat → X → PHeap → Prop) (J : Code → X → PHeap → Prop) (x0 : X) (o0 : List PHeap) (hx : ev e x = some y) (hit : ItK P y n Y Hs Hg)
    [rst : Rest o0 o o1] [tk : Takes Hs o1 ok] (ho0 : oc x0 = o0) (hmono : ∀ i x K K', leH K K' → I i x K → I i x K') (h0 : I 0 x0 emp)
    [al : AllIn Hg ok (B :: r)] (hps : ps.all (fun p => Nat.blt p N) = true) (hlen : ∀ i K vs, Y i K vs → vs.length = ps.length)
    (round : ∀ l rec B' i x K vs, i < n → Y i K vs → I i x K → XK (rcx P f N l rec B' (RoundR oc (fun x => I (i + 1) x K) (fun j x => J j x K))) [.code asn, .beginRound, .code bd] (pars ps vs e) (rdy l rec :: oc x) (K :: (ok ++ r)))
    (cont : ∀ x K, I n x K → XK ⟨P, f, none, N, B, E⟩ k e (oc x ++ K :: ok) r)
    (jump : ∀ j x K, J j x K → XK ⟨P, f, none, N, B, E⟩ (.code j :: k) e (oc x ++ K :: ok) r) :
    XK ⟨P, f, none, N, B, E⟩ (.code (.rangeFunc x ps.toArray asn bd) :: k) e o r := fun D ds a w cs ha he hD hm => by
  have hm0 : Sep (D :: (o0 ++ o1)) (B :: r) w := rst.wk.sepD hm
  have hm1 : Sep (D :: (o0 ++ (Hs ++ ok))) (B :: r) w := hm0.perm ((tk.pf.append_left o0).cons D)
  let rec' : Loop := { state := .ready, pending := none, fn := f, tmps := a, params := ps.toArray, assign := asn, body := bd, defers := w.heap.size }
  let l := w.heap.size + 1
  let w1 := (w.alloc (.deferred (some []))).alloc (.loop rec')
  have henter : (Instr.enterLoop f a ps.toArray asn bd none).run P w = .ok (l, [{ target := .collected w.heap.size, args := #[] }]) w1 := run_enterLoop_outer f a ps.toArray asn bd
  have hs1 : Sep (rdy l rec' :: sing w.heap.size (.deferred (some [])) :: D :: (o0 ++ (Hs ++ ok))) (B :: r) w1 := by
    have := (hm1.push (.deferred (some []))).push (.loop rec')
    simp only [Array.size_push] at this
    exact this
  let D' := Go.X.join [sing w.heap.size (.deferred (some [])), D]
  have hs2 : Sep (D' :: rdy l rec' :: (o0 ++ (Hs ++ ok))) (B :: r) w1 := by
    refine Sep.join (hs := [sing w.heap.size (.deferred (some [])), D]) (hs1.perm ?_)
    exact (List.Perm.swap _ _ _).trans ((List.Perm.swap _ _ _).cons _)
  have hD' : Marked D' (w.heap.size :: ds) := by
    refine ⟨List.nodup_cons.2 ⟨fun hmem => ?_, hD.1⟩, fun b => ?_⟩
    · have := sub_lt (hm.so D List.mem_cons_self) (b := w.heap.size) (o := .deferred (some [])) (by rw [hD.2, if_pos hmem])
      omega
    · simp only [D', Go.X.join, sing, emp, Option.or_none, hD.2 b, List.mem_cons]
      by_cases hb : b = w.heap.size
      · simp [hb]
      · simp [hb]
  have hs3 : Sep ((Go.X.join (rdy l rec' :: o0) :: Hs) ++ (D' :: ok)) (B :: r) w1 := by
    refine (Sep.join (hs := rdy l rec' :: o0) (o := D' :: (Hs ++ ok)) (hs2.perm ?_)).perm ?_
    · show (D' :: ((rdy l rec' :: o0) ++ (Hs ++ ok))).Perm ((rdy l rec' :: o0) ++ D' :: (Hs ++ ok))
      exact List.perm_middle.symm
    · show (_ :: D' :: (Hs ++ ok)).Perm (_ :: (Hs ++ D' :: ok))
      exact List.perm_middle.symm.cons _
  have hp0 : PD (rdy l rec' :: oc x0) := by
    rw [ho0]
    have hsub : (rdy l rec' :: o0).Sublist (rdy l rec' :: (o0 ++ (Hs ++ ok))) := List.Sublist.cons_cons _ (List.sublist_append_left _ _)
    exact ⟨hs2.tail.pw.sublist hsub, fun h hh => hs2.tail.no h (hsub.mem hh)⟩
  have hpsN : ∀ p ∈ ps, p < N := fun p hp => by
    have := List.all_eq_true.1 hps p hp
    rwa [Nat.blt_eq] at this
  have hyield : ∀ i, i < n → ∀ K vs q, Y i K vs → (∃ x, I i x K ∧ PD (rdy l rec' :: oc x) ∧ q = Go.X.join (rdy l rec' :: oc x)) →
      VSpec P (.func (.yield l) #[] #[]) vs [q] (K :: (ok ++ r)) (fun v hs => ∃ b q', v = .bool b ∧ hs = [q'] ∧
        (b = true → ∃ x, I (i + 1) x K ∧ PD (rdy l rec' :: oc x) ∧ q' = Go.X.join (rdy l rec' :: oc x)) ∧
        (b = false → ∃ j x, J j x K ∧ PD (ovr l rec' (some j) :: oc x) ∧ q' = Go.X.join (ovr l rec' (some j) :: oc x))) := by
    rintro i hi K vs q hY ⟨x, hI, hp, rfl⟩
    refine ((VSpec.round (rec := rec') (N := N) (e := e) rfl ha he hpsN (hlen i K vs hY) (fun B' => round l rec' B' i x K vs hi hY hI)).joined hp).mono ?_
    rintro v hs ⟨hs', ⟨j, hs'', rfl, rfl, hR⟩, hpw, rfl⟩
    refine ⟨_, _, rfl, rfl, ?_, ?_⟩
    · intro hj
      cases j with
      | some j => cases hj
      | none =>
        obtain ⟨x', h1, rfl⟩ := hR
        exact ⟨x', h1, hpw, rfl⟩
    · intro hj
      cases j with
      | none => cases hj
      | some j =>
        obtain ⟨x', h1, rfl⟩ := hR
        exact ⟨j, x', h1, hpw, rfl⟩
  have hN := hit _ (ok ++ r) (fun i K q => ∃ x, I i x K ∧ PD (rdy l rec' :: oc x) ∧ q = Go.X.join (rdy l rec' :: oc x)) _ (fun i K K' q hle ⟨x, hI, h1⟩ => ⟨x, hmono i x K K' hle hI, h1⟩) hyield (Go.X.join (rdy l rec' :: o0)) ⟨x0, h0, hp0, by rw [ho0]⟩ (D' :: ok) (B :: r) w1 hs3 (fun h hh => by
    rcases List.mem_append.1 hh with hh | hh
    · exact orMap (al.pf h hh) (List.mem_cons_of_mem _) id
    · rcases List.mem_append.1 hh with hh | hh
      · exact .inl (List.mem_cons_of_mem _ hh)
      · exact .inr (List.mem_cons_of_mem _ hh))
  obtain ⟨v, w', ⟨hs', ⟨q', K, rfl, hq⟩, hS⟩, st⟩ := step_range (ds := marks ds) (k := k) (cs := cs) henter (ev_rel he hx) hN
  have hperm : ∀ g : List PHeap, (g ++ ([K] ++ (D' :: ok))).Perm (D' :: (g ++ K :: ok)) := fun g => by
    refine ((List.Perm.swap D' K ok).append_left g).trans ?_
    exact List.perm_middle
  rcases hq with ⟨x', hI, hpw, rfl⟩ | ⟨j, x', hJ, hpw, rfl⟩
  · obtain ⟨hS2, hb⟩ := Sep.turn (y := .loop { rec' with state := .exhausted, pending := none }) (Sep.split hpw hS)
    obtain ⟨fr, w2, hE, st2⟩ := cont x' K hI D' (w.heap.size :: ds) a _ cs ha he hD' (hS2.tail.perm (hperm _))
    exact ⟨fr, w2, hE, Steps.trans st (.head (step_endRange (run_endLoop hb (by simp))) st2)⟩
  · obtain ⟨hS2, hb⟩ := Sep.turn (y := .loop { rec' with state := .exhausted, pending := some j }) (Sep.split hpw hS)
    obtain ⟨fr, w2, hE, st2⟩ := jump j x' K hJ D' (w.heap.size :: ds) a _ cs ha he hD' (hS2.tail.perm (hperm _))
    exact ⟨fr, w2, hE, Steps.trans st (.head (step_endRange (run_endLoop hb (by simp))) st2)⟩
end Go.X

/- Cases and temperatures between two; boxes that are held. -/
set_option linter.unusedVariables false
namespace Go.X.Ht
/-- A list between two; from i on the lower one. -/
def MidTo (lo hi : List Int) (i : Nat) (st : List Int) : Prop := st.length = lo.length ∧ (∀ j, j < lo.length → lo.getD j 0 ≤ st.getD j 0 ∧ st.getD j 0 ≤ hi.getD j 0) ∧ ∀ j, i ≤ j → j < lo.length → st.getD j 0 = lo.getD j 0
theorem MidTo.start {lo hi : List Int} (h : LeL lo hi) : MidTo lo hi 0 lo := ⟨rfl, fun j hj => ⟨Int.le_refl _, h j hj⟩, fun _ _ _ => rfl⟩
theorem MidTo.skip {lo hi st : List Int} {i : Nat} (h : MidTo lo hi i st) : MidTo lo hi (i + 1) st := ⟨h.1, h.2.1, fun j hj hl => h.2.2 j (by omega) hl⟩
theorem MidTo.step {lo hi st : List Int} {i : Nat} {x : Int} (h : MidTo lo hi i st) (hi' : i < lo.length) (h1 : lo.getD i 0 ≤ x) (h2 : x ≤ hi.getD i 0) : MidTo lo hi (i + 1) (st.set i x) := by
  refine ⟨by rw [List.length_set]; exact h.1, fun j hj => ?_, fun j hj hl => ?_⟩
  · rw [List.getD_eq_getElem?_getD (l := st.set i x), List.getElem?_set]
    by_cases hc : i = j
    · subst hc; rw [if_pos rfl, if_pos (by have := h.1; omega)]; exact ⟨h1, h2⟩
    · rw [if_neg hc, ← List.getD_eq_getElem?_getD]; exact h.2.1 j hj
  · rw [List.getD_eq_getElem?_getD, List.getElem?_set, if_neg (by omega), ← List.getD_eq_getElem?_getD]
    exact h.2.2 j (by omega) hl
theorem MidTo.le1 {lo hi st : List Int} {i : Nat} (h : MidTo lo hi i st) : LeL lo st := fun j hj => (h.2.1 j hj).1
theorem MidTo.le2 {lo hi st : List Int} {i : Nat} (h : MidTo lo hi i st) : LeL st hi := fun j hj => (h.2.1 j (by have := h.1; omega)).2
end Go.X.Ht

/- Rides and runs: steps of the loops. -/
set_option linter.unusedVariables false
namespace Go.X.Ht
end Go.X.Ht

/- The statement HeatInside, in plain lists. -/
set_option linter.unusedVariables false
namespace Go.X.Ht
end Go.X.Ht

/- The least box that is held: the steps of Box. No condition. -/
set_option linter.unusedVariables false
namespace Go.X.Ht
theorem getD_setB {xs : List Int} {i j : Nat} {m : Int} (hi : i < xs.length) : (xs.set i m).getD j 0 = if j = i then m else xs.getD j 0 := by
  rw [List.getD_eq_getElem?_getD, List.getElem?_set]
  by_cases h : i = j
  · subst h; rw [if_pos rfl, if_pos rfl, if_pos hi]; rfl
  · rw [if_neg h, if_neg (fun e => h e.symm), ← List.getD_eq_getElem?_getD]
theorem tok_set {h : Hall} {xs : List Int} {i : Nat} {v : Int} (t : TOk h xs) (hi : i < h.rooms.length) (hv : 0 ≤ v ∧ v ≤ 1000000) : TOk h (xs.set i v) :=
  ⟨by rw [List.length_set]; exact t.len, fun j hj => by
    rw [List.length_set] at hj
    rw [getD_setB (by have := t.len; omega)]
    split
    · exact hv
    · exact t.rng j hj⟩
/-- A box that is held around another one. -/
structure Around (h : Hall) (a d : HCase) (lo hi P Q : List Int) : Prop where
  t1 : TOk h P
  t2 : TOk h Q
  le1 : LeL P lo
  le2 : LeL hi Q
  low : LeL P (nextL h P a)
  high : LeL (nextL h Q d) Q
def LeastB (h : Hall) (a d : HCase) (lo hi p q : List Int) : Prop := ∀ P Q, Around h a d lo hi P Q → LeL P p ∧ LeL q Q
/-- The rooms below i are looked at. -/
structure BoxIn (h : Hall) (a d : HCase) (lo hi p q : List Int) (i : Nat) (p2 q2 : List Int) (ch : Bool) : Prop where
  t1 : TOk h p2
  t2 : TOk h q2
  le1 : LeL p2 lo
  le2 : LeL hi q2
  same : ch = false → p2 = p ∧ q2 = q ∧ ∀ j, j < i → p.getD j 0 ≤ (nextL h p a).getD j 0 ∧ (nextL h q d).getD j 0 ≤ q.getD j 0
  least : ∀ P Q, Around h a d lo hi P Q → (LeL P p2 ∧ LeL q2 Q) ∧ LeL P (nextL h p a) ∧ LeL (nextL h q d) Q
  calm : LeL p (nextL h p a) → LeL (nextL h q d) q → ch = false ∧ p2 = p ∧ q2 = q
theorem BoxIn.start {h : Hall} (ok : HOk h) {a d : HCase} (ak : COk h a) (dk : COk h d) {lo hi p q : List Int} (tp : TOk h p) (tq : TOk h q) (l1 : LeL p lo) (l2 : LeL hi q) (ls : LeastB h a d lo hi p q) : BoxIn h a d lo hi p q 0 p q false :=
  ⟨tp, tq, l1, l2, fun _ => ⟨rfl, rfl, fun j hj => absurd hj (Nat.not_lt_zero j)⟩, fun P Q r => by
    obtain ⟨m1, m2⟩ := ls P Q r
    refine ⟨⟨m1, m2⟩, fun j hj => ?_, fun j hj => ?_⟩
    · have e1 := r.low j hj
      have e2 := next_mono ok r.t1 tp ak ak m1 LeC.refl j (by rw [nextL_len]; have := r.t1.len; omega)
      omega
    · have e2 := next_mono ok tq r.t2 dk dk m2 LeC.refl j hj
      have e1 := r.high j (by rw [nextL_len] at hj ⊢; exact hj)
      omega, fun _ _ => ⟨rfl, rfl, rfl⟩⟩
theorem BoxIn.low {h : Hall} {a d : HCase} {lo hi p q p2 q2 : List Int} {i : Nat} {ch : Bool} (b : BoxIn h a d lo hi p q i p2 q2 ch) (ta : TOk h (nextL h p a)) (lk : TOk h lo) (hi' : i < h.rooms.length) (hl : (nextL h p a).getD i default < p2.getD i default) : BoxIn h a d lo hi p q i (p2.set i ((nextL h p a).getD i default)) q2 true := by
  have e := b.t1.len
  refine ⟨tok_set b.t1 hi' (ta.rng i (by have := ta.len; omega)), b.t2, fun j hj => ?_, b.le2, (fun h => by cases h), fun P Q r => ?_, fun c1 c2 => ?_⟩
  · rw [List.length_set] at hj
    rw [getD_setB (by omega)]
    have h2 := b.le1 j (by omega)
    split
    · subst j
      change (nextL h p a).getD i 0 < p2.getD i 0 at hl
      show (nextL h p a).getD i 0 ≤ _
      omega
    · exact h2
  · obtain ⟨⟨m1, m2⟩, m3, m4⟩ := b.least P Q r
    refine ⟨⟨fun j hj => ?_, m2⟩, m3, m4⟩
    rw [getD_setB (by omega)]
    split
    · subst j; exact m3 i hj
    · exact m1 j hj
  · obtain ⟨_, e2, _⟩ := b.calm c1 c2
    rw [e2] at hl
    have := c1 i (by rw [← e2]; omega)
    change (nextL h p a).getD i 0 < p.getD i 0 at hl
    omega
theorem BoxIn.high {h : Hall} {a d : HCase} {lo hi p q p2 q2 : List Int} {i : Nat} {ch : Bool} (b : BoxIn h a d lo hi p q i p2 q2 ch) (ta : TOk h (nextL h q d)) (hi' : i < h.rooms.length) (hl : q2.getD i default < (nextL h q d).getD i default) : BoxIn h a d lo hi p q i p2 (q2.set i ((nextL h q d).getD i default)) true := by
  have e := b.t2.len
  refine ⟨b.t1, tok_set b.t2 hi' (ta.rng i (by have := ta.len; omega)), b.le1, fun j hj => ?_, (fun h => by cases h), fun P Q r => ?_, fun c1 c2 => ?_⟩
  · rw [getD_setB (by omega)]
    have h2 := b.le2 j hj
    split
    · subst j
      change q2.getD i 0 < (nextL h q d).getD i 0 at hl
      show _ ≤ (nextL h q d).getD i 0
      omega
    · exact h2
  · obtain ⟨⟨m1, m2⟩, m3, m4⟩ := b.least P Q r
    refine ⟨⟨m1, fun j hj => ?_⟩, m3, m4⟩
    rw [List.length_set] at hj
    rw [getD_setB (by omega)]
    split
    · subst j; exact m4 i (by rw [nextL_len]; exact hi')
    · exact m2 j hj
  · obtain ⟨_, _, e3⟩ := b.calm c1 c2
    rw [e3] at hl
    have := c2 i (by rw [nextL_len]; exact hi')
    change q.getD i 0 < (nextL h q d).getD i 0 at hl
    omega
theorem BoxIn.on {h : Hall} {a d : HCase} {lo hi p q p2 q2 : List Int} {i : Nat} (b : BoxIn h a d lo hi p q i p2 q2 true) : BoxIn h a d lo hi p q (i + 1) p2 q2 true := ⟨b.t1, b.t2, b.le1, b.le2, (fun h => by cases h), b.least, b.calm⟩
theorem BoxIn.skip {h : Hall} {a d : HCase} {lo hi p q p2 q2 : List Int} {i : Nat} {ch : Bool} (b : BoxIn h a d lo hi p q i p2 q2 ch) (h1 : ¬ (nextL h p a).getD i default < p2.getD i default) (h2 : ¬ q2.getD i default < (nextL h q d).getD i default) : BoxIn h a d lo hi p q (i + 1) p2 q2 ch :=
  ⟨b.t1, b.t2, b.le1, b.le2, fun hc => by
    obtain ⟨e1, e2, e3⟩ := b.same hc
    refine ⟨e1, e2, fun j hj => ?_⟩
    by_cases hji : j < i
    · exact e3 j hji
    · have : j = i := by omega
      subst this
      rw [e1] at h1
      rw [e2] at h2
      change ¬ (nextL h p a).getD j 0 < p.getD j 0 at h1
      change ¬ q.getD j 0 < (nextL h q d).getD j 0 at h2
      constructor <;> omega, b.least, b.calm⟩
theorem BoxIn.leastB {h : Hall} {a d : HCase} {lo hi p q p2 q2 : List Int} {i : Nat} {ch : Bool} (b : BoxIn h a d lo hi p q i p2 q2 ch) : LeastB h a d lo hi p2 q2 := fun P Q r => (b.least P Q r).1
theorem BoxIn.held {h : Hall} {a d : HCase} {lo hi p q p2 q2 : List Int} (b : BoxIn h a d lo hi p q h.rooms.length p2 q2 false) : Around h a d lo hi p2 q2 := by
  obtain ⟨e1, e2, e3⟩ := b.same rfl
  have t1 := b.t1
  have t2 := b.t2
  have l1 := b.le1
  have l2 := b.le2
  rw [e1] at t1 l1 ⊢
  rw [e2] at t2 l2 ⊢
  have n1 := t1.len
  have n2 := nextL_len h q d
  exact ⟨t1, t2, l1, l2, fun i hi => (e3 i (by omega)).1, fun i hi => (e3 i (by omega)).2⟩
theorem leL_anti {a b : List Int} (hl : a.length = b.length) (h1 : LeL a b) (h2 : LeL b a) : a = b := by
  refine List.ext_getElem? fun i => ?_
  by_cases hi : i < a.length
  · have e1 := h1 i hi
    have e2 := h2 i (by omega)
    rw [List.getD_eq_getElem?_getD, List.getD_eq_getElem?_getD, List.getElem?_eq_getElem hi, List.getElem?_eq_getElem (by omega)] at e1 e2
    simp only [Option.getD_some] at e1 e2
    rw [List.getElem?_eq_getElem hi, List.getElem?_eq_getElem (by omega)]
    congr 1
    omega
  · rw [List.getElem?_eq_none (by omega), List.getElem?_eq_none (by omega)]
/-- A box that is held is its own. -/
theorem own_box {h : Hall} {a d : HCase} {p q p2 q2 : List Int} (b : Around h a d p q p2 q2) (l : LeastB h a d p q p2 q2) (s : Around h a d p q p q) : p2 = p ∧ q2 = q := by
  obtain ⟨m1, m2⟩ := l p q s
  exact ⟨leL_anti (by rw [b.t1.len, s.t1.len]) b.le1 m1, leL_anti (by rw [b.t2.len, s.t2.len]) m2 b.le2⟩
theorem Around.self {h : Hall} {a d : HCase} {lo hi p q : List Int} (b : Around h a d lo hi p q) : Around h a d p q p q := ⟨b.t1, b.t2, fun i _ => Int.le_refl _, fun i _ => Int.le_refl _, b.low, b.high⟩
theorem leL_trB {a b c : List Int} (h1 : LeL a b) (h2 : LeL b c) (hl : a.length ≤ b.length) : LeL a c := fun i hi => by
  have q1 := h1 i hi
  have q2 := h2 i (by omega)
  omega
/-- The box that is held around a wider box holds the narrower one's. -/
theorem wide_box {h : Hall} {a d : HCase} {lo hi p q wl wh P Q : List Int} (tl : TOk h lo) (th : TOk h hi) (tw : TOk h wl) (tu : TOk h wh) (l : LeastB h a d lo hi p q) (w : Around h a d wl wh P Q) (h1 : LeL wl lo) (h2 : LeL hi wh) : LeL P p ∧ LeL q Q :=
  l P Q ⟨w.t1, w.t2, leL_trB w.le1 h1 (by rw [w.t1.len, tw.len]; exact Nat.le_refl _), leL_trB h2 w.le2 (by rw [th.len, tu.len]; exact Nat.le_refl _), w.low, w.high⟩
end Go.X.Ht

/- From the reading of arguments to slices that are read; what a call leaves as it was. No condition. -/
set_option linter.unusedSimpArgs false
set_option linter.unusedVariables false
namespace Go.X
open Go.ChangeShapes Go.WideShapes Go.Deep
def heapOf (w : World) : PHeap := ⟨fun b => w.heap[b]?, some (mt w)⟩
theorem heap_sep (w : World) : Sep [] [heapOf w] w where
  pw := List.Pairwise.nil
  dr := fun h hh => by cases hh
  so := fun h hh => by cases hh
  sr := fun g hg b ob hb => by
    simp only [List.mem_singleton] at hg; subst hg; exact hb
  no := fun h hh => by cases hh
  sm := fun g hg m hm => by
    simp only [List.mem_singleton] at hg; subst hg; exact Option.some.inj hm
structure Stays (W w' : World) : Prop where
  os : w'.os = W.os
  output : w'.output = W.output
  block : ∀ k, k < W.heap.size → w'.heap[k]? = W.heap[k]?
theorem stays_of {o : List PHeap} {W w' : World} (s : Sep o [heapOf W] w') : Stays W w' := by
  have h1 := s.sm _ List.mem_cons_self _ rfl
  simp only [mt, Prod.mk.injEq] at h1
  refine ⟨h1.1, h1.2, fun k hk => ?_⟩
  have h2 : W.heap[k]? = some (W.heap[k]'hk) := Array.getElem?_eq_getElem hk
  rw [h2]
  exact s.sr _ List.mem_cons_self k _ h2
theorem Stays.same {W w' : World} (h : Stays W w') {p : MemPlace} (hp : p.block < W.heap.size) : W.sameAt w' p := by
  cases p with
  | cell b o => exact World.cell?_of_block (w := W) (h.block b hp)
  | map b => exact h.block b hp
theorem Stays.frame {W w' : World} (h : Stays W w') (may : MemPlace → Prop) : W.keptBut w' may := by
  refine ⟨h.os, h.output, fun i hi => ?_⟩
  rw [h.block i hi]
  split <;> simp_all
theorem Stays.trod {H : Type} {enc : TypeId × Value → H} {P : Program} {t : TypeId} (hl : laidOutB P = true) (hr : P.readableRec t = true) (hrow : t < P.types.size) {W W' : World} {v : Value} {d : DataW H} {ps : List MemPlace}
    (h : DataW.Trod enc P W 0 (fun _ => true) true t v d ps) (hb : Stays W W') (hlt : ∀ x ∈ ps, x.block < W.heap.size) :
    DataW.Trod enc P W' 0 (fun b => decide (b < W.heap.size)) true t v d ps :=
  WideElems.Trod_stays hl hr hrow h (fun x hx => hb.same (hlt x hx)) (fun x hx => by simpa using hlt x hx)
theorem Stays.refl (W : World) : Stays W W := ⟨rfl, rfl, fun _ _ => rfl⟩
theorem calls_of_spec {P : Program} {f : FuncId} {args : Array Value} {hr : List PHeap} {W : World} {R : Value → List PHeap → Prop} (h : Spec P f args [] hr R) (hh : ∀ h ∈ hr, h = heapOf W) :
    Calls P f args W fun e w' => ∃ v hs, e = .returned v ∧ R v hs ∧ Stays W w' :=
  (h [] [heapOf W] W (heap_sep W) (fun x hx => .inr (by rw [hh x hx]; exact List.mem_cons_self))).mono fun e w' ⟨v, hs, he, hR, hS⟩ => ⟨v, hs, he, hR, stays_of (o := hs ++ []) hS⟩

theorem cell_heap {W : World} {a : Addr} {v : Value} (h : W.cell? a = some v) : ∃ cs T fr, a.spot = none ∧ W.heap[a.block]? = some (.cells cs T fr) ∧ cs[a.off]? = some v := by
  have hs := World.cell?_spot h
  unfold World.cell? at h
  split at h
  · rename_i c T fr hb
    rw [if_neg (by simp [hs])] at h
    exact ⟨c, T, fr, hs, hb, h⟩
  · cases h
theorem arr_one {α : Type} {W : World} {enc : α → List Value} (henc : ∀ x, ∃ u, enc x = [u] ∧ one u = true) {a : Addr} {len cap : Nat} {xs : List α} (hlen : xs.length = len) (hc : len ≤ cap) (h47 : len ≤ 140737488355328)
    (hcell : ∀ i (hi : i < xs.length), ∀ u, enc xs[i] = [u] → W.cell? (a.add i) = some u) : Arr (.slice (some a) len cap) enc 1 (heapOf W) xs := by
  subst hlen
  refine ⟨fun x => by obtain ⟨u, hu, _⟩ := henc x; rw [hu]; rfl, ⟨h47, fun x _ c hc => by obtain ⟨u, hu, ho⟩ := henc x; rw [hu] at hc; simp only [List.mem_singleton] at hc; subst hc; exact ho⟩, some a, cap, rfl, hc, (fun h => by cases h), fun hp => ?_⟩
  obtain ⟨u0, hu0, _⟩ := henc (xs[0]'hp)
  have h0 := hcell 0 hp u0 hu0
  obtain ⟨b, k, sp⟩ := a
  obtain ⟨cs, T, fr, hsp, hb, _⟩ := cell_heap h0
  have hsp' : sp = none := by simpa [Addr.add] using hsp
  subst hsp'
  have hb' : W.heap[b]? = some (.cells cs T fr) := by simpa [Addr.add] using hb
  refine ⟨b, k, cs, T, fr, rfl, hb', fun i j hi hj => ?_⟩
  obtain ⟨u, hu, _⟩ := henc (xs[i]'hi)
  have hi' := hcell i hi u hu
  rw [add_none] at hi'
  obtain ⟨cs2, T2, fr2, _, hb2, hc2⟩ := cell_heap hi'
  have hb2' : W.heap[b]? = some (.cells cs2 T2 fr2) := hb2
  rw [hb'] at hb2'
  simp only [Option.some.injEq, Obj.cells.injEq] at hb2'
  obtain ⟨rfl, rfl, rfl⟩ := hb2'
  have hj0 : j = 0 := by omega
  subst hj0
  rw [List.getElem?_eq_getElem hi, Option.bind_some, hu]
  simpa using hc2
section
variable {H : Type} {enc : TypeId × Value → H} {P : Program} {w : World} {held : Bool}
end
end Go.X

/- Arguments of rows opened: small numbers, slices of bytes. No condition. -/
set_option linter.unusedSimpArgs false
set_option linter.unusedVariables false
namespace Go.X
open Go.ChangeShapes Go.WideShapes Go.Deep
section
variable {H : Type} {enc : TypeId × Value → H} {P : Program} {W : World} {base : Nat} {v : Value} {d : DataW H} {ps : List MemPlace}
theorem arr_u8s {held : Bool} {t e : TypeId} {fuel : Nat} {cs : List Value} {x : DataW H × List MemPlace} (ht : P.underlying t = some (.slice e)) (he : P.underlying e = some (.int .u8)) (hc : P.cellsOf e = 1)
    (h : DataW.trod enc P W 0 (fun _ => true) held fuel t cs = some x) (hw : ∀ elems spare, x.1 = .slice elems spare → elems.length + spare.length ≤ 140737488355328) : ∃ v xs, cs = [v] ∧ Arr v encU8 1 (heapOf W) xs := by
  rcases open_ints ht he hc h with ⟨rfl, _⟩ | ⟨a, len, cap, zs, rfl, _, hl, hm, hz, hx, hcell, hwz⟩
  · exact ⟨_, [], rfl, Arr.nil (fun _ => rfl)⟩
  · have hz' : zs.length = cap := by simpa using hz
    have hb : len ≤ 140737488355328 := by
      have := hw _ _ (by rw [hx])
      simp [lits] at this
      omega
    refine ⟨_, (zs.take len).map fun n => UInt8.ofNat n.toNat, rfl, arr_one (fun x => ⟨_, rfl, rfl⟩) (by simp; omega) hl hb fun i hi u hu => ?_⟩
    have hi2 : i < zs.length := by simp at hi; omega
    rw [hcell i hi2]
    simp only [encU8, List.cons.injEq, and_true] at hu
    rw [← hu]
    have hb := range_u8 hwz i
    have e : zs[i]?.getD 0 = zs[i] := by simp [hi2]
    rw [e] at hb
    simp only [List.getElem_map, List.getElem_take, List.getD_eq_getElem?_getD, e, UInt8.toNat_ofNat']
    congr 2
    omega
theorem slice_weight {t e : TypeId} (ht : P.underlying t = some (.slice e)) (hb : 0 < P.bytesOf e) (hw : ∀ n ∈ d.weights P t, n ≤ reachBytes) : ∀ elems spare, d = .slice elems spare → elems.length + spare.length ≤ 140737488355328 := by
  rintro elems spare rfl
  have h := hw ((elems.length + spare.length) * P.bytesOf e) (by simp [DataW.weights, ht])
  have h1 : (elems.length + spare.length) * 1 ≤ (elems.length + spare.length) * P.bytesOf e := Nat.mul_le_mul_left _ hb
  have h2 : reachBytes = 140737488351232 := rfl
  omega
theorem slice_cells {t e : TypeId} (ht : P.underlying t = some (.slice e)) (hv : Value.okWide P W .any base t v) : v.cells.toList = [v] := by
  obtain ⟨a, len, cap, rfl⟩ := okWide_slice ht hv
  rfl
theorem open_u8s {t e : TypeId} (ht : P.underlying t = some (.slice e)) (he : P.underlying e = some (.int .u8)) (hc : P.cellsOf e = 1) (hb : 0 < P.bytesOf e) (hv : Value.okWide P W .any base t v)
    (h : DataW.Trod enc P W 0 (fun _ => true) true t v d ps) (hw : ∀ n ∈ d.weights P t, n ≤ reachBytes) : ∃ xs : List UInt8, Arr v encU8 1 (heapOf W) xs := by
  obtain ⟨fuel, hf⟩ := h
  rw [slice_cells ht hv] at hf
  obtain ⟨v', xs, hcs, hA⟩ := arr_u8s ht he hc hf (slice_weight ht hb hw)
  simp only [List.cons.injEq, and_true] at hcs
  subst hcs
  exact ⟨xs, hA⟩
end
end Go.X

/- Arguments that are slices of bools, opened. No condition. -/
set_option linter.unusedVariables false
namespace Go.X
open Go.ChangeShapes Go.WideShapes Go.Deep
end Go.X

/- append of a make onto nothing; an owned slice cut at its end; capacity. No condition. -/
set_option linter.unusedVariables false
namespace Go.X
section
variable {P : Program} {ops : Array Oper} {e : Env} {o r : List PHeap} {d : Option Tmp} {ty : TypeId} {pos : String} {aft : Array Edge}
variable {α : Type} {enc : α → List Value} {sz : Nat} {h : PHeap} {xs : List α} {v : Value}
end
section
variable {c : Cx} {ops : Array Oper} {rest : List Oper} {k : List Item} {e : Env} {o r : List PHeap} {d : Nat} {ty : TypeId} {pos : String} {aft : Array Edge} {α : Type} {sz : Nat}
end
end Go.X

/- A region that draws, where each operation that floats has its own heaps that it reads: stores may stand before floats that read elsewhere. No condition. -/
set_option linter.unusedSimpArgs false
set_option linter.unusedVariables false
namespace Go.X
section
variable {P : Program} {ops : Array Oper}
/-- May operation j run while q is still to come? -/
def needP (ops : Array Oper) (q j : Nat) : Bool := q != j && !(match ops[j]? with
  | some x => x.after.any fun e => Region.binds .any e && e.on == q
  | none => false)
def Any2 (P : Program) (ops : Array Oper) (S : Nat → World → Prop) (fl : List Nat) (Q : Array Value → World → Prop) : Nat → Array Bool → Array Value → World → Prop
  | 0, listed, a, w => Region.ready .any ops listed = [] ∧ Q a w
  | n + 1, listed, a, w => (Region.ready .any ops listed = [] → Q a w) ∧ ∀ i ∈ Region.ready .any ops listed, ∀ x, ops[i]? = some x →
      Does P ops x a w fun v w' => ((i ∈ fl → w' = w) ∧ (i ∉ fl → ∀ q ∈ fl, needP ops q i = true → S q w')) ∧ Any2 P ops S fl Q n (listed.setIfInBounds i true) (X.put a x.dst v) w'
theorem needP_of {i j : Nat} {x : Oper} (hj : ops[j]? = some x) (hne : j ≠ i) (h : ∀ e ∈ x.after, Region.binds .any e = true → e.on ≠ i) : needP ops i j = true := by
  unfold needP
  simp only [hj, Bool.and_eq_true, bne_iff_ne, ne_eq, Bool.not_eq_true', Array.any_eq_false']
  refine ⟨fun h => hne h.symm, ?_⟩
  intro e he
  simp only [Bool.and_eq_true, beq_iff_eq, not_and]
  exact h e he
theorem any_first2 {S : Nat → World → Prop} {fl : List Nat} {Q : Array Value → World → Prop} {i : Nat} {x : Oper} {v : Value} (hi : ops[i]? = some x) (hsel : ∀ (j : Nat) (o : Oper) cs b, ops[j]? = some o → o.op ≠ .select cs b) (hfl : i ∈ fl) :
    ∀ (fuel : Nat) (listed : Array Bool) (a : Array Value) (w : World),
      (∀ j oj, ops[j]? = some oj → j ≠ i → listed.getD j true = false → (∀ e ∈ oj.after, Region.binds .any e = true → e.on ≠ i) → x.apart ops oj = true) →
      i ∈ Region.ready .any ops listed → Yields P ops (S i) x v a → S i w →
      Any2 P ops S fl Q fuel (listed.setIfInBounds i true) (X.put a x.dst v) w → Any2 P ops S fl Q (fuel + 1) listed a w := by
  intro fuel
  induction fuel with
  | zero =>
    intro listed a w _ hr hy hw H
    refine ⟨fun h => (by rw [h] at hr; cases hr), fun j hj oj hoj => ?_⟩
    by_cases hji : j = i
    · subst hji
      rw [hi] at hoj; cases hoj
      exact hy.does hw ⟨⟨fun _ => rfl, fun h => absurd hfl h⟩, H⟩
    · have hj2 := ready_mono hj hji
      rw [H.1] at hj2
      cases hj2
  | succ fuel ih =>
    intro listed a w hfree hr hy hw H
    refine ⟨fun h => (by rw [h] at hr; cases hr), fun j hj oj hoj => ?_⟩
    by_cases hji : j = i
    · subst hji
      rw [hi] at hoj; cases hoj
      exact hy.does hw ⟨⟨fun _ => rfl, fun h => absurd hfl h⟩, H⟩
    · have h1 := H.2 j (ready_mono hj hji) oj hoj
      obtain ⟨hjun, oj', hoj', hall⟩ := mem_ready.1 hj
      rw [hoj] at hoj'; cases hoj'
      have hiun := (mem_ready.1 hr).1
      have hnot : ∀ e ∈ oj.after, Region.binds .any e = true → e.on ≠ i := fun e he hb heq => by
        have h1 := hall e he hb
        rw [heq] at h1
        rcases Nat.lt_or_ge i listed.size with h' | h'
        · simp [h'] at hiun h1; rw [hiun] at h1; cases h1
        · simp [Array.getElem?_eq_none h'] at h1
      have hap := hfree j oj hoj hji hjun hnot
      obtain ⟨a1, a2, a3⟩ := Oper.apart_spec hap
      rw [Does.put (hsel j oj · · hoj) x.dst v a1] at h1
      have hfree' : ∀ k ok, ops[k]? = some ok → k ≠ i → (listed.setIfInBounds j true).getD k true = false →
          (∀ e ∈ ok.after, Region.binds .any e = true → e.on ≠ i) → x.apart ops ok = true := fun k ok hk hki hun hno => by
        refine hfree k ok hk hki ?_ hno
        by_cases hjk : j = k
        · subst hjk; exact hjun
        · rw [getD_set_ne true hjk] at hun; exact hun
      refine h1.mono fun u w' ⟨⟨hA, hB⟩, h3⟩ => ⟨⟨hA, hB⟩, ?_⟩
      have hS : S i w' := by
        by_cases hjf : j ∈ fl
        · rw [hA hjf]; exact hw
        · exact hB hjf i hfl (needP_of hoj hji hnot)
      refine ih (listed.setIfInBounds j true) _ w' hfree' (ready_mono hr (Ne.symm hji)) (hy.put (hsel i x · · hi) oj.dst u a3) hS ?_
      rw [Array.setIfInBounds_comm _ _ hji, ← put_comm a v u a2]
      exact h3
theorem any2_weak {S : Nat → World → Prop} {fl : List Nat} {Q : Array Value → World → Prop} : ∀ (n : Nat) (l : Array Bool) (a : Array Value) (w : World), Any2 P ops S fl Q n l a w → Any P ops (fun _ => True) [] Q n l a w
  | 0, l, a, w, h => h
  | n + 1, l, a, w, h => ⟨h.1, fun i hi x hx => (h.2 i hi x hx).mono fun v w' ⟨_, h3⟩ => ⟨fun _ => trivial, any2_weak n _ _ _ h3⟩⟩
end
def flI (fp : List (Nat × List Nat)) : List Nat := fp.map (·.1)
def keepI (ops : Array Oper) (fp : List (Nat × List Nat)) (j : Nat) : List Nat := (fp.filter fun q => needP ops q.1 j).flatMap (·.2)
def hpI (fp : List (Nat × List Nat)) (hs : List PHeap) (i : Nat) : List PHeap := (((fp.find? fun q => q.1 == i).map (·.2)).getD []).map fun n => hs.getD n emp
def Plan.ok2 (ops : Array Oper) (fl : List Nat) : Plan → Array Bool → List Nat → Bool
  | .done, l, _ => (Region.ready .any ops l).isEmpty
  | .q i t, l, _ => (Region.ready .any ops l).contains i && Region.free .any ops l i && fl.contains i && t.ok2 ops fl (l.setIfInBounds i true) []
  | .br i _ t u, l, acc => !fl.contains i && (Region.ready .any ops l).contains i && t.ok2 ops fl (l.setIfInBounds i true) [] && u.ok2 ops fl l (i :: acc)
  | .stop, l, acc => !(Region.ready .any ops l).isEmpty && (Region.ready .any ops l).all fun i => acc.contains i
def XT2 (c : Cx) (ops : Array Oper) (fp : List (Nat × List Nat)) (hs : List PHeap) (k : List Item) (r : List PHeap) : Plan → Env → List PHeap → Prop
  | .done, e, o => XK c k e o r
  | .q i t, e, o => ∃ x v, ops[i]? = some x ∧ okOper c.N x = true ∧ Quiet c.P ops x e (hpI fp hs i) (c.B :: r) v ∧ XT2 c ops fp hs k r t (puts e x.dst v) o
  | .br i _ t u, e, o => (∃ x Ψ, ops[i]? = some x ∧ okOper c.N x = true ∧ Stp c.P ops x e o (c.B :: r) Ψ ∧ ∀ v o', Ψ v o' → (∀ n ∈ keepI ops fp i, hs.getD n emp ∈ o') ∧ XT2 c ops fp hs k r t (puts e x.dst v) o') ∧
      XT2 c ops fp hs k r u e o
  | .stop, _, _ => True
section
variable {c : Cx} {k : List Item} {hs : List PHeap} {r : List PHeap} {fp : List (Nat × List Nat)}
def Offers2 (c : Cx) (ops : Array Oper) (fp : List (Nat × List Nat)) (hs : List PHeap) (r : List PHeap) (n : Nat) (l : Array Bool) (a : Array Value) (w : World) (Q : Array Value → World → Prop) (i : Nat) : Prop :=
  ∀ x, ops[i]? = some x → Does c.P ops x a w fun v w' => ((i ∈ flI fp → w' = w) ∧ (i ∉ flI fp → ∀ q ∈ flI fp, needP ops q i = true → Sf (hpI fp hs q) (c.B :: r) w')) ∧
    Any2 c.P ops (fun q => Sf (hpI fp hs q) (c.B :: r)) (flI fp) Q n (l.setIfInBounds i true) (X.put a x.dst v) w'
theorem hpI_keep {ops : Array Oper} {q j : Nat} (hn : needP ops q j = true) {h : PHeap} (hh : h ∈ hpI fp hs q) : ∃ n ∈ keepI ops fp j, h = hs.getD n emp := by
  unfold hpI at hh
  obtain ⟨n, hn1, rfl⟩ := List.mem_map.1 hh
  cases hf : fp.find? fun p => p.1 == q with
  | none => rw [hf] at hn1; cases hn1
  | some p =>
    rw [hf] at hn1
    have h1 := List.mem_of_find?_eq_some hf
    have h2 := List.find?_some hf
    simp only [beq_iff_eq] at h2
    refine ⟨n, List.mem_flatMap.2 ⟨p, List.mem_filter.2 ⟨h1, ?_⟩, hn1⟩, rfl⟩
    rw [h2]; exact hn
theorem plan_sound2 {ops : Array Oper} {D : PHeap} (hsel : Region.noSelect ops = true) {Q : Array Value → World → Prop}
    (hQ : ∀ e o, XK c k e o r → ∀ a w, a.size = c.N → ERel e a → Sep (D :: o) (c.B :: r) w → Q a w) :
    ∀ (t : Plan) (n : Nat) (l : Array Bool) (acc : List Nat) (e : Env) (o : List PHeap) (a : Array Value) (w : World), t.ok2 ops (flI fp) l acc = true → t.depth ≤ n → XT2 c ops fp hs k r t e o →
      a.size = c.N → ERel e a → Sep (D :: o) (c.B :: r) w → (∀ q ∈ flI fp, l.getD q true = false → Sf (hpI fp hs q) (c.B :: r) w) → (∀ i ∈ acc, ∀ m, m + 1 = n → Offers2 c ops fp hs r m l a w Q i) →
      Any2 c.P ops (fun q => Sf (hpI fp hs q) (c.B :: r)) (flI fp) Q n l a w := by
  intro t
  induction t with
  | done =>
    intro n l acc e o a w hok _ hX ha he hs' _ _
    simp only [Plan.ok2, List.isEmpty_iff] at hok
    have hq := hQ e o hX a w ha he hs'
    cases n with
    | zero => exact ⟨hok, hq⟩
    | succ n => exact ⟨fun _ => hq, by rw [hok]; simp⟩
  | q i t ih =>
    intro n l acc e o a w hok hd hX ha he hs' hS _
    simp only [Plan.ok2, Bool.and_eq_true] at hok
    obtain ⟨⟨⟨hr, hf⟩, hfl⟩, hok'⟩ := hok
    obtain ⟨x, v, hx, hko, hq, hX'⟩ := hX
    simp only [Plan.depth] at hd
    obtain ⟨m, rfl⟩ : ∃ m, n = m + 1 := ⟨n - 1, by omega⟩
    have hr' : i ∈ Region.ready .any ops l := by simpa using hr
    have hfl' : i ∈ flI fp := by simpa using hfl
    have hSi := hS i hfl' (mem_ready.1 hr').1
    refine any_first2 hx (Region.noSelect_spec hsel) hfl' m l a w (Region.free_spec hx hf) hr' (fun w' hw' => hq a w' he hw') hSi ?_
    refine ih m _ [] _ o _ w hok' (by omega) hX' (by rw [size_put, ha]) (he.puts ha hko) hs' (fun q hq1 hq2 => hS q hq1 ?_) (fun i hi => by cases hi)
    by_cases hiq : i = q
    · subst hiq; exact (mem_ready.1 hr').1
    · rw [getD_set_ne true hiq] at hq2; exact hq2
  | br i b t u iht ihu =>
    intro n l acc e o a w hok hd hX ha he hs' hS hacc
    simp only [Plan.ok2, Bool.and_eq_true, Bool.not_eq_true'] at hok
    obtain ⟨⟨⟨hb, hr⟩, hokt⟩, hoku⟩ := hok
    obtain ⟨⟨x, Ψ, hx, hko, hst, hnx⟩, hXu⟩ := hX
    simp only [Plan.depth] at hd
    have hr' : i ∈ Region.ready .any ops l := by simpa using hr
    have hnf : i ∉ flI fp := by simpa using hb
    refine ihu n l (i :: acc) e o a w hoku (by omega) hXu ha he hs' hS ?_
    intro j hj m hm
    rcases List.mem_cons.1 hj with rfl | hj
    · intro x' hx'
      rw [hx] at hx'; cases hx'
      refine (hst D a w he hs').mono fun v w' ⟨o2, ⟨o', hΨ, hp⟩, hs2⟩ => ?_
      have hs3 := hs2.perm hp
      obtain ⟨hkeep, hX'⟩ := hnx v o' hΨ
      have hSf : ∀ q ∈ flI fp, needP ops q j = true → Sf (hpI fp hs q) (c.B :: r) w' := fun q _ hn => ⟨fun h hh => by
        obtain ⟨n1, hn1, rfl⟩ := hpI_keep hn hh
        exact hs3.so _ (List.mem_cons_of_mem _ (hkeep n1 hn1)), hs3.sr⟩
      refine ⟨⟨fun h => absurd h hnf, fun _ => hSf⟩, iht m _ [] _ o' _ w' hokt (by omega) hX' (by rw [size_put, ha]) (he.puts ha hko) hs3 (fun q hq1 hq2 => hSf q hq1 ?_) (fun i hi => by cases hi)⟩
      have hjq : j ≠ q := fun h => hnf (h ▸ hq1)
      rw [getD_set_ne true hjq] at hq2
      obtain ⟨_, x2, hx2, hall⟩ := mem_ready.1 hr'
      refine needP_of hx2 hjq fun ed he1 hb1 heq => ?_
      have h1 := hall ed he1 hb1
      rw [heq] at h1
      rcases Nat.lt_or_ge q l.size with h' | h'
      · simp [h'] at hq2 h1; rw [hq2] at h1; cases h1
      · simp [Array.getElem?_eq_none h'] at h1
    · exact hacc j hj m hm
  | stop =>
    intro n l acc e o a w hok hd _ _ _ _ _ hacc
    simp only [Plan.ok2, Bool.and_eq_true, Bool.not_eq_true', List.all_eq_true] at hok
    simp only [Plan.depth] at hd
    obtain ⟨m, rfl⟩ : ∃ m, n = m + 1 := ⟨n - 1, by omega⟩
    refine ⟨fun h => by rw [h] at hok; simp at hok, fun i hi x hx => ?_⟩
    exact hacc i (by simpa using hok.2 i hi) m rfl x hx
theorem XK.draw2 {id : Nat} {l : List Oper} {e : Env} {o : List PHeap} (fp : List (Nat × List Nat)) (hs : List PHeap) (t : Plan) (hmix : c.P.follows .mixedOrders = true) (hl : l.all (okOper c.N) = true)
    (hok : (Region.noSelect l.toArray && t.ok2 l.toArray (flI fp) (Array.replicate l.length false) [] && Nat.ble t.depth l.length) = true) (hr0 : (fp.all fun q => q.2.all fun n => Nat.blt n hs.length) = true) [hf : AllIn hs o []]
    (h : XT2 c l.toArray fp hs k r t e o) : XK c (.code (.region id l.toArray true) :: k) e o r := fun D ds a w cs ha he hD hs0 => by
  simp only [Bool.and_eq_true] at hok
  have hs1 : Sep (D :: o) (c.B :: r) { w with drawn := w.drawn + 1 } := ⟨hs0.pw, hs0.dr, hs0.so, hs0.sr, hs0.no, hs0.sm⟩
  have hin : ∀ q, ∀ g ∈ hpI fp hs q, g ∈ o := fun q g hg => by
    unfold hpI at hg
    obtain ⟨n, hn1, rfl⟩ := List.mem_map.1 hg
    cases hf1 : fp.find? fun p => p.1 == q with
    | none => rw [hf1] at hn1; cases hn1
    | some p =>
      rw [hf1] at hn1
      have h1 := List.all_eq_true.1 (List.all_eq_true.1 hr0 p (List.mem_of_find?_eq_some hf1)) n hn1
      rw [Nat.blt_eq] at h1
      rw [List.getD_eq_getElem?_getD, List.getElem?_eq_getElem h1]
      exact (hf.pf _ (List.getElem_mem h1)).elim (fun h => h) (fun h => by cases h)
  have hA := plan_sound2 (D := D) (Q := fun a' w' => ∀ cs, ∃ fr w'', c.E fr w'' ∧ Steps c.P (lone (mk c.f c.rd a' (marks ds) k) cs w') (lone fr cs w'')) hok.1.1
    (fun e o hX a w ha he hs cs => hX D ds a w cs ha he hD hs) t l.length (Array.replicate l.length false) [] e o a { w with drawn := w.drawn + 1 } hok.1.2 (Nat.le_of_ble_eq_true hok.2) h ha he hs1
    (fun q _ _ => ⟨fun g hg => hs1.so g (List.mem_cons_of_mem _ (hin q g hg)), hs1.sr⟩) (fun i hi => by cases hi)
  have hnd : ∀ (i : Nat) (x : Oper), l.toArray[i]? = some x → noDefer x = true := fun i x hx => by
    have := List.all_eq_true.1 hl x (by
      rw [List.getElem?_toArray] at hx
      exact List.mem_of_getElem? hx)
    unfold okOper at this
    simp only [Bool.and_eq_true] at this
    exact this.1
  obtain ⟨a', w', hQ, st⟩ := any_steps (f := c.f) (rd := c.rd) (ds := marks ds) (k := k) (cs := cs) hnd l.length (w.tape w.drawn (.order c.f id)) _ a _ (any2_weak _ _ _ _ hA)
  obtain ⟨fr, w'', hE, st'⟩ := hQ cs
  refine ⟨fr, w'', hE, .head step_region_draw ?_⟩
  have hsch : Region.schedule (c.P.follows .mixedOrders) l.toArray (w.tape w.drawn (.order c.f id)) =
      Region.linearise.go .any l.toArray l.length (w.tape w.drawn (.order c.f id)) (Array.replicate l.length false) [] := by
    simp [Region.schedule, hmix, Region.linearise]
  rw [hsch]
  exact Steps.trans st st'
variable {ops : Array Oper} {e : Env} {o : List PHeap} {i : Nat} {b : Bool} {t u : Plan} {ks : List PHeap} {ns : List Nat}
theorem XT2.done (h : XK c k e o r) : XT2 c ops fp hs k r .done e o := h
theorem XT2.stop : XT2 c ops fp hs k r .stop e o := trivial
theorem XT2.q {d : Nat} {op : Op} {ty : TypeId} {pos : String} {aft : Array Edge} {g : Option (Nat × Bool)} {v : Value} (hx : ops[i]? = some ⟨some d, op, ty, pos, aft, g⟩) (hok : okOper c.N ⟨some d, op, ty, pos, aft, g⟩ = true)
    (hh : hpI fp hs i = ks) (q : Quiet c.P ops ⟨some d, op, ty, pos, aft, g⟩ e ks (c.B :: r) v) (h : XT2 c ops fp hs k r t ((d, some v) :: e) o) : XT2 c ops fp hs k r (.q i t) e o := ⟨_, v, hx, hok, by rw [hh]; exact q, h⟩
theorem XT2.s0 {op : Op} {ty : TypeId} {pos : String} {aft : Array Edge} {g : Option (Nat × Bool)} {Ψ : Value → List PHeap → Prop} (hx : ops[i]? = some ⟨none, op, ty, pos, aft, g⟩)
    (hok : okOper c.N ⟨none, op, ty, pos, aft, g⟩ = true) (hk : keepI ops fp i = ns) (hm : ns.map (fun n => hs.getD n emp) = ks) (s : Stp c.P ops ⟨none, op, ty, pos, aft, g⟩ e o (c.B :: r) Ψ)
    (h : ∀ v o', Ψ v o' → AllIn ks o' [] ∧ XT2 c ops fp hs k r t e o') (hu : XT2 c ops fp hs k r u e o) : XT2 c ops fp hs k r (.br i b t u) e o :=
  ⟨⟨_, Ψ, hx, hok, s, fun v o' hΨ => ⟨fun n hn => by
    rw [hk] at hn
    exact ((h v o' hΨ).1.pf _ (by rw [← hm]; exact List.mem_map.2 ⟨n, hn, rfl⟩)).elim (fun h => h) (fun h => by cases h), (h v o' hΨ).2⟩⟩, hu⟩
theorem XT2.st {ty0 : TypeId} {n : Nat} {ty : TypeId} {pos : String} {aft : Array Edge} [s : TySize c.P ty0 n] {x y : Operand} {b2 j : Nat} {v : Value} {vs : List Value} {o' : List PHeap} (hi : ops[i]? = some ⟨none, .store ty0 x y, ty, pos, aft, none⟩) (hok : okOper c.N ⟨none, .store ty0 x y, ty, pos, aft, none⟩ = true)
    (hk : keepI ops fp i = ns) (hm : ns.map (fun n => hs.getD n emp) = ks) (hx : ev e x = some (ptr b2 j)) (hy : ev e y = some v) [hc : Cells v vs] [ho : Ones vs] (hl : vs.length = n) [up : Upd b2 j vs o o'] [al : AllIn ks o' []] (hn : XT2 c ops fp hs k r t e o') :
    XT2 c ops fp hs k r (.br i b t .stop) e o := XT2.s0 hi hok hk hm (Stp.st hx hy hl) (fun _ _ ⟨_, h2⟩ => by subst h2; exact ⟨al, hn⟩) trivial
theorem XT2.stE {α : Type} [Inhabited α] {enc : α → List Value} {sz : Nat} {h : PHeap} {xs : List α} {v : Value} {ty0 : TypeId} {n T : Nat} {ty : TypeId} {pos : String} {aft : Array Edge} [z : TySize c.P ty0 n] {x y : Operand} {j kk : Nat} {o1 : List PHeap} {u : Value} {us : List Value} (x' : α) (hi0 : ops[i]? = some ⟨none, .store ty0 x y, ty, pos, aft, none⟩)
    (hok : okOper c.N ⟨none, .store ty0 x y, ty, pos, aft, none⟩ = true) (hk : keepI ops fp i = ns) (hm : ns.map (fun n => hs.getD n emp) = ks) (hx : ev e x = some (pat v sz j kk)) (hy : ev e y = some u)
    [hc : Cells u us] [ho : Ones us] (hl : us.length = n) [s : OArr v enc sz T h xs] [tk : Take h o o1] (hi : j < xs.length)
    (hx' : enc x' = (enc (xs.getD j default)).take kk ++ us ++ (enc (xs.getD j default)).drop (kk + n)) (hkk : Nat.ble (kk + n) sz = true) [al : AllIn ks o1 []]
    (hnx : ∀ h', OArr v enc sz T h' (xs.set j x') → XT2 c ops fp hs k r t e (h' :: o1)) : XT2 c ops fp hs k r (.br i b t .stop) e o :=
  XT2.s0 hi0 hok hk hm (Stp.stE x' hx hy hl hi hx' hkk) (fun v' _ ⟨h', hO, h2⟩ => by subst h2; exact ⟨⟨fun g hg => orMap (al.pf g hg) (List.mem_cons_of_mem _) id⟩, hnx h' hO⟩) trivial
theorem XT2.ix {α : Type} {enc : α → List Value} {sz : Nat} {h : PHeap} {xs : List α} {v : Value} {d : Nat} {ty0 el : TypeId} {ty : TypeId} {pos : String} {aft : Array Edge} [uu : Und c.P ty0 (.slice el)] [z : TySize c.P el sz] {x y : Operand} {kk : IntKind} {n : Int} {j : Nat}
    (hx0 : ops[i]? = some ⟨some d, .indexAddr ty0 x y, ty, pos, aft, none⟩) (hok : okOper c.N ⟨some d, .indexAddr ty0 x y, ty, pos, aft, none⟩ = true) (hx : ev e x = some v) (hy : ev e y = some (.int kk n)) [s : Arr v enc sz h xs] [ixx : Idx n j] (h0 : 0 ≤ n) (h1 : n < xs.length)
    (hn : j < xs.length → XT2 c ops fp hs k r t ((d, some (pat v sz j 0)) :: e) o) : XT2 c ops fp hs k r (.q i t) e o := by
  refine XT2.q hx0 hok rfl (Q.ix hx hy h0 h1) (hn ?_)
  have := ixx.pf h0
  omega
end
end Go.X
