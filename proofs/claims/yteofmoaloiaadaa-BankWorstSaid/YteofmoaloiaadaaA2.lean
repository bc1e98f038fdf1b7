/- A part of the proof: a small program logic, plain laws and contracts of functions, each proved by a walk through its operations. No condition but those that stand in each theorem. -/
import Derived.Test.YteofmoaloiaadaaA1
import Derived.Carry
import Derived.Deep.Grids
import Derived.Deep.Slices
import Derived.KernelRfl
import Derived.OpenShut
import Derived.ProofKit
import Derived.SizedLaws
/- Loops over functions: the rounds, the loop, an iterator's contract. No condition. -/
set_option linter.unusedSimpArgs false
set_option linter.unusedVariables false
namespace Go.X

/-! ### a round -/
def rdy (l : Nat) (rec : Loop) : PHeap := sing l (.loop { rec with state := .ready, pending := none })
def bsy (l : Nat) (rec : Loop) : PHeap := sing l (.loop { rec with state := .busy, pending := none })
def ovr (l : Nat) (rec : Loop) (j : Option Code) : PHeap := sing l (.loop { rec with state := if j.isNone then .ready else .done, pending := j })
theorem ovr_none (l : Nat) (rec : Loop) : ovr l rec none = rdy l rec := rfl
def Leaves : Option Code → List Item → Prop
  | none, [] => True
  | some .ret, .code .ret :: _ => True
  | some (.exit id), .code (.exit id') :: k => id = id' ∧ exitTo id k = none
  | _, _ => False
/-- The frame of a round; at its end: the jump, the heaps. -/
abbrev rcx (P : Program) (f : FuncId) (N : Nat) (l : Nat) (rec : Loop) (B : PHeap) (R : Option Code → List PHeap → Prop) : Cx :=
  { P, f, rd := some l, N, B, E := fun fr w' => ∃ j k a ds hs, fr = mk f (some l) a (marks ds) k ∧ Leaves j k ∧ R j hs ∧ Sep (bsy l rec :: hs) [B] w' }
section
variable {P : Program} {f : FuncId} {N l : Nat} {rec : Loop} {B : PHeap} {R : Option Code → List PHeap → Prop} {k : List Item} {e : Env} {o o1 r : List PHeap}
theorem Sep.turn {b : Nat} {x y : Obj} {o r : List PHeap} {w : World} (s : Sep (sing b x :: o) r w) : Sep (sing b y :: o) r (w.putObj b y) ∧ w.heap[b]? = some x := by
  have hb : w.heap[b]? = some x := s.so _ List.mem_cons_self b x (sing_self b x)
  have hlt : b < w.heap.size := (Array.getElem?_eq_some_iff.1 hb).1
  refine ⟨s.swap (fun x' hx' => ?_) (fun x' ob hx' => ?_) (fun x' hx' => ?_) rfl rfl, hb⟩
  · unfold sing at *; dsimp only at hx' ⊢; split at hx'
    · cases hx'
    · simp [*]
  · obtain ⟨rfl, rfl⟩ := sing_some hx'
    exact World.putObj_heap_same hlt
  · refine World.putObj_heap_other ?_
    rintro rfl
    rw [sing_self] at hx'; cases hx'
theorem XK.beginRound [t : Take (rdy l rec) o o1] (h : XK (rcx P f N l rec B R) k e (bsy l rec :: o1) r) : XK (rcx P f N l rec B R) (.beginRound :: k) e o r := fun D ds a w cs ha he hD hm => by
  have hp : (D :: o).Perm (rdy l rec :: D :: o1) := (t.pf.cons D).trans (List.Perm.swap _ _ _)
  obtain ⟨h1, hb⟩ := Sep.turn (y := .loop { rec with state := .busy, pending := none }) (hm.perm hp)
  obtain ⟨fr, w', hE, st⟩ := h D ds a _ cs ha he hD (h1.perm (List.Perm.swap _ _ _))
  refine ⟨fr, w', hE, .head (step_lone_go ?_) st⟩
  have hr := run_beginRound (P := P) hb rfl
  simp [stepG, stepG.exec, stepG.apply, mk, Sem.runT_eq, hr, Result.andThen, Frame.finish]
theorem XK.leave {j : Option Code} (hs : List PHeap) [p : Wk o (bsy l rec :: hs)] (hj : Leaves j k) (hR : R j hs) : XK (rcx P f N l rec B R) k e o r := fun D ds a w cs ha he hD hm =>
  ⟨_, w, ⟨j, k, a, ds, hs, rfl, hj, hR, (p.sep hm.tail).reads (fun g hg => by simp at hg; subst hg; exact List.mem_cons_self)⟩, .refl _ _⟩
theorem step_leave {j : Option Code} {a : Array Value} {ds : List Deferred} {c0 : Frame} {cs : List Frame} {w w' : World} {v : Value} (hj : Leaves j k) (hr : (Instr.endRound l j).run P w = .ok v w') :
    step P (lone (mk f (some l) a ds k) (c0 :: cs) w) = .next (lone (c0.finish v) cs w') := by
  unfold Leaves at hj
  split at hj
  · exact step_lone_go (by simp [stepG, stepG.exec, mk, Sem.runT_eq, hr, doReturn])
  · exact step_lone_go (by simp [stepG, stepG.exec, mk, Sem.runT_eq, hr, doReturn])
  · obtain ⟨rfl, hx⟩ := hj
    exact step_lone_go (by simp [stepG, stepG.exec, mk, hx, Sem.runT_eq, hr, doReturn])
  · exact hj.elim
def pars : List Tmp → List Value → Env → Env
  | p :: ps, v :: vs, e => pars ps vs ((p, some v) :: e)
  | _, _, e => e
theorem pars_rel : ∀ (ps : List Tmp) (vs : List Value) (e : Env) (a : Array Value), (∀ p ∈ ps, p < a.size) → ERel e a →
    ERel (pars ps vs e) ((ps.zip vs).foldl (fun tmps (t, x) => tmps.setIfInBounds t x) a) ∧ ((ps.zip vs).foldl (fun tmps (t, x) => tmps.setIfInBounds t x) a).size = a.size
  | [], vs, e, a, _, he => by cases vs <;> exact ⟨he, rfl⟩
  | p :: ps, [], e, a, _, he => ⟨he, rfl⟩
  | p :: ps, v :: vs, e, a, hp, he => by
    have h1 : ERel ((p, some v) :: e) (a.setIfInBounds p v) := he.put (hp p List.mem_cons_self)
    obtain ⟨h2, h3⟩ := pars_rel ps vs _ (a.setIfInBounds p v) (fun q hq => by simp; exact hp q (List.mem_cons_of_mem _ hq)) h1
    exact ⟨h2, by rw [List.zip_cons_cons, List.foldl_cons]; rw [h3]; simp⟩
/-- A call of yield is a round. -/
theorem VSpec.round {Hr hs0 : List PHeap} {ps : List Tmp} {vs : List Value} {asn bd : Code} {L0 : Nat} {a : Array Value} (hrec : rec = { state := .ready, pending := none, fn := f, tmps := a, params := ps.toArray, assign := asn, body := bd, defers := L0 })
    (hN : a.size = N) (he : ERel e a) (hps : ∀ p ∈ ps, p < N) (hlen : vs.length = ps.length)
    (h : ∀ B, XK (rcx P f N l rec B R) [.code asn, .beginRound, .code bd] (pars ps vs e) (rdy l rec :: hs0) Hr) :
    VSpec P (.func (.yield l) #[] #[]) vs (rdy l rec :: hs0) Hr (fun v hs => ∃ j hs', v = .bool (Option.isNone j) ∧ hs = ovr l rec j :: hs' ∧ R j hs') := fun o r w hs hr => by
  have hb : w.heap[l]? = some (.loop { rec with state := .ready, pending := none }) := hs.so _ List.mem_cons_self l _ (sing_self _ _)
  have hrun : (callv (.func (.yield l) #[] #[]) vs.toArray).run P w =
      .ok (.round l f ((ps.zip vs).foldl (fun tmps (t, x) => tmps.setIfInBounds t x) a) asn bd) w := by
    unfold callv
    have e1 : (Deferred.ofValue (.func (.yield l) #[] #[]) vs.toArray).run P w = .ok { target := .fn (.yield l) #[], args := #[] ++ vs.toArray } w := rfl
    rw [bind_ok e1]
    simp only [invoke, Array.empty_append]
    rw [run_yield hb (by subst hrec; simp [hlen])]
    subst hrec
    simp [List.zip_toArray, List.foldl_toArray]
  unfold NDoes
  rw [hrun]
  intro c0 cs
  obtain ⟨hr1, hr2⟩ := pars_rel ps vs e a (fun p hp => hN ▸ hps p hp) he
  obtain ⟨fr, w', ⟨j, k, a', ds, hs', rfl, hj, hR, hS⟩, st⟩ := h (hole w (rdy l rec :: hs0)) emp [] _ w (c0 :: cs) (hr2.trans hN) hr1 ⟨List.nodup_nil, fun b => by simp [emp]⟩ (frame_in hs hr).empC
  obtain ⟨hS2, hb2⟩ := Sep.turn (y := .loop { rec with state := if j.isNone then .ready else .done, pending := j }) hS
  have hend := run_endRound (P := P) j hb2
  refine ⟨_, _, ⟨_, ⟨j, hs', rfl, rfl, hR⟩, frame_out hs hS2⟩, ?_⟩
  refine Steps.trans ?_ (.one (step_leave (f := f) (a := a') (ds := marks ds) (c0 := c0) (cs := cs) hj hend))
  exact st
end

/-! ### the loop -/
theorem NDoes.mono {P : Program} {s : Sem Next} {w : World} {Q R : Value → World → Prop} (h : NDoes P s w Q) (m : ∀ v w', Q v w' → R v w') : NDoes P s w R := by
  unfold NDoes at *
  split at h
  · exact h.mono fun e w'' ⟨v, he, hv⟩ => ⟨v, he, m _ _ hv⟩
  · exact fun c0 cs => let ⟨v, w', hv, hs⟩ := h c0 cs; ⟨v, w', m _ _ hv, hs⟩
  · exact h.elim
theorem VSpec.mono {P : Program} {y : Value} {vs : List Value} {Hm Hr : List PHeap} {R R' : Value → List PHeap → Prop} (h : VSpec P y vs Hm Hr R) (m : ∀ v hs, R v hs → R' v hs) : VSpec P y vs Hm Hr R' :=
  fun o r w hs hr => (h o r w hs hr).mono fun v _ ⟨hs', hR, hS⟩ => ⟨hs', m v hs' hR, hS⟩
theorem VSpec.joined {P : Program} {y : Value} {vs : List Value} {Hm Hr : List PHeap} {R : Value → List PHeap → Prop} (h : VSpec P y vs Hm Hr R) (hp : PD Hm) :
    VSpec P y vs [join Hm] Hr (fun v hs => ∃ hs', R v hs' ∧ PD hs' ∧ hs = [join hs']) := fun o r w hs hr =>
  (h o r w (Sep.split hp hs) hr).mono fun v _ ⟨hs', hR, hS⟩ => ⟨_, ⟨hs', hR, ⟨hS.left.pw, hS.left.no⟩, rfl⟩, hS.join⟩
/-- An iterator: it yields the items, one after the other, till a call of yield answers false. -/
def It (P : Program) (y : Value) (items : List (List Value)) (Hg : List PHeap) : Prop :=
  ∀ (f : Value) (Hr : List PHeap) (Q : Nat → PHeap → Prop) (X : PHeap → Prop),
    (∀ i, i < items.length → ∀ q, Q i q → VSpec P f (items.getD i []) [q] Hr (fun v hs => ∃ b q', v = .bool b ∧ hs = [q'] ∧ (b = true → Q (i + 1) q') ∧ (b = false → X q'))) →
    ∀ q, Q 0 q → VSpec P y [f] [q] (Hg ++ Hr) (fun _ hs => ∃ q', hs = [q'] ∧ (Q items.length q' ∨ X q'))
theorem step_range {P : Program} {f : FuncId} {a : Array Value} {ds mark : List Deferred} {k : List Item} {cs : List Frame} {w w1 : World} {l : Nat} {x : Operand} {y : Value} {ps : Array Tmp} {asn bd : Code}
    {Post : Value → World → Prop} (he : (Instr.enterLoop f a ps asn bd none).run P w = .ok (l, mark) w1) (hx : evA a x = y) (h : NDoes P (callv y #[.func (.yield l) #[] #[]]) w1 Post) :
    ∃ v w', Post v w' ∧ Steps P (lone (mk f none a ds (.code (.rangeFunc x ps asn bd) :: k)) cs w) (lone (mk f none a (mark ++ ds) (.endRangeFunc l :: k)) cs w') := by
  have hev : ∀ z, (mk f none a (mark ++ ds) (.inRangeFunc l :: k)).eval z = evA a z := fun z => eval_mk z
  have hcall : (do
      let d ← resolve (mk f none a (mark ++ ds) (.inRangeFunc l :: k)).eval { callee := .value x, args := #[.const (.func (.yield l) #[] #[])], argTypes := #[] } 0
      invoke d.target d.args : Sem Next) = callv y #[.func (.yield l) #[] #[]] := by
    simp only [resolve, hev, hx, callv]
    simp [eval_mk, evA]
  simp only [mk] at hcall
  have hfin : ∀ v, (mk f none a (mark ++ ds) (.inRangeFunc l :: k)).finish v = mk f none a (mark ++ ds) (.endRangeFunc l :: k) := fun v => by simp [Frame.finish, mk]
  unfold NDoes at h
  split at h
  · rename_i g args w' hr
    obtain ⟨e, w'', fr, ⟨v, rfl, hp⟩, hsteps, _, hleave⟩ := h (mk f none a (mark ++ ds) (.inRangeFunc l :: k) :: cs)
    have henter : step P (lone (mk f none a ds (.code (.rangeFunc x ps asn bd) :: k)) cs w) =
        .next (lone (Frame.enter P g args .normal) (mk f none a (mark ++ ds) (.inRangeFunc l :: k) :: cs) w') :=
      step_lone_go (by simp [stepG, stepG.exec, stepG.apply, mk, Sem.runT_eq, he, hcall, hr, GStep.bare_after])
    refine ⟨v, w'', hp, .head henter (Steps.trans hsteps ?_)⟩
    rw [← hfin v]; exact finish_returns hleave
  · rename_i l' g tmps asn' bd' w' hr
    obtain ⟨v, w'', hp, hs⟩ := h (mk f none a (mark ++ ds) (.inRangeFunc l :: k)) cs
    have henter : step P (lone (mk f none a ds (.code (.rangeFunc x ps asn bd) :: k)) cs w) =
        .next (lone (Frame.round l' g tmps asn' bd' .normal) (mk f none a (mark ++ ds) (.inRangeFunc l :: k) :: cs) w') :=
      step_lone_go (by simp [stepG, stepG.exec, stepG.apply, mk, Sem.runT_eq, he, hcall, hr, GStep.bare_after])
    refine ⟨v, w'', hp, .head henter ?_⟩
    rw [← hfin v]; exact hs
  · exact h.elim
theorem step_endRange {P : Program} {f : FuncId} {a : Array Value} {ds : List Deferred} {k : List Item} {cs : List Frame} {w w1 : World} {l : Nat} {j : Option Code}
    (h : (Instr.endLoop l).run P w = .ok j w1) : step P (lone (mk f none a ds (.endRangeFunc l :: k)) cs w) = .next (lone (mk f none a ds ((j.map Item.code).toList ++ k)) cs w1) :=
  step_lone_go (by simp [stepG, stepG.exec, mk, Sem.runT_eq, h, GStep.bare_after])
def RoundR {X : Type} (oc : X → List PHeap) (I : X → Prop) (J : Code → X → Prop) : Option Code → List PHeap → Prop
  | none, hs => ∃ x, I x ∧ hs = oc x
  | some j, hs => ∃ x, J j x ∧ hs = oc x
/-- A loop over a function in a frame that is no round. 'I i x': ahead of item i; 'J j x': a round has left the loop by the jump j. -/
theorem XK.range {P : Program} {f : FuncId} {N : Nat} {B : PHeap} {E : Frame → World → Prop} {X : Type} {k : List Item} {e : Env} {o ok r : List PHeap} {x : Operand} {y : Value} {ps : List Tmp} {asn bd : Code} {Hg : List PHeap} (items : List (List Value))
    (oc : X → List PHeap) (I : Nat → X → Prop) (J : Code → X → Prop) (x0 : X) (o0 : List PHeap) [rst : Rest o0 o ok] (ho0 : oc x0 = o0) (h0 : I 0 x0) (hx : ev e x = some y)
    (hit : It P y items Hg) [al : AllIn Hg ok (B :: r)] (hps : ps.all (fun p => Nat.blt p N) = true) (hlen : ∀ i, i < items.length → (items.getD i []).length = ps.length)
    (round : ∀ l rec B' i x, i < items.length → I i x → XK (rcx P f N l rec B' (RoundR oc (I (i + 1)) J)) [.code asn, .beginRound, .code bd] (pars ps (items.getD i []) e) (rdy l rec :: oc x) (ok ++ r))
    (cont : ∀ x, I items.length x → XK ⟨P, f, none, N, B, E⟩ k e (oc x ++ ok) r)
    (jump : ∀ j x, J j x → XK ⟨P, f, none, N, B, E⟩ (.code j :: k) e (oc x ++ ok) r) :
    XK ⟨P, f, none, N, B, E⟩ (.code (.rangeFunc x ps.toArray asn bd) :: k) e o r := fun D ds a w cs ha he hD hm => by
  have hm1 : Sep (D :: (o0 ++ ok)) (B :: r) w := rst.wk.sepD hm
  let rec' : Loop := { state := .ready, pending := none, fn := f, tmps := a, params := ps.toArray, assign := asn, body := bd, defers := w.heap.size }
  let l := w.heap.size + 1
  let w1 := (w.alloc (.deferred (some []))).alloc (.loop rec')
  have henter : (Instr.enterLoop f a ps.toArray asn bd none).run P w = .ok (l, [{ target := .collected w.heap.size, args := #[] }]) w1 := run_enterLoop_outer f a ps.toArray asn bd
  have hs1 : Sep (rdy l rec' :: sing w.heap.size (.deferred (some [])) :: D :: (o0 ++ ok)) (B :: r) w1 := by
    have := (hm1.push (.deferred (some []))).push (.loop rec')
    simp only [Array.size_push] at this
    exact this
  let D' := Go.X.join [sing w.heap.size (.deferred (some [])), D]
  have hs2 : Sep (D' :: rdy l rec' :: (o0 ++ ok)) (B :: r) w1 := by
    refine Sep.join (hs := [sing w.heap.size (.deferred (some [])), D]) (hs1.perm ?_)
    exact (List.Perm.swap _ _ _).trans ((List.Perm.swap _ _ _).cons _)
  have hD' : Marked D' (w.heap.size :: ds) := by
    refine ⟨List.nodup_cons.2 ⟨fun hmem => ?_, hD.1⟩, fun b => ?_⟩
    · have := sub_lt (hm.so D List.mem_cons_self) (b := w.heap.size) (o := .deferred (some [])) (by rw [hD.2, if_pos hmem])
      omega
    · simp only [D', Go.X.join, sing, emp, Option.or_none, hD.2 b, List.mem_cons]
      by_cases hb : b = w.heap.size
      · simp [hb]
      · simp [hb]
  have hs3 : Sep (Go.X.join (rdy l rec' :: o0) :: D' :: ok) (B :: r) w1 := Sep.join (hs := rdy l rec' :: o0) (hs2.perm (by
    simp only [List.cons_append]
    exact (List.Perm.swap _ _ _).trans (List.perm_middle.symm.cons _)))
  have hp0 : PD (rdy l rec' :: oc x0) := by
    rw [ho0]
    have hsub : (rdy l rec' :: o0).Sublist (rdy l rec' :: (o0 ++ ok)) := List.Sublist.cons_cons _ (List.sublist_append_left _ _)
    exact ⟨hs2.tail.pw.sublist hsub, fun h hh => hs2.tail.no h (hsub.mem hh)⟩
  have hpsN : ∀ p ∈ ps, p < N := fun p hp => by
    have := List.all_eq_true.1 hps p hp
    rwa [Nat.blt_eq] at this
  have hyield : ∀ i, i < items.length → ∀ q, (∃ x, I i x ∧ PD (rdy l rec' :: oc x) ∧ q = Go.X.join (rdy l rec' :: oc x)) →
      VSpec P (.func (.yield l) #[] #[]) (items.getD i []) [q] (ok ++ r) (fun v hs => ∃ b q', v = .bool b ∧ hs = [q'] ∧
        (b = true → ∃ x, I (i + 1) x ∧ PD (rdy l rec' :: oc x) ∧ q' = Go.X.join (rdy l rec' :: oc x)) ∧
        (b = false → ∃ j x, J j x ∧ PD (ovr l rec' (some j) :: oc x) ∧ q' = Go.X.join (ovr l rec' (some j) :: oc x))) := by
    rintro i hi q ⟨x, hI, hp, rfl⟩
    refine ((VSpec.round (rec := rec') (N := N) (e := e) rfl ha he hpsN (hlen i hi) (fun B' => round l rec' B' i x hi hI)).joined hp).mono ?_
    rintro v hs ⟨hs', ⟨j, hs'', rfl, rfl, hR⟩, hpw, rfl⟩
    refine ⟨_, _, rfl, rfl, ?_, ?_⟩
    · intro hj
      cases j with
      | some j => cases hj
      | none =>
        obtain ⟨x', h1, rfl⟩ := hR
        exact ⟨x', h1, hpw, rfl⟩
    · intro hj
      cases j with
      | none => cases hj
      | some j =>
        obtain ⟨x', h1, rfl⟩ := hR
        exact ⟨j, x', h1, hpw, rfl⟩
  have hN := hit _ (ok ++ r) _ _ hyield (Go.X.join (rdy l rec' :: o0)) ⟨x0, h0, hp0, by rw [ho0]⟩ (D' :: ok) (B :: r) w1 hs3 (fun h hh => by
    rcases List.mem_append.1 hh with hh | hh
    · exact orMap (al.pf h hh) (List.mem_cons_of_mem _) id
    · rcases List.mem_append.1 hh with hh | hh
      · exact .inl (List.mem_cons_of_mem _ hh)
      · exact .inr (List.mem_cons_of_mem _ hh))
  obtain ⟨v, w', ⟨hs', ⟨q', rfl, hq⟩, hS⟩, st⟩ := step_range (ds := marks ds) (k := k) (cs := cs) henter (ev_rel he hx) hN
  rcases hq with ⟨x', hI, hpw, rfl⟩ | ⟨j, x', hJ, hpw, rfl⟩
  · obtain ⟨hS2, hb⟩ := Sep.turn (y := .loop { rec' with state := .exhausted, pending := none }) (Sep.split hpw hS)
    obtain ⟨fr, w2, hE, st2⟩ := cont x' hI D' (w.heap.size :: ds) a _ cs ha he hD' (hS2.tail.perm List.perm_middle)
    exact ⟨fr, w2, hE, Steps.trans st (.head (step_endRange (run_endLoop hb (by simp))) st2)⟩
  · obtain ⟨hS2, hb⟩ := Sep.turn (y := .loop { rec' with state := .exhausted, pending := some j }) (Sep.split hpw hS)
    obtain ⟨fr, w2, hE, st2⟩ := jump j x' hJ D' (w.heap.size :: ds) a _ cs ha he hD' (hS2.tail.perm List.perm_middle)
    exact ⟨fr, w2, hE, Steps.trans st (.head (step_endRange (run_endLoop hb (by simp))) st2)⟩
end Go.X

/- Bits of unsigned numbers; copies between slices. No condition. -/
set_option linter.unusedSimpArgs false
set_option linter.unusedVariables false
namespace Go.X
section
variable {P : Program} {ops : Array Oper} {e : Env} {o r : List PHeap} {d : Option Tmp} {ty : TypeId} {pos : String} {aft : Array Edge}
theorem wrapu64 {n : Int} (h : 0 ≤ n ∧ n < 18446744073709551616) : IntKind.u64.wrap n = n := by
  have : IntKind.u64.wrap n = n % 18446744073709551616 := rfl
  rw [this]; omega
theorem Q.addU {t t2 : TypeId} {x y : Operand} {m n : Int} (hx : ev e x = some (.int .u64 m)) (hy : ev e y = some (.int .u64 n)) (h : 0 ≤ m + n ∧ m + n < 18446744073709551616) :
    Quiet P ops ⟨d, .binOp .add t x y t2, ty, pos, aft, none⟩ e o r (.int .u64 (m + n)) := by
  have := Q.addW (P := P) (ops := ops) (o := o) (r := r) (d := d) (ty := ty) (pos := pos) (aft := aft) (t := t) (t2 := t2) hx hy
  rwa [wrapu64 h] at this
theorem Q.mulU {t t2 : TypeId} {x y : Operand} {m n : Int} (hx : ev e x = some (.int .u64 m)) (hy : ev e y = some (.int .u64 n)) (h : 0 ≤ m * n ∧ m * n < 18446744073709551616) :
    Quiet P ops ⟨d, .binOp .mul t x y t2, ty, pos, aft, none⟩ e o r (.int .u64 (m * n)) := by
  have := Q.mulW (P := P) (ops := ops) (o := o) (r := r) (d := d) (ty := ty) (pos := pos) (aft := aft) (t := t) (t2 := t2) hx hy
  rwa [wrapu64 h] at this
/-- & with 2^32 - 1 -/
theorem Q.mask32 {t t2 : TypeId} {x y : Operand} {m : Int} (hx : ev e x = some (.int .u64 m)) (hy : ev e y = some (.int .u64 4294967295)) (h : 0 ≤ m ∧ m < 18446744073709551616) :
    Quiet P ops ⟨d, .binOp .and t x y t2, ty, pos, aft, none⟩ e o r (.int .u64 (m % 4294967296)) := Q.bin hx hy fun w => by
  obtain ⟨n, rfl⟩ := Int.eq_ofNat_of_zero_le h.1
  have hn : n < 18446744073709551616 := by omega
  have e1 : binOp .and t (.int .u64 (n : Int)) (.int .u64 4294967295) = Op.intBits .and .u64 (n : Int) 4294967295 := by simp [binOp]
  rw [e1]
  have e2 : (BitVec.ofInt 64 (n : Int) &&& BitVec.ofInt 64 4294967295).toNat = n % 4294967296 := by
    have e3 : BitVec.ofInt 64 (4294967295 : Int) = BitVec.ofNat 64 (2 ^ 32 - 1) := by decide
    rw [e3, BitVec.ofInt_natCast, BitVec.toNat_and, BitVec.toNat_ofNat, BitVec.toNat_ofNat, Nat.mod_eq_of_lt hn, Nat.mod_eq_of_lt (show 2 ^ 32 - 1 < 2 ^ 64 by decide), Nat.and_two_pow_sub_one_eq_mod]
  have e4 : Op.intBits .and .u64 (n : Int) 4294967295 = (pure (.int .u64 (IntKind.u64.wrap ((BitVec.ofInt 64 (n : Int) &&& BitVec.ofInt 64 4294967295).toNat : Int))) : Sem Value) := rfl
  rw [e4, e2, wrapu64 (by omega)]
  simp
theorem Q.shr32 {t t2 : TypeId} {x y : Operand} {k' : IntKind} {m : Int} (hx : ev e x = some (.int .u64 m)) (hy : ev e y = some (.int k' 32)) :
    Quiet P ops ⟨d, .binOp .shr t x y t2, ty, pos, aft, none⟩ e o r (.int .u64 (m / 4294967296)) := Q.bin hx hy fun w => by
  have e1 : binOp .shr t (.int .u64 m) (.int k' 32) = Op.shift .shr .u64 m k' 32 := by simp [binOp]
  rw [e1]
  have e2 : Op.shift .shr .u64 m k' 32 = (pure (.int .u64 (m.fdiv (2 ^ 32))) : Sem Value) := rfl
  rw [e2, Int.fdiv_eq_ediv_of_nonneg _ (by decide)]
  rfl
end

/-! ### copies -/
theorem flat_take {α : Type} {enc : α → List Value} {sz : Nat} (he : ∀ x, (enc x).length = sz) : ∀ (xs : List α) (i : Nat), (xs.take i).flatMap enc = (xs.flatMap enc).take (i * sz)
  | [], i => by simp
  | x :: xs, 0 => by simp
  | x :: xs, i + 1 => by
    rw [List.take_succ_cons, List.flatMap_cons, List.flatMap_cons, flat_take he xs i, Nat.add_mul, Nat.one_mul, List.take_append, he]
    rw [List.take_of_length_le (l := enc x) (by rw [he]; omega), show i * sz + sz - sz = i * sz by omega]
theorem flat_drop {α : Type} {enc : α → List Value} {sz : Nat} (he : ∀ x, (enc x).length = sz) : ∀ (xs : List α) (i : Nat), (xs.drop i).flatMap enc = (xs.flatMap enc).drop (i * sz)
  | [], i => by simp
  | x :: xs, 0 => by simp
  | x :: xs, i + 1 => by
    rw [List.drop_succ_cons, List.flatMap_cons, flat_drop he xs i, Nat.add_mul, Nat.one_mul, List.drop_append, he]
    rw [List.drop_of_length_le (l := enc x) (by rw [he]; omega), show i * sz + sz - sz = i * sz by omega, List.nil_append]
def tailv (v : Value) (sz i : Nat) : Value := match v with
  | .slice ad n c => .slice (if c = i then ad else ad.map (·.add (i * sz))) (n - i) (c - i)
  | v => v
def splice {α : Type} (xs ys : List α) (i : Nat) : List α := xs.take i ++ ys.take (min ys.length (xs.length - i)) ++ xs.drop (i + min ys.length (xs.length - i))
section
variable {P : Program} {ops : Array Oper} {e : Env} {o r : List PHeap} {d : Option Tmp} {ty : TypeId} {pos : String} {aft : Array Edge}
variable {α : Type} {enc : α → List Value} {sz : Nat} {h : PHeap} {xs : List α} {v : Value}
theorem tailv_zero {T : TypeId} [s : OArr v enc sz T h xs] : tailv v sz 0 = v := by
  obtain ⟨he, hm, ⟨rfl, rfl, rfl⟩ | ⟨b, c, cs, rfl, rfl, hle, hlen, ht⟩⟩ := s.pf
  · rfl
  · simp only [tailv, Nat.zero_mul, Nat.sub_zero, Option.map_some, add_none]
    split <;> simp
theorem Q.tail {t el : TypeId} [u : Und P t (.slice el)] [z : TySize P el sz] {x : Operand} {lo : Option Operand} {i : Nat} (hx : ev e x = some v) [s : Arr v enc sz h xs] (hlo : Bd e 0 lo i) (hi : i ≤ xs.length) :
    Quiet P ops ⟨d, .slice t x lo none none, ty, pos, aft, none⟩ e o r (tailv v sz i) := .mk fun a w he _ => by
  obtain ⟨henc, hm, ad, c, rfl, hle, hnn, hc⟩ := s.pf
  have hrun : (Instr.sliceAt t (.slice ad xs.length c) (lo.map (evA a)) none none).run P w =
      .ok (.slice (if c = i then ad else ad.map (·.add (i * sz))) (xs.length - i) (c - i)) w := by
    unfold Instr.sliceAt
    rw [bind_ok (u.pf w)]
    simp only
    unfold Instr.slice
    rw [bind_ok (u.pf w)]
    simp only
    have hb : (Instr.sliceBounds true xs.length c (lo.map (evA a)) none none).run P w = .ok (i, xs.length, c) w := by
      unfold Instr.sliceBounds
      simp only [pure_bind]
      rcases Bd.run (P := P) he hlo xs.length .sliceB (by omega) w with ⟨h3, h4⟩ | ⟨v3, h3, h4⟩
      · rw [h3, h4]; rfl
      · rw [h3]
        simp only [Option.isSome_none, Bool.false_eq_true, if_false]
        rw [bind_ok h4]; rfl
    rw [bind_ok hb]
    simp only
    rw [bind_ok (z.pf w)]
    rfl
  simp only [execOp, ev_rel he hx, Option.map_none]
  exact run_val hrun
theorem run_copy {t0 t1 ty el : TypeId} [u : Und P t0 (.slice el)] [z : TySize P el sz] {v2 : Value} {h2 : PHeap} {ys : List α} [s2 : Arr v2 enc sz h2 ys] {w w' : World} (hsub2 : sub h2 w) {ad : Option Addr} {m c : Nat}
    (hst : ((match ad with | some a => storeCells a ((ys.take (min ys.length m)).flatMap enc) 0 | none => pure () : Sem Unit)).run P w = .ok () w') :
    (Builtin.copy_ #[t0, t1] ty #[.slice ad m c, v2]).run P w = .ok (.int .i64 ((min ys.length m : Nat) : Int)) w' := by
  obtain ⟨henc2, hm2, a2, c2, hv2, hle2, hnn2, hc2⟩ := s2.pf
  have hlen2 : (Builtin.lenOf v2).run P w = .ok ys.length w := by rw [hv2]; rfl
  have hcells : (Builtin.firstCells sz (min ys.length m) v2).run P w = .ok ((ys.take (min ys.length m)).flatMap enc).toArray w := s2.cells hsub2 _ (by omega)
  unfold Builtin.copy_
  simp only [List.getElem?_toArray, List.getElem?_cons_zero, List.getElem?_cons_succ]
  rw [bind_ok (u.pf w)]
  simp only
  rw [bind_ok hlen2, bind_ok (z.pf w)]
  have hcells' : (Builtin.firstCells sz (Nat.min ys.length m) v2).run P w = .ok ((ys.take (min ys.length m)).flatMap enc).toArray w := hcells
  rw [bind_ok hcells']
  cases ad with
  | none =>
    simp only at hst ⊢
    have : w' = w := by
      have h1 : (pure () : Sem Unit).run P w = .ok () w := rfl
      rw [h1] at hst
      injection hst with h2 h3
      exact h3.symm
    subst this
    rfl
  | some a =>
    simp only at hst ⊢
    rw [bind_ok hst]
    rfl
theorem Stp0.copy {t0 t1 el T : TypeId} [u : Und P t0 (.slice el)] [z : TySize P el sz] {x y : Operand} {vd v2 : Value} {h2 : PHeap} {ys : List α} {i : Nat} {o1 : List PHeap} (hx : ev e x = some vd) (hd : vd = tailv v sz i) (hy : ev e y = some v2)
    [s : OArr v enc sz T h xs] [tk : Take h o o1] [s2 : Arr v2 enc sz h2 ys] [m : InM h2 o r] (hi : i ≤ xs.length) :
    Stp0 P ops ⟨d, .call ⟨.builtin .copy, #[x, y], #[t0, t1]⟩, ty, pos, aft, none⟩ e o r (fun v' o2 => ∃ h', v' = .int .i64 ((min ys.length (xs.length - i) : Nat) : Int) ∧ OArr v enc sz T h' (splice xs ys i) ∧ o2 = h' :: o1) := fun a w he hs => by
  subst hd
  have hs1 := hs.perm tk.pf
  have hsub2 : sub h2 w := m.pf.elim (hs.so _) (hs.sr _)
  have hx' := ev_rel he hx
  have hy' := ev_rel he hy
  obtain ⟨henc2, hm2, a2, c2, hv2, hle2, hnn2, hc2⟩ := s2.pf
  have hexec : ∀ w', (Builtin.copy_ #[t0, t1] ty #[tailv v sz i, v2]).run P w = .ok (.int .i64 ((min ys.length (xs.length - i) : Nat) : Int)) w' →
      (execOp (evA a) (⟨d, .call ⟨.builtin .copy, #[x, y], #[t0, t1]⟩, ty, pos, aft, none⟩ : Oper)).run P w = .ok (.value (.int .i64 ((min ys.length (xs.length - i) : Nat) : Int))) w' := by
    intro w' hw'
    simp only [execOp, resolve, List.map_toArray, List.map_cons, List.map_nil, hx', hy']
    exact run_val hw'
  obtain ⟨henc, hm, ⟨rfl, rfl, rfl⟩ | ⟨b, c, cs, rfl, rfl, hle, hlen, ht⟩⟩ := s.pf
  · unfold Does
    rw [if_pos (by simp [Region.wanted]), hexec w (by
      have hi0 : i = 0 := by simpa using hi
      subst hi0
      have := run_copy (t0 := t0) (t1 := t1) (ty := ty) (el := el) (s2 := s2) (w := w) (w' := w) (P := P) hsub2 (ad := none) (m := 0) (c := 0) rfl
      simpa [tailv] using this)]
    refine ⟨emp :: o1, ⟨emp, rfl, ?_, rfl⟩, hs1⟩
    simp [splice]
    exact s
  · have hn' : min ys.length (xs.length - i) ≤ xs.length - i := Nat.min_le_right _ _
    have hny : min ys.length (xs.length - i) ≤ ys.length := Nat.min_le_left _ _
    generalize hne : min ys.length (xs.length - i) = n' at *
    have hZ : ((ys.take n').flatMap enc).length = n' * sz := by rw [flat_len henc, List.length_take, Nat.min_eq_left hny]
    have hmul1 : i * sz + n' * sz ≤ xs.length * sz := by rw [← Nat.add_mul]; exact Nat.mul_le_mul_right _ (by omega)
    have hmul2 : xs.length * sz ≤ c * sz := Nat.mul_le_mul_right _ hle
    have hh : w.heap[b]? = some (.cells cs.toArray T (0, 0)) := hs1.so _ List.mem_cons_self b _ (sing_self _ _)
    have hones : ∀ v ∈ (ys.take n').flatMap enc, one v = true := fun v hv => by
      obtain ⟨y, hy1, hy2⟩ := List.mem_flatMap.1 hv
      exact hm2.2 y (List.mem_of_mem_take hy1) v hy2
    obtain ⟨w', h1, h2, h3, h4⟩ := run_storeCells (P := P) (b := b) (k := i * sz) (T := T) ((ys.take n').flatMap enc) 0 w cs hones hh (by omega)
    have hst : ((match (if c = i then some (⟨b, 0, none⟩ : Addr) else (some (⟨b, 0, none⟩ : Addr)).map (·.add (i * sz))) with | some a => storeCells a ((ys.take n').flatMap enc) 0 | none => pure () : Sem Unit)).run P w = .ok () w' := by
      by_cases hci : c = i
      · rw [if_pos hci]
        have hn0 : n' = 0 := by omega
        subst hn0
        simp only [List.take_zero, List.flatMap_nil] at h1 ⊢
        exact h1
      · rw [if_neg hci]
        simp only [Option.map_some, add_none, Nat.zero_add]
        exact h1
    unfold Does
    rw [if_pos (by simp [Region.wanted]), hexec w' (by
      have := run_copy (t0 := t0) (t1 := t1) (ty := ty) (el := el) (s2 := s2) (w := w) (w' := w') (P := P) hsub2 (ad := (if c = i then some (⟨b, 0, none⟩ : Addr) else (some (⟨b, 0, none⟩ : Addr)).map (·.add (i * sz)))) (m := xs.length - i) (c := c - i) (by rw [hne]; exact hst)
      rw [hne] at this
      exact this)]
    simp only [Nat.add_zero, hZ] at h2
    refine ⟨blk b (cs.take (i * sz) ++ (ys.take n').flatMap enc ++ cs.drop (i * sz + n' * sz)) T :: o1, ⟨_, rfl, ?_, rfl⟩, Sep.swap hs1 ?_ ?_ ?_ rfl h4⟩
    · have hlen' : (splice xs ys i).length = xs.length := by
        unfold splice; rw [hne]; simp only [List.length_append, List.length_take, List.length_drop]; omega
      refine ⟨henc, ⟨by rw [hlen']; exact hm.1, fun y hy cc hcc => ?_⟩, .inr ⟨b, c, _, by rw [hlen'], rfl, by rw [hlen']; exact hle, ?_, ?_⟩⟩
      · unfold splice at hy
        rcases List.mem_append.1 hy with hy | hy
        · rcases List.mem_append.1 hy with hy | hy
          · exact hm.2 y (List.mem_of_mem_take hy) cc hcc
          · exact hm2.2 y (List.mem_of_mem_take hy) cc hcc
        · exact hm.2 y (List.mem_of_mem_drop hy) cc hcc
      · simp only [List.length_append, List.length_take, List.length_drop, hZ]; omega
      · rw [hlen']
        unfold splice
        rw [hne, List.flatMap_append, List.flatMap_append, flat_take henc xs, flat_drop henc xs, ← ht, Nat.add_mul]
        rw [List.take_append, List.take_append]
        simp only [List.length_append, List.length_take, hZ]
        rw [List.take_of_length_le (l := cs.take (i * sz)) (by rw [List.length_take]; omega), List.take_of_length_le (l := (ys.take n').flatMap enc) (by rw [hZ]; omega)]
        congr 1
        · congr 1
          rw [List.take_take, Nat.min_eq_left (by omega)]
        · rw [List.drop_take]
          congr 1
          omega
    · exact fun x hx => none_blk (blk_none hx)
    · intro x ob hb
      obtain ⟨rfl, rfl⟩ := sing_some hb
      exact h2
    · exact fun x hx => h3 x (blk_none hx)
theorem Stp.copy {t0 t1 el T : TypeId} [u : Und P t0 (.slice el)] [z : TySize P el sz] {x y : Operand} {vd v2 : Value} {h2 : PHeap} {ys : List α} {i : Nat} {o1 : List PHeap} (hx : ev e x = some vd) (hd : vd = tailv v sz i) (hy : ev e y = some v2)
    [s : OArr v enc sz T h xs] [tk : Take h o o1] [s2 : Arr v2 enc sz h2 ys] [m : InM h2 o r] (hi : i ≤ xs.length) :
    Stp P ops ⟨d, .call ⟨.builtin .copy, #[x, y], #[t0, t1]⟩, ty, pos, aft, none⟩ e o r (fun v' o2 => ∃ h', v' = .int .i64 ((min ys.length (xs.length - i) : Nat) : Int) ∧ OArr v enc sz T h' (splice xs ys i) ∧ o2 = h' :: o1) := fun D a w he hs =>
  (Stp0.copy (tk := tk.more D) (m := m.more D) hx hd hy hi a w he hs).mono fun v w' ⟨o2, ⟨h', h1, h2, h3⟩, hs'⟩ => ⟨o2, ⟨h' :: o1, ⟨h', h1, h2, rfl⟩, by rw [h3]; exact List.Perm.swap _ _ _⟩, hs'⟩
end
section
variable {c : Cx} {ops : Array Oper} {rest : List Oper} {k : List Item} {e : Env} {o r : List PHeap} {d : Nat} {ty : TypeId} {pos : String} {aft : Array Edge}
variable {α : Type} {enc : α → List Value} {sz : Nat} {h : PHeap} {xs : List α} {v : Value}
theorem XO.copy {t0 t1 el T : TypeId} [u : Und c.P t0 (.slice el)] [z : TySize c.P el sz] {x y : Operand} {vd v2 : Value} {h2 : PHeap} {ys : List α} {i : Nat} {o1 : List PHeap} (hx : ev e x = some vd) (hd : vd = tailv v sz i) (hy : ev e y = some v2)
    [s : OArr v enc sz T h xs] [tk : Take h o o1] [s2 : Arr v2 enc sz h2 ys] [m : InM h2 o (c.B :: r)] (hi : i ≤ xs.length)
    (hn : ∀ h', OArr v enc sz T h' (splice xs ys i) → XO c ops rest k ((d, some (.int .i64 ((min ys.length (xs.length - i) : Nat) : Int))) :: e) (h' :: o1) r) :
    XO c ops (⟨some d, .call ⟨.builtin .copy, #[x, y], #[t0, t1]⟩, ty, pos, aft, none⟩ :: rest) k e o r :=
  XO.s (Stp.copy hx hd hy hi) fun v' o2 ⟨h', h1, h2, h3⟩ => by subst h1 h3; exact hn h' h2
variable {fl : List Nat} {f : List PHeap} {i0 : Nat} {bb : Bool} {tt uu : Plan}
theorem XT.copy {t0 t1 el T : TypeId} [u : Und c.P t0 (.slice el)] [z : TySize c.P el sz] {x y : Operand} {vd v2 : Value} {h2 : PHeap} {ys : List α} {i : Nat} {o1 : List PHeap}
    (hi0 : ops[i0]? = some ⟨some d, .call ⟨.builtin .copy, #[x, y], #[t0, t1]⟩, ty, pos, aft, none⟩) (hok : okOper c.N ⟨some d, .call ⟨.builtin .copy, #[x, y], #[t0, t1]⟩, ty, pos, aft, none⟩ = true)
    (hx : ev e x = some vd) (hd : vd = tailv v sz i) (hy : ev e y = some v2)
    [s : OArr v enc sz T h xs] [tk : Take h o o1] [s2 : Arr v2 enc sz h2 ys] [m : InM h2 o (c.B :: r)] (hi : i ≤ xs.length)
    (hn : ∀ h', OArr v enc sz T h' (splice xs ys i) → Keeps bb f (h' :: o1) ∧ XT c ops fl f k r tt ((d, some (.int .i64 ((min ys.length (xs.length - i) : Nat) : Int))) :: e) (h' :: o1)) (hu : XT c ops fl f k r uu e o) :
    XT c ops fl f k r (.br i0 bb tt uu) e o :=
  XT.s hi0 hok (Stp.copy hx hd hy hi) (fun v' o2 ⟨h', h1, h2, h3⟩ => by subst h1 h3; exact hn h' h2) hu
end
def cutv (v : Value) (sz i j : Nat) : Value := match v with
  | .slice ad n c => .slice (if c = i then ad else ad.map (·.add (i * sz))) (j - i) (c - i)
  | v => v
section
variable {P : Program} {ops : Array Oper} {e : Env} {o r : List PHeap} {d : Option Tmp} {ty : TypeId} {pos : String} {aft : Array Edge}
variable {α : Type} {enc : α → List Value} {sz : Nat} {h : PHeap} {xs : List α} {v : Value}
theorem Arr.cut (s : Arr v enc sz h xs) {i j : Nat} (hij : i ≤ j) (hj : j ≤ xs.length) : Arr (cutv v sz i j) enc sz h ((xs.drop i).take (j - i)) := ⟨by
  obtain ⟨henc, hm, ad, c, rfl, hle, hnn, hc⟩ := s.pf
  have hl : ((xs.drop i).take (j - i)).length = j - i := by simp; omega
  refine ⟨henc, ⟨by omega, fun y hy cc hcc => hm.2 y (List.mem_of_mem_drop (List.mem_of_mem_take hy)) cc hcc⟩, (if c = i then ad else ad.map (·.add (i * sz))), c - i, by rw [hl]; rfl, by omega, ?_, fun hp => ?_⟩
  · intro hnone
    split at hnone
    · rw [hnn hnone]; omega
    · cases ad with
      | none => rw [hnn rfl]; omega
      | some a => simp at hnone
  · obtain ⟨b, k, cs, T, fr, rfl, hb, hcs⟩ := hc (by omega)
    refine ⟨b, k + i * sz, cs, T, fr, ?_, hb, fun m n hm' hn => ?_⟩
    · rw [if_neg (by omega)]
      simp [add_none]
    · have := hcs (i + m) n (by omega) hn
      rw [Nat.add_mul, ← Nat.add_assoc] at this
      rw [this]
      congr 1
      rw [List.getElem?_take, if_pos (by omega), List.getElem?_drop]⟩
theorem Q.cut {t el : TypeId} [u : Und P t (.slice el)] [z : TySize P el sz] {x : Operand} {lo hi : Option Operand} {i j : Nat} (hx : ev e x = some v) [s : Arr v enc sz h xs] (hlo : Bd e 0 lo i) (hhi : Bd e xs.length hi j) (hij : i ≤ j) (hj : j ≤ xs.length) :
    Quiet P ops ⟨d, .slice t x lo hi none, ty, pos, aft, none⟩ e o r (cutv v sz i j) := .mk fun a w he _ => by
  obtain ⟨henc, hm, ad, c, rfl, hle, hnn, hc⟩ := s.pf
  have hrun : (Instr.sliceAt t (.slice ad xs.length c) (lo.map (evA a)) (hi.map (evA a)) none).run P w =
      .ok (.slice (if c = i then ad else ad.map (·.add (i * sz))) (j - i) (c - i)) w := by
    unfold Instr.sliceAt
    rw [bind_ok (u.pf w)]
    simp only
    unfold Instr.slice
    rw [bind_ok (u.pf w)]
    simp only
    have hb : (Instr.sliceBounds true xs.length c (lo.map (evA a)) (hi.map (evA a)) none).run P w = .ok (i, j, c) w := by
      unfold Instr.sliceBounds
      simp only [pure_bind]
      rcases Bd.run (P := P) he hhi c .sliceAcap (by omega) w with ⟨h1, h2⟩ | ⟨v1, h1, h2⟩
      · rw [h1, h2]
        simp only [pure_bind]
        rcases Bd.run (P := P) he hlo xs.length .sliceB (by omega) w with ⟨h3, h4⟩ | ⟨v3, h3, h4⟩
        · rw [h3, h4]; rfl
        · rw [h3]
          simp only [Option.isSome_none, Bool.false_eq_true, if_false]
          rw [bind_ok h4]; rfl
      · rw [h1]
        simp only [if_true]
        rw [bind_ok h2]
        rcases Bd.run (P := P) he hlo j .sliceB hij w with ⟨h3, h4⟩ | ⟨v3, h3, h4⟩
        · rw [h3, h4]; rfl
        · rw [h3]
          simp only [Option.isSome_none, Bool.false_eq_true, if_false]
          rw [bind_ok h4]; rfl
    rw [bind_ok hb]
    simp only
    rw [bind_ok (z.pf w)]
    rfl
  simp only [execOp, ev_rel he hx, Option.map_none]
  exact run_val hrun
end
end Go.X

/- Operations under a guard that is known to hold. No condition. -/
set_option linter.unusedSimpArgs false
set_option linter.unusedVariables false
namespace Go.X
section
variable {P : Program} {ops : Array Oper} {e : Env} {o r : List PHeap} {d : Option Tmp} {ty : TypeId} {pos : String} {aft : Array Edge}
theorem Stp.want {op : Op} {j gt : Nat} {want b : Bool} {Ψ : Value → List PHeap → Prop} (hj : (ops[j]?).bind (·.dst) = some gt) (hg : find e gt = some (.bool b)) (hb : b = want)
    (s : Stp P ops ⟨d, op, ty, pos, aft, none⟩ e o r Ψ) : Stp P ops ⟨d, op, ty, pos, aft, some (j, want)⟩ e o r Ψ := fun D a w he hs => by
  have h := s D a w he hs
  have hw := wanted_guard (d := d) (ty := ty) (pos := pos) (aft := aft) (want := want) (op := op) hj (he gt _ hg)
  have hx : execOp (evA a) (⟨d, op, ty, pos, aft, some (j, want)⟩ : Oper) = execOp (evA a) (⟨d, op, ty, pos, aft, none⟩ : Oper) := rfl
  unfold Does at h ⊢
  rw [hw, hx, if_pos (by simp [hb])]
  rwa [if_pos (by simp [Region.wanted])] at h
end
section
variable {c : Cx} {ops : Array Oper} {rest : List Oper} {k : List Item} {e : Env} {o r : List PHeap} {d : Nat} {ty : TypeId} {pos : String} {aft : Array Edge}
variable {α : Type} {enc : α → List Value} {sz : Nat} {h : PHeap} {xs : List α} {v : Value}
theorem XO.litG {t el : TypeId} [u : Und c.P t (.slice el)] [z : TySize c.P el sz] {zs : List Value} [zz : Zero c.P el zs] {n : Nat} {l : List (Nat × Operand)} {j gt : Nat} {want b : Bool} (zl cs : List Value) (xs : List α) (enc : α → List Value)
    (hj : (ops[j]?).bind (·.dst) = some gt) (hg : find e gt = some (.bool b)) (hb : b = want)
    (hzs : zs.length = sz) (hsz : Nat.blt 0 sz = true) (hn : Nat.ble (n * sz) 16777216 = true) (hzl : (List.replicate n zs).flatten = zl) (hf : Fill e (fun i => some (i * sz, sz)) l zl cs)
    (henc : ∀ x, (enc x).length = sz) (hcs : xs.flatMap enc = cs) (hxn : xs.length = n) (ho : Ones cs) (hle : Nat.ble n 16777216 = true)
    (hnx : ∀ v' h', OArr v' enc sz el h' xs → XO c ops rest k ((d, some v') :: e) (h' :: o) r) :
    XO c ops (⟨some d, .buildSlice t n l.toArray, ty, pos, aft, some (j, want)⟩ :: rest) k e o r :=
  XO.s (Stp.want hj hg hb ((Makes.lit cs hzs hsz hn (by rw [hzl]; exact hf)).stp _ _)) fun _ _ ⟨b, hv, ho'⟩ => by subst hv ho'; exact hnx _ _ (OArr.lit xs enc henc hcs hxn ho hle)
end
end Go.X

/- From the reading of arguments to slices that are read; what a call leaves as it was. No condition. -/
set_option linter.unusedSimpArgs false
set_option linter.unusedVariables false
namespace Go.X
open Go.ChangeShapes Go.WideShapes Go.Deep
def heapOf (w : World) : PHeap := ⟨fun b => w.heap[b]?, some (mt w)⟩
theorem heap_sep (w : World) : Sep [] [heapOf w] w where
  pw := List.Pairwise.nil
  dr := fun h hh => by cases hh
  so := fun h hh => by cases hh
  sr := fun g hg b ob hb => by
    simp only [List.mem_singleton] at hg; subst hg; exact hb
  no := fun h hh => by cases hh
  sm := fun g hg m hm => by
    simp only [List.mem_singleton] at hg; subst hg; exact Option.some.inj hm
structure Stays (W w' : World) : Prop where
  os : w'.os = W.os
  output : w'.output = W.output
  block : ∀ k, k < W.heap.size → w'.heap[k]? = W.heap[k]?
theorem stays_of {o : List PHeap} {W w' : World} (s : Sep o [heapOf W] w') : Stays W w' := by
  have h1 := s.sm _ List.mem_cons_self _ rfl
  simp only [mt, Prod.mk.injEq] at h1
  refine ⟨h1.1, h1.2, fun k hk => ?_⟩
  have h2 : W.heap[k]? = some (W.heap[k]'hk) := Array.getElem?_eq_getElem hk
  rw [h2]
  exact s.sr _ List.mem_cons_self k _ h2
theorem Stays.same {W w' : World} (h : Stays W w') {p : MemPlace} (hp : p.block < W.heap.size) : W.sameAt w' p := by
  cases p with
  | cell b o => exact World.cell?_of_block (w := W) (h.block b hp)
  | map b => exact h.block b hp
theorem Stays.frame {W w' : World} (h : Stays W w') (may : MemPlace → Prop) : W.keptBut w' may := by
  refine ⟨h.os, h.output, fun i hi => ?_⟩
  rw [h.block i hi]
  split <;> simp_all
theorem Stays.trod {H : Type} {enc : TypeId × Value → H} {P : Program} {t : TypeId} (hl : laidOutB P = true) (hr : P.readableRec t = true) (hrow : t < P.types.size) {W W' : World} {v : Value} {d : DataW H} {ps : List MemPlace}
    (h : DataW.Trod enc P W 0 (fun _ => true) true t v d ps) (hb : Stays W W') (hlt : ∀ x ∈ ps, x.block < W.heap.size) :
    DataW.Trod enc P W' 0 (fun b => decide (b < W.heap.size)) true t v d ps :=
  WideElems.Trod_stays hl hr hrow h (fun x hx => hb.same (hlt x hx)) (fun x hx => by simpa using hlt x hx)
theorem Stays.refl (W : World) : Stays W W := ⟨rfl, rfl, fun _ _ => rfl⟩
theorem calls_of_spec {P : Program} {f : FuncId} {args : Array Value} {hr : List PHeap} {W : World} {R : Value → List PHeap → Prop} (h : Spec P f args [] hr R) (hh : ∀ h ∈ hr, h = heapOf W) :
    Calls P f args W fun e w' => ∃ v hs, e = .returned v ∧ R v hs ∧ Stays W w' :=
  (h [] [heapOf W] W (heap_sep W) (fun x hx => .inr (by rw [hh x hx]; exact List.mem_cons_self))).mono fun e w' ⟨v, hs, he, hR, hS⟩ => ⟨v, hs, he, hR, stays_of (o := hs ++ []) hS⟩

theorem cell_heap {W : World} {a : Addr} {v : Value} (h : W.cell? a = some v) : ∃ cs T fr, a.spot = none ∧ W.heap[a.block]? = some (.cells cs T fr) ∧ cs[a.off]? = some v := by
  have hs := World.cell?_spot h
  unfold World.cell? at h
  split at h
  · rename_i c T fr hb
    rw [if_neg (by simp [hs])] at h
    exact ⟨c, T, fr, hs, hb, h⟩
  · cases h
theorem arr_one {α : Type} {W : World} {enc : α → List Value} (henc : ∀ x, ∃ u, enc x = [u] ∧ one u = true) {a : Addr} {len cap : Nat} {xs : List α} (hlen : xs.length = len) (hc : len ≤ cap) (h47 : len ≤ 140737488355328)
    (hcell : ∀ i (hi : i < xs.length), ∀ u, enc xs[i] = [u] → W.cell? (a.add i) = some u) : Arr (.slice (some a) len cap) enc 1 (heapOf W) xs := by
  subst hlen
  refine ⟨fun x => by obtain ⟨u, hu, _⟩ := henc x; rw [hu]; rfl, ⟨h47, fun x _ c hc => by obtain ⟨u, hu, ho⟩ := henc x; rw [hu] at hc; simp only [List.mem_singleton] at hc; subst hc; exact ho⟩, some a, cap, rfl, hc, (fun h => by cases h), fun hp => ?_⟩
  obtain ⟨u0, hu0, _⟩ := henc (xs[0]'hp)
  have h0 := hcell 0 hp u0 hu0
  obtain ⟨b, k, sp⟩ := a
  obtain ⟨cs, T, fr, hsp, hb, _⟩ := cell_heap h0
  have hsp' : sp = none := by simpa [Addr.add] using hsp
  subst hsp'
  have hb' : W.heap[b]? = some (.cells cs T fr) := by simpa [Addr.add] using hb
  refine ⟨b, k, cs, T, fr, rfl, hb', fun i j hi hj => ?_⟩
  obtain ⟨u, hu, _⟩ := henc (xs[i]'hi)
  have hi' := hcell i hi u hu
  rw [add_none] at hi'
  obtain ⟨cs2, T2, fr2, _, hb2, hc2⟩ := cell_heap hi'
  have hb2' : W.heap[b]? = some (.cells cs2 T2 fr2) := hb2
  rw [hb'] at hb2'
  simp only [Option.some.injEq, Obj.cells.injEq] at hb2'
  obtain ⟨rfl, rfl, rfl⟩ := hb2'
  have hj0 : j = 0 := by omega
  subst hj0
  rw [List.getElem?_eq_getElem hi, Option.bind_some, hu]
  simpa using hc2
section
variable {H : Type} {enc : TypeId × Value → H} {P : Program} {w : World} {held : Bool}
theorem arr_ints {t e : TypeId} {fuel : Nat} {cs : List Value} {x : DataW H × List MemPlace} (ht : P.underlying t = some (.slice e)) (he : P.underlying e = some (.int .i64)) (hc : P.cellsOf e = 1)
    (h : DataW.trod enc P w 0 (fun _ => true) held fuel t cs = some x) (hw : ∀ elems spare, x.1 = .slice elems spare → elems.length + spare.length ≤ 140737488355328) : ∃ v xs, cs = [v] ∧ Arr v encI 1 (heapOf w) xs := by
  rcases open_ints ht he hc h with ⟨rfl, _⟩ | ⟨a, len, cap, zs, rfl, _, hl, hm, hz, hx, hcell, hwz⟩
  · exact ⟨_, [], rfl, Arr.nil (fun _ => rfl)⟩
  · have hz' : zs.length = cap := by simpa using hz
    have hb : len ≤ 140737488355328 := by
      have := hw _ _ (by rw [hx])
      simp [lits] at this
      omega
    refine ⟨_, zs.take len, rfl, arr_one (fun x => ⟨_, rfl, rfl⟩) (by simp; omega) hl hb fun i hi u hu => ?_⟩
    have hi2 : i < zs.length := by simp at hi; omega
    rw [hcell i hi2]
    simp only [encI, List.cons.injEq, and_true] at hu
    rw [← hu]
    simp [List.getD_eq_getElem?_getD, hi2]
theorem arr_bools {t e : TypeId} {fuel : Nat} {cs : List Value} {x : DataW H × List MemPlace} (ht : P.underlying t = some (.slice e)) (he : P.underlying e = some .bool) (hc : P.cellsOf e = 1)
    (h : DataW.trod enc P w 0 (fun _ => true) held fuel t cs = some x) (hw : ∀ elems spare, x.1 = .slice elems spare → elems.length + spare.length ≤ 140737488355328) : ∃ v xs, cs = [v] ∧ Arr v encB 1 (heapOf w) xs := by
  rcases open_bools ht he hc h with ⟨rfl, _⟩ | ⟨a, len, cap, B, rfl, _, hl, hm, hx, hcell⟩
  · exact ⟨_, [], rfl, Arr.nil (fun _ => rfl)⟩
  · have hb : len ≤ 140737488355328 := by
      rcases open_slice ht h with ⟨h1, _⟩ | ⟨a', len', cap', m, n, D, Pl, h1, _, hl', _, hmm, hx', _⟩
      · cases h1
      · simp only [List.cons.injEq, Value.slice.injEq, Option.some.injEq, and_true] at h1
        obtain ⟨rfl, rfl, rfl⟩ := h1
        have := hw _ _ (by rw [hx'])
        simp at this
        omega
    refine ⟨_, (List.range len).map B, rfl, arr_one (fun x => ⟨_, rfl, rfl⟩) (by simp) hl hb fun i hi u hu => ?_⟩
    have hi2 : i < len := by simpa using hi
    rw [hcell i (by omega)]
    simp only [encB, List.cons.injEq, and_true] at hu
    rw [← hu]
    simp
end
end Go.X

/- Arguments of rows opened: small numbers, slices of bytes. No condition. -/
set_option linter.unusedSimpArgs false
set_option linter.unusedVariables false
namespace Go.X
open Go.ChangeShapes Go.WideShapes Go.Deep
section
variable {H : Type} {enc : TypeId × Value → H} {P : Program} {W : World} {base : Nat} {v : Value} {d : DataW H} {ps : List MemPlace}
theorem open_u8 {t : TypeId} (ht : P.underlying t = some (.int .u8)) (hv : Value.okWide P W .any base t v) (h : DataW.Trod enc P W 0 (fun _ => true) true t v d ps) :
    ∃ n : Nat, n < 256 ∧ v = .int .u8 (n : Nat) ∧ d = .lit (.int .u8 (n : Nat)) ∧ ps = [] ∧ (Lit.int .u8 (n : Nat)).wf = true := by
  obtain ⟨m, rfl, rfl, rfl, hw⟩ := open_int ht hv h
  have := bounds_u8 hw
  obtain ⟨n, rfl⟩ := Int.eq_ofNat_of_zero_le this.1
  exact ⟨n, by omega, rfl, rfl, rfl, hw⟩
theorem open_u16 {t : TypeId} (ht : P.underlying t = some (.int .u16)) (hv : Value.okWide P W .any base t v) (h : DataW.Trod enc P W 0 (fun _ => true) true t v d ps) :
    ∃ n : Nat, n < 65536 ∧ v = .int .u16 (n : Nat) ∧ d = .lit (.int .u16 (n : Nat)) ∧ ps = [] ∧ (Lit.int .u16 (n : Nat)).wf = true := by
  obtain ⟨m, rfl, rfl, rfl, hw⟩ := open_int ht hv h
  have := bounds_u16 hw
  obtain ⟨n, rfl⟩ := Int.eq_ofNat_of_zero_le this.1
  exact ⟨n, by omega, rfl, rfl, rfl, hw⟩
theorem bounds_i64 {n : Int} (h : (Lit.int .i64 n).wf = true) : in64 n := by
  simp [Lit.wf, IntKind.min, IntKind.max, IntKind.signed, IntKind.bits] at h
  exact ⟨by omega, by omega⟩
theorem open_i64 {t : TypeId} (ht : P.underlying t = some (.int .i64)) (hv : Value.okWide P W .any base t v) (h : DataW.Trod enc P W 0 (fun _ => true) true t v d ps) :
    ∃ n : Int, in64 n ∧ v = .int .i64 n ∧ d = .lit (.int .i64 n) ∧ ps = [] ∧ (Lit.int .i64 n).wf = true := by
  obtain ⟨m, rfl, rfl, rfl, hw⟩ := open_int ht hv h
  exact ⟨m, bounds_i64 hw, rfl, rfl, rfl, hw⟩
theorem arr_u8s {held : Bool} {t e : TypeId} {fuel : Nat} {cs : List Value} {x : DataW H × List MemPlace} (ht : P.underlying t = some (.slice e)) (he : P.underlying e = some (.int .u8)) (hc : P.cellsOf e = 1)
    (h : DataW.trod enc P W 0 (fun _ => true) held fuel t cs = some x) (hw : ∀ elems spare, x.1 = .slice elems spare → elems.length + spare.length ≤ 140737488355328) : ∃ v xs, cs = [v] ∧ Arr v encU8 1 (heapOf W) xs := by
  rcases open_ints ht he hc h with ⟨rfl, _⟩ | ⟨a, len, cap, zs, rfl, _, hl, hm, hz, hx, hcell, hwz⟩
  · exact ⟨_, [], rfl, Arr.nil (fun _ => rfl)⟩
  · have hz' : zs.length = cap := by simpa using hz
    have hb : len ≤ 140737488355328 := by
      have := hw _ _ (by rw [hx])
      simp [lits] at this
      omega
    refine ⟨_, (zs.take len).map fun n => UInt8.ofNat n.toNat, rfl, arr_one (fun x => ⟨_, rfl, rfl⟩) (by simp; omega) hl hb fun i hi u hu => ?_⟩
    have hi2 : i < zs.length := by simp at hi; omega
    rw [hcell i hi2]
    simp only [encU8, List.cons.injEq, and_true] at hu
    rw [← hu]
    have hb := range_u8 hwz i
    have e : zs[i]?.getD 0 = zs[i] := by simp [hi2]
    rw [e] at hb
    simp only [List.getElem_map, List.getElem_take, List.getD_eq_getElem?_getD, e, UInt8.toNat_ofNat']
    congr 2
    omega
theorem slice_weight {t e : TypeId} (ht : P.underlying t = some (.slice e)) (hb : 0 < P.bytesOf e) (hw : ∀ n ∈ d.weights P t, n ≤ reachBytes) : ∀ elems spare, d = .slice elems spare → elems.length + spare.length ≤ 140737488355328 := by
  rintro elems spare rfl
  have h := hw ((elems.length + spare.length) * P.bytesOf e) (by simp [DataW.weights, ht])
  have h1 : (elems.length + spare.length) * 1 ≤ (elems.length + spare.length) * P.bytesOf e := Nat.mul_le_mul_left _ hb
  have h2 : reachBytes = 140737488351232 := rfl
  omega
theorem slice_cells {t e : TypeId} (ht : P.underlying t = some (.slice e)) (hv : Value.okWide P W .any base t v) : v.cells.toList = [v] := by
  obtain ⟨a, len, cap, rfl⟩ := okWide_slice ht hv
  rfl
theorem open_u8s {t e : TypeId} (ht : P.underlying t = some (.slice e)) (he : P.underlying e = some (.int .u8)) (hc : P.cellsOf e = 1) (hb : 0 < P.bytesOf e) (hv : Value.okWide P W .any base t v)
    (h : DataW.Trod enc P W 0 (fun _ => true) true t v d ps) (hw : ∀ n ∈ d.weights P t, n ≤ reachBytes) : ∃ xs : List UInt8, Arr v encU8 1 (heapOf W) xs := by
  obtain ⟨fuel, hf⟩ := h
  rw [slice_cells ht hv] at hf
  obtain ⟨v', xs, hcs, hA⟩ := arr_u8s ht he hc hf (slice_weight ht hb hw)
  simp only [List.cons.injEq, and_true] at hcs
  subst hcs
  exact ⟨xs, hA⟩
theorem open_i64s {t e : TypeId} (ht : P.underlying t = some (.slice e)) (he : P.underlying e = some (.int .i64)) (hc : P.cellsOf e = 1) (hb : 0 < P.bytesOf e) (hv : Value.okWide P W .any base t v)
    (h : DataW.Trod enc P W 0 (fun _ => true) true t v d ps) (hw : ∀ n ∈ d.weights P t, n ≤ reachBytes) : ∃ xs : List Int, Arr v encI 1 (heapOf W) xs := by
  obtain ⟨fuel, hf⟩ := h
  rw [slice_cells ht hv] at hf
  obtain ⟨v', xs, hcs, hA⟩ := arr_ints ht he hc hf (slice_weight ht hb hw)
  simp only [List.cons.injEq, and_true] at hcs
  subst hcs
  exact ⟨xs, hA⟩
end
end Go.X

/- An argument that is a list of lists of bytes, opened. No condition. -/
set_option linter.unusedSimpArgs false
set_option linter.unusedVariables false
namespace Go.X
open Go.ChangeShapes Go.WideShapes Go.Deep
theorem arr_vals {W : World} {a : Addr} {len cap : Nat} {xs : List Value} (hone : ∀ x ∈ xs, one x = true) (hlen : xs.length = len) (hc : len ≤ cap) (h47 : len ≤ 140737488355328)
    (hcell : ∀ i (hi : i < xs.length), W.cell? (a.add i) = some xs[i]) : Arr (.slice (some a) len cap) encV 1 (heapOf W) xs := by
  subst hlen
  refine ⟨fun x => rfl, ⟨h47, fun x hx c hc => by simp only [encV, List.mem_singleton] at hc; subst hc; exact hone _ hx⟩, some a, cap, rfl, hc, (fun h => by cases h), fun hp => ?_⟩
  have h0 := hcell 0 hp
  obtain ⟨b, k, sp⟩ := a
  obtain ⟨cs, T, fr, hsp, hb, _⟩ := cell_heap h0
  have hsp' : sp = none := by simpa [Addr.add] using hsp
  subst hsp'
  have hb' : W.heap[b]? = some (.cells cs T fr) := by simpa [Addr.add] using hb
  refine ⟨b, k, cs, T, fr, rfl, hb', fun i j hi hj => ?_⟩
  have hi' := hcell i hi
  rw [add_none] at hi'
  obtain ⟨cs2, T2, fr2, _, hb2, hc2⟩ := cell_heap hi'
  have hb2' : W.heap[b]? = some (.cells cs2 T2 fr2) := hb2
  rw [hb'] at hb2'
  simp only [Option.some.injEq, Obj.cells.injEq] at hb2'
  obtain ⟨rfl, rfl, rfl⟩ := hb2'
  have hj0 : j = 0 := by omega
  subst hj0
  rw [List.getElem?_eq_getElem hi, Option.bind_some]
  simpa [encV] using hc2
section
variable {H : Type} {enc : TypeId × Value → H} {P : Program} {W : World} {base : Nat} {v : Value} {d : DataW H} {ps : List MemPlace}
theorem weights_all {e : TypeId} : ∀ {l : List (DataW H)} {d : DataW H}, d ∈ l → ∀ n ∈ d.weights P e, n ∈ DataW.weightsAll P e l
  | x :: l, d, hd, n, hn => by
    rw [DataW.weightsAll, List.mem_append]
    rcases List.mem_cons.1 hd with rfl | hd
    · exact .inl hn
    · exact .inr (weights_all hd n hn)
theorem open_u8ss {t e q : TypeId} (ht : P.underlying t = some (.slice e)) (he : P.underlying e = some (.slice q)) (hq : P.underlying q = some (.int .u8)) (ce : P.cellsOf e = 1) (be : 0 < P.bytesOf e) (cq : P.cellsOf q = 1) (bq : 0 < P.bytesOf q)
    (hv : Value.okWide P W .any base t v) (h : DataW.Trod enc P W 0 (fun _ => true) true t v d ps) (hw : ∀ n ∈ d.weights P t, n ≤ reachBytes) :
    ∃ us : List Value, Arr v encV 1 (heapOf W) us ∧ ∀ u ∈ us, ∃ x, Arr u encU8 1 (heapOf W) x := by
  obtain ⟨fuel, hf⟩ := h
  rw [slice_cells ht hv] at hf
  have hwt := slice_weight ht be hw
  rcases open_slice1 ht ce hf with ⟨h1, h2⟩ | ⟨a, len, cap, m, n, V, D, Pl, h1, _, hl, hm, hmm, hx, hr⟩
  · simp only [List.cons.injEq, and_true] at h1
    subst h1
    exact ⟨[], Arr.nil (fun _ => rfl), fun i hi => by cases hi⟩
  · simp only [List.cons.injEq, and_true] at h1
    subst h1
    simp only [if_true] at hmm
    subst hmm
    simp only [Prod.mk.injEq] at hx
    obtain ⟨rfl, _⟩ := hx
    have hb : len ≤ 140737488355328 := by
      have := hwt _ _ rfl
      simp at this
      omega
    have hrow : ∀ r, r < len → ∃ x, Arr (V r) encU8 1 (heapOf W) x := fun r hr2 => by
      obtain ⟨_, h3⟩ := hr r (by omega)
      obtain ⟨v', xs, hcs, hA⟩ := arr_u8s he hq cq h3 (slice_weight he bq fun n hn => hw n (by
        simp only [DataW.weights, ht]
        refine List.mem_cons_of_mem _ (List.mem_append_left _ (weights_all (d := D r) (List.mem_map.2 ⟨r, List.mem_range.2 hr2, rfl⟩) n hn))))
      simp only [List.cons.injEq, and_true] at hcs
      subst hcs
      exact ⟨xs, hA⟩
    refine ⟨(List.range len).map V, arr_vals (fun x hx => ?_) (by simp) hl hb (fun i hi => ?_), fun i hi => ?_⟩
    · obtain ⟨r, hr2, rfl⟩ := List.mem_map.1 hx
      obtain ⟨x, hA⟩ := hrow r (List.mem_range.1 hr2)
      exact (Arr.one (s := hA)).pf.2
    · simp only [List.length_map, List.length_range] at hi
      simp only [List.getElem_map, List.getElem_range]
      exact (hr i (by omega)).1
    · obtain ⟨r, hr2, rfl⟩ := List.mem_map.1 hi
      exact hrow r (List.mem_range.1 hr2)
end
end Go.X

/- Guards within guards. No condition. -/
set_option linter.unusedSimpArgs false
set_option linter.unusedVariables false
namespace Go.X
theorem bpT {b : Bool} {p : Prop} [t : BoolP b p] (h : b = true) : p := t.pf.1 h
theorem bpF {b : Bool} {p : Prop} [t : BoolP b p] (h : b = false) : ¬ p := fun hp => by rw [t.pf.2 hp] at h; cases h
theorem wanted_val {ops : Array Oper} {d : Option Tmp} {op : Op} {ty : TypeId} {pos : String} {aft : Array Edge} {j : Nat} {want : Bool} {g : Nat} {a : Array Value} {v : Value} (hj : (ops[j]?).bind (·.dst) = some g) (hv : a.getD g undef = v) (hn : v ≠ .bool want) :
    Region.wanted ⟨d, op, ty, pos, aft, some (j, want)⟩ (yielded ops a) = false := by
  have hy : yielded ops a j ≠ some want := by
    unfold yielded
    rw [hj]
    simp only [Option.bind_some]
    rcases Nat.lt_or_ge g a.size with hlt | hge
    · have e1 : a[g]? = some a[g] := Array.getElem?_eq_getElem hlt
      have e2 : a[g] = v := by simpa [hlt] using hv
      rw [e1, e2]
      intro h
      cases v <;> simp_all
    · rw [Array.getElem?_eq_none hge]
      simp
  simp only [Region.wanted]
  simpa using hy
/-- What the value at g tells: φ, or not. -/
def Tells (e : Env) (g : Nat) (want : Bool) (φ : Prop) : Prop := ∃ v, find e g = some v ∧ (φ → v = .bool want) ∧ (¬ φ → v ≠ .bool want)
theorem undef_ne {b : Bool} : undef ≠ .bool b := by simp [undef]
theorem Tells.d1 {e : Env} {g : Nat} {want b : Bool} (h : find e g = some (.bool b)) : Tells e g want (b = want) :=
  ⟨_, h, fun hb => by rw [hb], fun hb hv => hb (by simpa using hv)⟩
theorem Tells.d2 {e : Env} {g : Nat} {want b b1 w1 : Bool} (h : find e g = some (lz b1 w1 (.bool b))) : Tells e g want (b1 = w1 ∧ b = want) :=
  ⟨_, h, fun ⟨h1, h2⟩ => by simp [lz, h1, h2], fun hn hv => by
    unfold lz at hv
    split at hv
    · exact hn ⟨‹_›, by simpa using hv⟩
    · exact undef_ne hv⟩
theorem Tells.d3 {e : Env} {g : Nat} {want b b1 w1 b2 w2 : Bool} (h : find e g = some (lz b1 w1 (lz b2 w2 (.bool b)))) : Tells e g want (b1 = w1 ∧ b2 = w2 ∧ b = want) :=
  ⟨_, h, fun ⟨h1, h2, h3⟩ => by simp [lz, h1, h2, h3], fun hn hv => by
    unfold lz at hv
    split at hv
    · split at hv
      · exact hn ⟨‹_›, ‹_›, by simpa using hv⟩
      · exact undef_ne hv
    · exact undef_ne hv⟩
section
variable {P : Program} {ops : Array Oper} {e : Env} {o r : List PHeap} {d : Option Tmp} {ty : TypeId} {pos : String} {aft : Array Edge}
theorem Tells.no {φ : Prop} {j : Nat} {want : Bool} {g : Nat} {op : Op} {a : Array Value} (hj : (ops[j]?).bind (·.dst) = some g) (t : Tells e g want φ) (he : ERel e a) (hn : ¬ φ) :
    Region.wanted ⟨d, op, ty, pos, aft, some (j, want)⟩ (yielded ops a) = false := by
  obtain ⟨v, h1, _, h3⟩ := t
  exact wanted_val hj (he _ _ h1) (h3 hn)
theorem Tells.yes {φ : Prop} {j : Nat} {want : Bool} {g : Nat} {op : Op} {a : Array Value} (hj : (ops[j]?).bind (·.dst) = some g) (t : Tells e g want φ) (he : ERel e a) (hn : φ) :
    Region.wanted ⟨d, op, ty, pos, aft, some (j, want)⟩ (yielded ops a) = true := by
  obtain ⟨v, h1, h2, _⟩ := t
  have := he _ _ h1
  rw [h2 hn] at this
  rw [wanted_guard hj this]
  simp
theorem Quiet.tells {φ : Prop} {op : Op} {v v' : Value} {j : Nat} {want : Bool} {g : Nat} (hj : (ops[j]?).bind (·.dst) = some g) (t : Tells e g want φ) (h1 : φ → v' = v) (h2 : ¬ φ → v' = undef)
    (h : φ → Quiet P ops ⟨d, op, ty, pos, aft, none⟩ e o r v) : Quiet P ops ⟨d, op, ty, pos, aft, some (j, want)⟩ e o r v' := by
  intro a w he hr
  by_cases hp : φ
  · rcases h hp a w he hr with ⟨_, h3⟩ | ⟨h3, _⟩
    · left
      refine ⟨t.yes hj he hp, ?_⟩
      rw [h1 hp]
      exact h3
    · simp [Region.wanted] at h3
  · exact .inr ⟨t.no hj he hp, h2 hp⟩
theorem Quiet.guard2 {op : Op} {v : Value} {j : Nat} {want b b1 w1 : Bool} {g : Nat} (hj : (ops[j]?).bind (·.dst) = some g) (hg : find e g = some (lz b1 w1 (.bool b)))
    (h : b1 = w1 → b = want → Quiet P ops ⟨d, op, ty, pos, aft, none⟩ e o r v) : Quiet P ops ⟨d, op, ty, pos, aft, some (j, want)⟩ e o r (lz b1 w1 (lz b want v)) :=
  Quiet.tells hj (.d2 hg) (fun ⟨h1, h2⟩ => by simp [lz, h1, h2]) (fun hn => by
    unfold lz
    split
    · split
      · exact absurd ⟨‹_›, ‹_›⟩ hn
      · rfl
    · rfl) (fun ⟨h1, h2⟩ => h h1 h2)
theorem Quiet.guard3 {op : Op} {v : Value} {j : Nat} {want b b1 w1 b2 w2 : Bool} {g : Nat} (hj : (ops[j]?).bind (·.dst) = some g) (hg : find e g = some (lz b1 w1 (lz b2 w2 (.bool b))))
    (h : b1 = w1 → b2 = w2 → b = want → Quiet P ops ⟨d, op, ty, pos, aft, none⟩ e o r v) : Quiet P ops ⟨d, op, ty, pos, aft, some (j, want)⟩ e o r (lz b1 w1 (lz b2 w2 (lz b want v))) :=
  Quiet.tells hj (.d3 hg) (fun ⟨h1, h2, h3⟩ => by simp [lz, h1, h2, h3]) (fun hn => by
    unfold lz
    split
    · split
      · split
        · exact absurd ⟨‹_›, ‹_›, ‹_›⟩ hn
        · rfl
      · rfl
    · rfl) (fun ⟨h1, h2, h3⟩ => h h1 h2 h3)
/-- A call of a function value that only computes, under guards. -/
theorem Stp.vtells {φ : Prop} {x : Operand} {l : List Operand} {tys : Array TypeId} {y : Value} {vs : List Value} {Hr : List PHeap} {u u' : Value} {j : Nat} {want : Bool} {g : Nat}
    (hj : (ops[j]?).bind (·.dst) = some g) (t : Tells e g want φ) (h1 : φ → u' = u) (h2 : ¬ φ → u' = undef) (hx : φ → ev e x = some y) (hl : φ → EvL e l vs) (hS : φ → VSpec P y vs [] Hr (fun v hs => v = u ∧ hs = [])) [al : AllIn Hr o r] :
    Stp P ops ⟨d, .call ⟨.value x, l.toArray, tys⟩, ty, pos, aft, some (j, want)⟩ e o r (fun v o2 => v = u' ∧ o2 = o) := fun D a w he hs => by
  by_cases hp : φ
  · have hw := t.yes (d := d) (ty := ty) (pos := pos) (aft := aft) (op := .call ⟨.value x, l.toArray, tys⟩) hj he hp
    have hx' : (execOp (evA a) (⟨d, .call ⟨.value x, l.toArray, tys⟩, ty, pos, aft, some (j, want)⟩ : Oper)) = callv y vs.toArray := by
      simp only [execOp, resolve, ev_rel he (hx hp), List.map_toArray, (hl hp).rel he, callv]
    have h := hS hp (D :: o) r w hs (al.more D).pf
    unfold Does
    rw [hw, if_pos rfl, hx']
    unfold NDoes at h
    split at h <;> rename_i heq
    · rw [heq]
      refine h.mono ?_
      rintro e' w' ⟨v, rfl, hs', ⟨rfl, rfl⟩, hS'⟩
      exact ⟨v, rfl, D :: o, ⟨o, ⟨(h1 hp).symm, rfl⟩, List.Perm.refl _⟩, hS'⟩
    · rw [heq]
      intro c0 cs
      obtain ⟨v, w', ⟨hs', ⟨rfl, rfl⟩, hS'⟩, st⟩ := h c0 cs
      exact ⟨v, w', ⟨D :: o, ⟨o, ⟨(h1 hp).symm, rfl⟩, List.Perm.refl _⟩, hS'⟩, st⟩
    · exact h.elim
  · unfold Does
    rw [t.no hj he hp]
    exact ⟨D :: o, ⟨o, ⟨(h2 hp).symm, rfl⟩, List.Perm.refl _⟩, hs⟩
end
section
variable {c : Cx} {ops : Array Oper} {rest : List Oper} {k : List Item} {e : Env} {o r : List PHeap} {d : Nat} {ty : TypeId} {pos : String} {aft : Array Edge}
variable {fl : List Nat} {f : List PHeap} {i0 : Nat} {bb : Bool} {tt uu : Plan}
section
variable {x : Operand} {l : List Operand} {tys : Array TypeId} {y : Value} {vs : List Value} {Hr : List PHeap} {u : Value} {j g : Nat} {want b b1 w1 b2 w2 : Bool}
theorem XO.vg1 (hj : (ops[j]?).bind (·.dst) = some g) (hg : find e g = some (.bool b)) (hx : b = want → ev e x = some y) (hl : b = want → EvL e l vs)
    (hS : b = want → VSpec c.P y vs [] Hr (fun v hs => v = u ∧ hs = [])) [al : AllIn Hr o (c.B :: r)] (h : XO c ops rest k ((d, some (lz b want u)) :: e) o r) :
    XO c ops (⟨some d, .call ⟨.value x, l.toArray, tys⟩, ty, pos, aft, some (j, want)⟩ :: rest) k e o r :=
  XO.s (Stp.vtells hj (.d1 hg) (u' := lz b want u) (fun h => by simp [lz, h]) (fun h => by simp [lz, h]) hx hl hS) fun v o2 ⟨h1, h2⟩ => by subst h1 h2; exact h
theorem XO.vg2 (hj : (ops[j]?).bind (·.dst) = some g) (hg : find e g = some (lz b1 w1 (.bool b))) (hx : b1 = w1 → b = want → ev e x = some y) (hl : b1 = w1 → b = want → EvL e l vs)
    (hS : b1 = w1 → b = want → VSpec c.P y vs [] Hr (fun v hs => v = u ∧ hs = [])) [al : AllIn Hr o (c.B :: r)] (h : XO c ops rest k ((d, some (lz b1 w1 (lz b want u))) :: e) o r) :
    XO c ops (⟨some d, .call ⟨.value x, l.toArray, tys⟩, ty, pos, aft, some (j, want)⟩ :: rest) k e o r :=
  XO.s (Stp.vtells hj (.d2 hg) (u' := lz b1 w1 (lz b want u)) (fun h => by simp [lz, h.1, h.2]) (fun h => by
    unfold lz
    split
    · split
      · exact absurd ⟨‹_›, ‹_›⟩ h
      · rfl
    · rfl) (fun h => hx h.1 h.2) (fun h => hl h.1 h.2) (fun h => hS h.1 h.2)) fun v o2 ⟨h1, h2⟩ => by subst h1 h2; exact h
theorem XT.vg1 (hi : ops[i0]? = some ⟨some d, .call ⟨.value x, l.toArray, tys⟩, ty, pos, aft, some (j, want)⟩) (hok : okOper c.N ⟨some d, .call ⟨.value x, l.toArray, tys⟩, ty, pos, aft, some (j, want)⟩ = true)
    (hj : (ops[j]?).bind (·.dst) = some g) (hg : find e g = some (.bool b)) (hx : b = want → ev e x = some y) (hl : b = want → EvL e l vs)
    (hS : b = want → VSpec c.P y vs [] Hr (fun v hs => v = u ∧ hs = [])) [al : AllIn Hr o (c.B :: r)] (h : Keeps bb f o ∧ XT c ops fl f k r tt ((d, some (lz b want u)) :: e) o) (hu : XT c ops fl f k r uu e o) :
    XT c ops fl f k r (.br i0 bb tt uu) e o :=
  XT.s hi hok (Stp.vtells hj (.d1 hg) (u' := lz b want u) (fun h => by simp [lz, h]) (fun h => by simp [lz, h]) hx hl hS) (fun v o2 ⟨h1, h2⟩ => by subst h1 h2; exact h) hu
theorem XT.vg2 (hi : ops[i0]? = some ⟨some d, .call ⟨.value x, l.toArray, tys⟩, ty, pos, aft, some (j, want)⟩) (hok : okOper c.N ⟨some d, .call ⟨.value x, l.toArray, tys⟩, ty, pos, aft, some (j, want)⟩ = true)
    (hj : (ops[j]?).bind (·.dst) = some g) (hg : find e g = some (lz b1 w1 (.bool b))) (hx : b1 = w1 → b = want → ev e x = some y) (hl : b1 = w1 → b = want → EvL e l vs)
    (hS : b1 = w1 → b = want → VSpec c.P y vs [] Hr (fun v hs => v = u ∧ hs = [])) [al : AllIn Hr o (c.B :: r)] (h : Keeps bb f o ∧ XT c ops fl f k r tt ((d, some (lz b1 w1 (lz b want u))) :: e) o) (hu : XT c ops fl f k r uu e o) :
    XT c ops fl f k r (.br i0 bb tt uu) e o :=
  XT.s hi hok (Stp.vtells hj (.d2 hg) (u' := lz b1 w1 (lz b want u)) (fun h => by simp [lz, h.1, h.2]) (fun h => by
    unfold lz
    split
    · split
      · exact absurd ⟨‹_›, ‹_›⟩ h
      · rfl
    · rfl) (fun h => hx h.1 h.2) (fun h => hl h.1 h.2) (fun h => hS h.1 h.2)) (fun v o2 ⟨h1, h2⟩ => by subst h1 h2; exact h) hu
end
end
end Go.X

/- Shifts and bits, whatever they give. No condition. -/
set_option linter.unusedSimpArgs false
set_option linter.unusedVariables false
namespace Go.X
def andI (k : IntKind) (m n : Int) : Int := k.wrap ((BitVec.ofInt k.bits m &&& BitVec.ofInt k.bits n).toNat : Int)
def shrI (k : IntKind) (m n : Int) : Int := m.fdiv (2 ^ min n.toNat k.bits)
section
variable {P : Program} {ops : Array Oper} {e : Env} {o r : List PHeap} {d : Option Tmp} {ty : TypeId} {pos : String} {aft : Array Edge}
theorem Q.shrW {t t2 : TypeId} {x y : Operand} {k k' : IntKind} {m n : Int} (hx : ev e x = some (.int k m)) (hy : ev e y = some (.int k' n)) (h : 0 ≤ n) :
    Quiet P ops ⟨d, .binOp .shr t x y t2, ty, pos, aft, none⟩ e o r (.int k (shrI k m n)) := Q.bin hx hy fun w => by
  have e1 : binOp .shr t (.int k m) (.int k' n) = Op.shift .shr k m k' n := by simp [binOp]
  rw [e1]
  unfold Op.shift
  rw [if_neg (by omega)]
  rfl
theorem Q.andW {t t2 : TypeId} {x y : Operand} {k : IntKind} {m n : Int} (hx : ev e x = some (.int k m)) (hy : ev e y = some (.int k n)) :
    Quiet P ops ⟨d, .binOp .and t x y t2, ty, pos, aft, none⟩ e o r (.int k (andI k m n)) := Q.bin hx hy fun w => by
  have e1 : binOp .and t (.int k m) (.int k n) = Op.intBits .and k m n := by simp [binOp]
  rw [e1]
  rfl
end
end Go.X

/- Calls under a guard that is known to hold. No condition. -/
set_option linter.unusedSimpArgs false
set_option linter.unusedVariables false
namespace Go.X
section
variable {c : Cx} {ops : Array Oper} {rest : List Oper} {k : List Item} {e : Env} {o r : List PHeap} {d : Nat} {ty : TypeId} {pos : String} {aft : Array Edge}
variable {fl : List Nat} {f : List PHeap} {i0 : Nat} {bb : Bool} {tt uu : Plan}
theorem EvL.evs {e : Env} : ∀ {l : List Operand} {vs : List Value}, EvL e l vs → evs e l = some vs
  | [], _, .n => rfl
  | x :: l, _, .c h r => by simp only [X.evs, h, EvL.evs r]
theorem XO.callS {g : FuncId} {x : Operand} {l : List Operand} {tys : Array TypeId} {fst vs cap A : List Value} {Hm Hr : List PHeap} {R : Value → List PHeap → Prop} {o1 : List PHeap} {j gt : Nat} {want b : Bool}
    (hj : (ops[j]?).bind (·.dst) = some gt) (hg : find e gt = some (.bool b)) (hb : b = want)
    (hc : ∀ args w, (callFunc g args).run c.P w = .ok (.enter g args) w) (hx : ev e x = some (.func (.func g) fst.toArray cap.toArray)) (hl : EvL e l vs) (hA : fst ++ vs ++ cap = A)
    (hS : Spec c.P g A.toArray Hm Hr R) [t : Takes Hm o o1] [al : AllIn Hr o1 (c.B :: r)] (h : ∀ v hs, R v hs → XO c ops rest k ((d, some v) :: e) (hs ++ o1) r) :
    XO c ops (⟨some d, .call ⟨.value x, l.toArray, tys⟩, ty, pos, aft, some (j, want)⟩ :: rest) k e o r :=
  XO.s (Stp.want hj hg hb (Stp.call hc hx hl.evs hA hS)) fun v o2 ⟨hs, hR, h2⟩ => by subst h2; exact h v hs hR
theorem XT.callS {g : FuncId} {x : Operand} {l : List Operand} {tys : Array TypeId} {fst vs cap A : List Value} {Hm Hr : List PHeap} {R : Value → List PHeap → Prop} {o1 : List PHeap} {j gt : Nat} {want b : Bool}
    (hi : ops[i0]? = some ⟨some d, .call ⟨.value x, l.toArray, tys⟩, ty, pos, aft, some (j, want)⟩) (hok : okOper c.N ⟨some d, .call ⟨.value x, l.toArray, tys⟩, ty, pos, aft, some (j, want)⟩ = true)
    (hj : (ops[j]?).bind (·.dst) = some gt) (hg : find e gt = some (.bool b)) (hb : b = want)
    (hc : ∀ args w, (callFunc g args).run c.P w = .ok (.enter g args) w) (hx : ev e x = some (.func (.func g) fst.toArray cap.toArray)) (hl : EvL e l vs) (hA : fst ++ vs ++ cap = A)
    (hS : Spec c.P g A.toArray Hm Hr R) [tk : Takes Hm o o1] [al : AllIn Hr o1 (c.B :: r)] (h : ∀ v hs, R v hs → Keeps bb f (hs ++ o1) ∧ XT c ops fl f k r tt ((d, some v) :: e) (hs ++ o1)) (hu : XT c ops fl f k r uu e o) :
    XT c ops fl f k r (.br i0 bb tt uu) e o :=
  XT.s hi hok (Stp.want hj hg hb (Stp.call hc hx hl.evs hA hS)) (fun v o2 ⟨hs, hR, h2⟩ => by subst h2; exact h v hs hR) hu
end
end Go.X

/- The place of a field of an element. No condition. -/
namespace Go.X
variable {P : Program} {ops : Array Oper} {e : Env} {o r : List PHeap} {d : Option Tmp} {ty : TypeId} {pos : String} {aft : Array Edge}
variable {α : Type} {enc : α → List Value} {sz : Nat} {h : PHeap} {xs : List α} {v : Value}
theorem Q.fieldQ {s' f off : Nat} [fl : Fld P s' f off] {x : Operand} {i k : Nat} (hx : ev e x = some (pat v sz i k)) [s : Arr v enc sz h xs] (hi : i < xs.length) :
    Quiet P ops ⟨d, .fieldAddr s' x f, ty, pos, aft, none⟩ e o r (pat v sz i (k + off)) := Q.fieldP (n := 0) hx hi
end Go.X

/- An element of an array value: elements of one cell. No condition. -/
set_option linter.unusedVariables false
namespace Go.X
variable {P : Program} {ops : Array Oper} {e : Env} {o r : List PHeap} {d : Option Tmp} {ty : TypeId} {pos : String} {aft : Array Edge}
theorem Q.index1 {t el len : TypeId} [u : Und P t (.array len el)] [z : TySize P el 1] [g : IsAgg P el false] {x y : Operand} {k : IntKind} {n : Int} {cs : List Value} {v : Value} (hx : ev e x = some (.agg cs.toArray)) (hy : ev e y = some (.int k n))
    (h0 : 0 ≤ n) (h1 : n < (len : Int)) (hv : cs[n.toNat]? = some v) : Quiet P ops ⟨d, .index t x y, ty, pos, aft, none⟩ e o r v := .mk fun a w he _ => by
  simp only [execOp, ev_rel he hx, ev_rel he hy]
  refine run_val ?_
  unfold Instr.index
  have e1 : (asIntOf (.int k n)).run P w = .ok (k, n) w := rfl
  rw [bind_ok e1]
  simp only
  rw [bind_ok (u.pf w)]
  simp only
  rw [if_pos ⟨h0, h1⟩, bind_ok (z.pf w)]
  unfold part
  rw [bind_ok (g.pf w)]
  simp [hv, pure]
theorem Spec.wide {f : FuncId} {args : Array Value} {Hm Hr Hr' : List PHeap} {R : Value → List PHeap → Prop} (h : Spec P f args Hm Hr R) (hh : ∀ x ∈ Hr, x ∈ Hr') : Spec P f args Hm Hr' R :=
  fun o r w hs hr => h o r w hs (fun x hx => hr x (hh x hx))
end Go.X

/- A store to the first field. -/
namespace Go.X
instance (priority := high) Upd.first {b : Nat} {vs : List Value} {o o' : List PHeap} [t : Upd b 0 vs o o'] : Upd b (0 + 0) vs o o' := ⟨t.pf⟩
end Go.X

/- min and max of whole numbers of any width. -/
set_option linter.unusedVariables false
namespace Go.X
section
variable {P : Program} {ops : Array Oper} {e : Env} {o r : List PHeap} {d : Option Tmp} {ty : TypeId} {pos : String} {aft : Array Edge}
theorem run_minK {m n : Int} {k : IntKind} {ty' : Array TypeId} {w : World} {cs : Array Bool} (b : Bool) :
    (builtin (if b then .min else .max) ty' ty cs #[.int k m, .int k n]).run P w = .ok (.value (.int k (if b then min m n else max m n))) w := by
  cases b with
  | true =>
    simp only [if_true, builtin]
    refine run_val ?_
    have h1 : Builtin.min_ ty' ty #[.int k m, .int k n] = (pure (.int k (if n < m then n else m)) : Sem Value) := by
      simp [Builtin.min_, Builtin.min2]
    rw [h1]
    have h2 : (if n < m then n else m) = min m n := by omega
    rw [h2]; rfl
  | false =>
    simp only [Bool.false_eq_true, if_false, builtin]
    refine run_val ?_
    have h1 : ∃ z, Builtin.max_ ty' ty #[.int k m, .int k n] = (pure (.int k z) : Sem Value) ∧ z = max m n := by
      refine ⟨_, by simp [Builtin.max_, Builtin.max2]; rfl, ?_⟩
      omega
    obtain ⟨z, h1, rfl⟩ := h1
    rw [h1]; rfl
theorem Q.minK {x y : Operand} {tys : Array TypeId} {k : IntKind} {m n : Int} (hx : ev e x = some (.int k m)) (hy : ev e y = some (.int k n)) :
    Quiet P ops ⟨d, .call ⟨.builtin .min, #[x, y], tys⟩, ty, pos, aft, none⟩ e o r (.int k (Min.min m n)) := .mk fun a w he _ => by
  simp only [execOp, resolve, List.map_toArray, List.map_cons, List.map_nil, ev_rel he hx, ev_rel he hy]
  rw [bind_ok (a := _) (w1 := w) rfl]
  simp only [invoke]
  exact run_minK true
theorem Q.maxK {x y : Operand} {tys : Array TypeId} {k : IntKind} {m n : Int} (hx : ev e x = some (.int k m)) (hy : ev e y = some (.int k n)) :
    Quiet P ops ⟨d, .call ⟨.builtin .max, #[x, y], tys⟩, ty, pos, aft, none⟩ e o r (.int k (Max.max m n)) := .mk fun a w he _ => by
  simp only [execOp, resolve, List.map_toArray, List.map_cons, List.map_nil, ev_rel he hx, ev_rel he hy]
  rw [bind_ok (a := _) (w1 := w) rfl]
  simp only [invoke]
  exact run_minK false
end
end Go.X

/- Iterators that yield fresh values: what was yielded stays readable; loops over them. No condition. -/
set_option linter.unusedSimpArgs false
set_option linter.unusedVariables false
namespace Go.X

/-! ### two heaps as one -/
def cat (a b : PHeap) : PHeap := join [a, b]
theorem cat_left (a b : PHeap) : leH a (cat a b) := fun x ob h => by
  show ((a x).or _) = _
  rw [h]; rfl
theorem cat_right {a b : PHeap} (hd : Disj a b) : leH b (cat a b) := fun x ob h => by
  show ((a x).or ((b x).or none)) = _
  rcases hd x with h1 | h1
  · rw [h1, h]; rfl
  · rw [h] at h1; cases h1
theorem leH.trans {a b c : PHeap} (h1 : leH a b) (h2 : leH b c) : leH a c := fun x ob h => h2 x ob (h1 x ob h)
theorem leH.emp (h : PHeap) : leH emp h := fun x ob h => by cases h
section
variable {c : Cx} {ops : Array Oper} {rest : List Oper} {k : List Item} {e : Env} {o o1 o2 r : List PHeap} {fl : List Nat} {f : List PHeap} {t : Plan}
/-- Two owned heaps become one. -/
theorem XK.cat (a b : PHeap) [ta : Take a o o1] [tb : Take b o1 o2] (h : leH a (cat a b) → leH b (cat a b) → XK c k e (cat a b :: o2) r) : XK c k e o r := fun D ds w0 w cs ha he hD hm => by
  have hp : (D :: o).Perm ([a, b] ++ (D :: o2)) := ((ta.pf.trans (tb.pf.cons a)).cons D).trans (by
    show (D :: a :: b :: o2).Perm (a :: b :: D :: o2)
    exact (List.Perm.swap _ _ _).trans ((List.Perm.swap _ _ _).cons _))
  have hs := hm.perm hp
  have hd : Disj a b := (List.pairwise_cons.1 hs.pw).1 b (by simp)
  exact h (cat_left a b) (cat_right hd) D ds w0 w cs ha he hD ((Sep.join hs).perm (List.Perm.swap _ _ _))
theorem XO.cat (a b : PHeap) [ta : Take a o o1] [tb : Take b o1 o2] (h : leH a (cat a b) → leH b (cat a b) → XO c ops rest k e (cat a b :: o2) r) : XO c ops rest k e o r := fun j hj hok D ds w0 w cs ha he hD hm => by
  have hp : (D :: o).Perm ([a, b] ++ (D :: o2)) := ((ta.pf.trans (tb.pf.cons a)).cons D).trans (by
    show (D :: a :: b :: o2).Perm (a :: b :: D :: o2)
    exact (List.Perm.swap _ _ _).trans ((List.Perm.swap _ _ _).cons _))
  have hs := hm.perm hp
  have hd : Disj a b := (List.pairwise_cons.1 hs.pw).1 b (by simp)
  exact h (cat_left a b) (cat_right hd) j hj hok D ds w0 w cs ha he hD ((Sep.join hs).perm (List.Perm.swap _ _ _))
end
/-- Under a guard that is known not to hold, nothing is done. -/
theorem Quiet.off {P : Program} {ops : Array Oper} {e : Env} {o r : List PHeap} {d : Option Tmp} {ty : TypeId} {pos : String} {aft : Array Edge} {op : Op} {j g : Nat} {want b : Bool}
    (hj : (ops[j]?).bind (·.dst) = some g) (hg : find e g = some (.bool b)) (hb : b ≠ want) : Quiet P ops ⟨d, op, ty, pos, aft, some (j, want)⟩ e o r undef := fun a w he _ => by
  refine .inr ⟨?_, rfl⟩
  rw [wanted_guard hj (he g _ hg)]
  simp [hb]
theorem XT.vcall {c : Cx} {ops : Array Oper} {fl : List Nat} {f : List PHeap} {k : List Item} {e : Env} {o r : List PHeap} {i0 d : Nat} {ty : TypeId} {pos : String} {aft : Array Edge} {bb : Bool} {tt uu : Plan}
    {x : Operand} {l : List Operand} {tys : Array TypeId} {y : Value} {vs : List Value} {Hm Hr : List PHeap} {R : Value → List PHeap → Prop} {o1 : List PHeap}
    (hi : ops[i0]? = some ⟨some d, .call ⟨.value x, l.toArray, tys⟩, ty, pos, aft, none⟩) (hok : okOper c.N ⟨some d, .call ⟨.value x, l.toArray, tys⟩, ty, pos, aft, none⟩ = true)
    (hx : ev e x = some y) (hl : evs e l = some vs) (hS : VSpec c.P y vs Hm Hr R) [t : Takes Hm o o1] [al : AllIn Hr o1 (c.B :: r)]
    (h : ∀ v hs, R v hs → Keeps bb f (hs ++ o1) ∧ XT c ops fl f k r tt ((d, some v) :: e) (hs ++ o1)) (hu : XT c ops fl f k r uu e o) :
    XT c ops fl f k r (.br i0 bb tt uu) e o := XT.s hi hok (Stp.vcall hx hl hS) (fun v o2 ⟨hs, hR, h2⟩ => by subst h2; exact h v hs hR) hu

/-- A heap that is one of two that are read. -/
class Either (x : PHeap) (a b : outParam PHeap) : Prop where
  pf : x = a ∨ x = b
instance (priority := low) InM.either (x a b : PHeap) (o r : List PHeap) [t : Either x a b] [ia : InM a o r] [ib : InM b o r] : InM x o r := ⟨t.pf.elim (fun h => h ▸ ia.pf) (fun h => h ▸ ib.pf)⟩
/-! ### iterators with fresh values -/
/-- It yields n times; K: all that it has yielded, to be read in the rounds, owned at the end; Hs: what the iterator itself holds. -/
def ItK (P : Program) (y : Value) (n : Nat) (Y : Nat → PHeap → List Value → Prop) (Hs Hg : List PHeap) : Prop :=
  ∀ (f : Value) (Hr : List PHeap) (Q : Nat → PHeap → PHeap → Prop) (X : PHeap → PHeap → Prop),
    (∀ i K K' q, leH K K' → Q i K q → Q i K' q) →
    (∀ i, i < n → ∀ K vs q, Y i K vs → Q i K q → VSpec P f vs [q] (K :: Hr) (fun v hs => ∃ b q', v = .bool b ∧ hs = [q'] ∧ (b = true → Q (i + 1) K q') ∧ (b = false → X K q'))) →
    ∀ q, Q 0 emp q → VSpec P y [f] (q :: Hs) (Hg ++ Hr) (fun _ hs => ∃ q' K, hs = [q', K] ∧ (Q n K q' ∨ X K q'))
theorem XK.rangeK {P : Program} {f : FuncId} {N : Nat} {B : PHeap} {E : Frame → World → Prop} {X : Type} {k : List Item} {e : Env} {o o1 ok r : List PHeap} {x : Operand} {y : Value} {ps : List Tmp} {asn bd : Code} {Hs Hg : List PHeap} {n : Nat} {Y : Nat → PHeap → List Value → Prop}
    (oc : X → List PHeap) (I : Nat → X → PHeap → Prop) (J : Code → X → PHeap → Prop) (x0 : X) (o0 : List PHeap) (hx : ev e x = some y) (hit : ItK P y n Y Hs Hg)
    [rst : Rest o0 o o1] [tk : Takes Hs o1 ok] (ho0 : oc x0 = o0) (hmono : ∀ i x K K', leH K K' → I i x K → I i x K') (h0 : I 0 x0 emp)
    [al : AllIn Hg ok (B :: r)] (hps : ps.all (fun p => Nat.blt p N) = true) (hlen : ∀ i K vs, Y i K vs → vs.length = ps.length)
    (round : ∀ l rec B' i x K vs, i < n → Y i K vs → I i x K → XK (rcx P f N l rec B' (RoundR oc (fun x => I (i + 1) x K) (fun j x => J j x K))) [.code asn, .beginRound, .code bd] (pars ps vs e) (rdy l rec :: oc x) (K :: (ok ++ r)))
    (cont : ∀ x K, I n x K → XK ⟨P, f, none, N, B, E⟩ k e (oc x ++ K :: ok) r)
    (jump : ∀ j x K, J j x K → XK ⟨P, f, none, N, B, E⟩ (.code j :: k) e (oc x ++ K :: ok) r) :
    XK ⟨P, f, none, N, B, E⟩ (.code (.rangeFunc x ps.toArray asn bd) :: k) e o r := fun D ds a w cs ha he hD hm => by
  have hm0 : Sep (D :: (o0 ++ o1)) (B :: r) w := rst.wk.sepD hm
  have hm1 : Sep (D :: (o0 ++ (Hs ++ ok))) (B :: r) w := hm0.perm ((tk.pf.append_left o0).cons D)
  let rec' : Loop := { state := .ready, pending := none, fn := f, tmps := a, params := ps.toArray, assign := asn, body := bd, defers := w.heap.size }
  let l := w.heap.size + 1
  let w1 := (w.alloc (.deferred (some []))).alloc (.loop rec')
  have henter : (Instr.enterLoop f a ps.toArray asn bd none).run P w = .ok (l, [{ target := .collected w.heap.size, args := #[] }]) w1 := run_enterLoop_outer f a ps.toArray asn bd
  have hs1 : Sep (rdy l rec' :: sing w.heap.size (.deferred (some [])) :: D :: (o0 ++ (Hs ++ ok))) (B :: r) w1 := by
    have := (hm1.push (.deferred (some []))).push (.loop rec')
    simp only [Array.size_push] at this
    exact this
  let D' := Go.X.join [sing w.heap.size (.deferred (some [])), D]
  have hs2 : Sep (D' :: rdy l rec' :: (o0 ++ (Hs ++ ok))) (B :: r) w1 := by
    refine Sep.join (hs := [sing w.heap.size (.deferred (some [])), D]) (hs1.perm ?_)
    exact (List.Perm.swap _ _ _).trans ((List.Perm.swap _ _ _).cons _)
  have hD' : Marked D' (w.heap.size :: ds) := by
    refine ⟨List.nodup_cons.2 ⟨fun hmem => ?_, hD.1⟩, fun b => ?_⟩
    · have := sub_lt (hm.so D List.mem_cons_self) (b := w.heap.size) (o := .deferred (some [])) (by rw [hD.2, if_pos hmem])
      omega
    · simp only [D', Go.X.join, sing, emp, Option.or_none, hD.2 b, List.mem_cons]
      by_cases hb : b = w.heap.size
      · simp [hb]
      · simp [hb]
  have hs3 : Sep ((Go.X.join (rdy l rec' :: o0) :: Hs) ++ (D' :: ok)) (B :: r) w1 := by
    refine (Sep.join (hs := rdy l rec' :: o0) (o := D' :: (Hs ++ ok)) (hs2.perm ?_)).perm ?_
    · show (D' :: ((rdy l rec' :: o0) ++ (Hs ++ ok))).Perm ((rdy l rec' :: o0) ++ D' :: (Hs ++ ok))
      exact List.perm_middle.symm
    · show (_ :: D' :: (Hs ++ ok)).Perm (_ :: (Hs ++ D' :: ok))
      exact List.perm_middle.symm.cons _
  have hp0 : PD (rdy l rec' :: oc x0) := by
    rw [ho0]
    have hsub : (rdy l rec' :: o0).Sublist (rdy l rec' :: (o0 ++ (Hs ++ ok))) := List.Sublist.cons_cons _ (List.sublist_append_left _ _)
    exact ⟨hs2.tail.pw.sublist hsub, fun h hh => hs2.tail.no h (hsub.mem hh)⟩
  have hpsN : ∀ p ∈ ps, p < N := fun p hp => by
    have := List.all_eq_true.1 hps p hp
    rwa [Nat.blt_eq] at this
  have hyield : ∀ i, i < n → ∀ K vs q, Y i K vs → (∃ x, I i x K ∧ PD (rdy l rec' :: oc x) ∧ q = Go.X.join (rdy l rec' :: oc x)) →
      VSpec P (.func (.yield l) #[] #[]) vs [q] (K :: (ok ++ r)) (fun v hs => ∃ b q', v = .bool b ∧ hs = [q'] ∧
        (b = true → ∃ x, I (i + 1) x K ∧ PD (rdy l rec' :: oc x) ∧ q' = Go.X.join (rdy l rec' :: oc x)) ∧
        (b = false → ∃ j x, J j x K ∧ PD (ovr l rec' (some j) :: oc x) ∧ q' = Go.X.join (ovr l rec' (some j) :: oc x))) := by
    rintro i hi K vs q hY ⟨x, hI, hp, rfl⟩
    refine ((VSpec.round (rec := rec') (N := N) (e := e) rfl ha he hpsN (hlen i K vs hY) (fun B' => round l rec' B' i x K vs hi hY hI)).joined hp).mono ?_
    rintro v hs ⟨hs', ⟨j, hs'', rfl, rfl, hR⟩, hpw, rfl⟩
    refine ⟨_, _, rfl, rfl, ?_, ?_⟩
    · intro hj
      cases j with
      | some j => cases hj
      | none =>
        obtain ⟨x', h1, rfl⟩ := hR
        exact ⟨x', h1, hpw, rfl⟩
    · intro hj
      cases j with
      | none => cases hj
      | some j =>
        obtain ⟨x', h1, rfl⟩ := hR
        exact ⟨j, x', h1, hpw, rfl⟩
  have hN := hit _ (ok ++ r) (fun i K q => ∃ x, I i x K ∧ PD (rdy l rec' :: oc x) ∧ q = Go.X.join (rdy l rec' :: oc x)) _ (fun i K K' q hle ⟨x, hI, h1⟩ => ⟨x, hmono i x K K' hle hI, h1⟩) hyield (Go.X.join (rdy l rec' :: o0)) ⟨x0, h0, hp0, by rw [ho0]⟩ (D' :: ok) (B :: r) w1 hs3 (fun h hh => by
    rcases List.mem_append.1 hh with hh | hh
    · exact orMap (al.pf h hh) (List.mem_cons_of_mem _) id
    · rcases List.mem_append.1 hh with hh | hh
      · exact .inl (List.mem_cons_of_mem _ hh)
      · exact .inr (List.mem_cons_of_mem _ hh))
  obtain ⟨v, w', ⟨hs', ⟨q', K, rfl, hq⟩, hS⟩, st⟩ := step_range (ds := marks ds) (k := k) (cs := cs) henter (ev_rel he hx) hN
  have hperm : ∀ g : List PHeap, (g ++ ([K] ++ (D' :: ok))).Perm (D' :: (g ++ K :: ok)) := fun g => by
    refine ((List.Perm.swap D' K ok).append_left g).trans ?_
    exact List.perm_middle
  rcases hq with ⟨x', hI, hpw, rfl⟩ | ⟨j, x', hJ, hpw, rfl⟩
  · obtain ⟨hS2, hb⟩ := Sep.turn (y := .loop { rec' with state := .exhausted, pending := none }) (Sep.split hpw hS)
    obtain ⟨fr, w2, hE, st2⟩ := cont x' K hI D' (w.heap.size :: ds) a _ cs ha he hD' (hS2.tail.perm (hperm _))
    exact ⟨fr, w2, hE, Steps.trans st (.head (step_endRange (run_endLoop hb (by simp))) st2)⟩
  · obtain ⟨hS2, hb⟩ := Sep.turn (y := .loop { rec' with state := .exhausted, pending := some j }) (Sep.split hpw hS)
    obtain ⟨fr, w2, hE, st2⟩ := jump j x' K hJ D' (w.heap.size :: ds) a _ cs ha he hD' (hS2.tail.perm (hperm _))
    exact ⟨fr, w2, hE, Steps.trans st (.head (step_endRange (run_endLoop hb (by simp))) st2)⟩
end Go.X

/- Literals under guards: made, or not. No condition. -/
set_option linter.unusedSimpArgs false
set_option linter.unusedVariables false
namespace Go.X
section
variable {P : Program} {ops : Array Oper} {e : Env} {o r : List PHeap} {d : Option Tmp} {ty : TypeId} {pos : String} {aft : Array Edge}
theorem Stp.tells {op : Op} {φ : Prop} {j g : Nat} {want : Bool} {Ψ : Value → List PHeap → Prop} (hj : (ops[j]?).bind (·.dst) = some g) (t : Tells e g want φ) (hp : φ)
    (s : Stp P ops ⟨d, op, ty, pos, aft, none⟩ e o r Ψ) : Stp P ops ⟨d, op, ty, pos, aft, some (j, want)⟩ e o r Ψ := fun D a w he hs => by
  have h := s D a w he hs
  have hw := t.yes (d := d) (ty := ty) (pos := pos) (aft := aft) (op := op) hj he hp
  have hx : execOp (evA a) (⟨d, op, ty, pos, aft, some (j, want)⟩ : Oper) = execOp (evA a) (⟨d, op, ty, pos, aft, none⟩ : Oper) := rfl
  unfold Does at h ⊢
  rw [hw, hx, if_pos rfl]
  rwa [if_pos (by simp [Region.wanted])] at h
theorem Stp.mono {x : Oper} {Ψ Ψ' : Value → List PHeap → Prop} (s : Stp P ops x e o r Ψ) (m : ∀ v o', Ψ v o' → Ψ' v o') : Stp P ops x e o r Ψ' := fun D a w he hs =>
  (s D a w he hs).mono fun v w' ⟨o2, ⟨o', h1, h2⟩, h3⟩ => ⟨o2, ⟨o', m _ _ h1, h2⟩, h3⟩
theorem Stp.litT {α : Type} {sz : Nat} {φ : Prop} {j g : Nat} {want : Bool}
    {t el : TypeId} [u : Und P t (.slice el)] [z : TySize P el sz] {zs : List Value} [zz : Zero P el zs] {n : Nat} {l : List (Nat × Operand)} (zl cs : List Value) (xs : List α) (enc : α → List Value)
    (hj : (ops[j]?).bind (·.dst) = some g) (t2 : Tells e g want φ)
    (hzs : zs.length = sz) (hsz : Nat.blt 0 sz = true) (hn : Nat.ble (n * sz) 16777216 = true) (hzl : (List.replicate n zs).flatten = zl) (hf : φ → Fill e (fun i => some (i * sz, sz)) l zl cs)
    (henc : ∀ x, (enc x).length = sz) (hcs : xs.flatMap enc = cs) (hxn : xs.length = n) (ho : φ → Ones cs) (hle : Nat.ble n 16777216 = true) :
    Stp P ops ⟨d, .buildSlice t n l.toArray, ty, pos, aft, some (j, want)⟩ e o r (fun v o2 => ∃ h, o2 = h :: o ∧ (φ → OArr v enc sz el h xs) ∧ (¬ φ → v = undef)) := by
  by_cases hp : φ
  · exact (Stp.tells hj t2 hp ((Makes.lit (t := t) (el := el) (zs := zs) cs hzs hsz hn (by rw [hzl]; exact hf hp)).stp _ _)).mono fun v o' ⟨b, hv, ho'⟩ =>
      ⟨_, ho', fun _ => by subst hv; exact OArr.lit xs enc henc hcs hxn (ho hp) hle, fun hn => absurd hp hn⟩
  · intro D a w he hs
    unfold Does
    rw [t2.no hj he hp, if_neg (by decide)]
    exact ⟨emp :: D :: o, ⟨emp :: o, ⟨emp, rfl, fun h => absurd h hp, fun _ => rfl⟩, List.Perm.swap _ _ _⟩, hs.emp 1⟩
end
section
variable {c : Cx} {ops : Array Oper} {rest : List Oper} {k : List Item} {e : Env} {o r : List PHeap} {d : Nat} {ty : TypeId} {pos : String} {aft : Array Edge}
variable {fl : List Nat} {f : List PHeap} {i0 : Nat} {bb : Bool} {tt uu : Plan}
variable {α : Type} {sz : Nat} {j g : Nat} {want b b1 w1 : Bool} {t el : TypeId} [u : Und c.P t (.slice el)] [z : TySize c.P el sz] {zs : List Value} [zz : Zero c.P el zs] {n : Nat} {l : List (Nat × Operand)} (zl cs : List Value) (xs : List α) (enc : α → List Value)
theorem lz_of {b w : Bool} {v : Value} (h : ¬ b = w → v = undef) : v = lz b w v := by
  unfold lz
  split
  · rfl
  · exact h ‹_›
theorem lz_of2 {b1 w1 b w : Bool} {v : Value} (h : ¬ (b1 = w1 ∧ b = w) → v = undef) : v = lz b1 w1 (lz b w v) := by
  unfold lz
  split
  · split
    · rfl
    · exact h (fun hh => by rename_i h2; exact h2 hh.2)
  · exact h (fun hh => by rename_i h2; exact h2 hh.1)
theorem XO.lit1 (hj : (ops[j]?).bind (·.dst) = some g) (hg : find e g = some (.bool b))
    (hzs : zs.length = sz) (hsz : Nat.blt 0 sz = true) (hn : Nat.ble (n * sz) 16777216 = true) (hzl : (List.replicate n zs).flatten = zl) (hf : b = want → Fill e (fun i => some (i * sz, sz)) l zl cs)
    (henc : ∀ x, (enc x).length = sz) (hcs : xs.flatMap enc = cs) (hxn : xs.length = n) (ho : b = want → Ones cs) (hle : Nat.ble n 16777216 = true)
    (hnx : ∀ v' h', (b = want → OArr v' enc sz el h' xs) → XO c ops rest k ((d, some (lz b want v')) :: e) (h' :: o) r) :
    XO c ops (⟨some d, .buildSlice t n l.toArray, ty, pos, aft, some (j, want)⟩ :: rest) k e o r :=
  XO.s (Stp.litT zl cs xs enc hj (.d1 hg) hzs hsz hn hzl hf henc hcs hxn ho hle) fun v o2 ⟨h, h1, h2, h3⟩ => by
    subst h1
    have := hnx v h h2
    rwa [← lz_of h3] at this
theorem XO.lit2 (hj : (ops[j]?).bind (·.dst) = some g) (hg : find e g = some (lz b1 w1 (.bool b)))
    (hzs : zs.length = sz) (hsz : Nat.blt 0 sz = true) (hn : Nat.ble (n * sz) 16777216 = true) (hzl : (List.replicate n zs).flatten = zl) (hf : b1 = w1 → b = want → Fill e (fun i => some (i * sz, sz)) l zl cs)
    (henc : ∀ x, (enc x).length = sz) (hcs : xs.flatMap enc = cs) (hxn : xs.length = n) (ho : b1 = w1 → b = want → Ones cs) (hle : Nat.ble n 16777216 = true)
    (hnx : ∀ v' h', (b1 = w1 → b = want → OArr v' enc sz el h' xs) → XO c ops rest k ((d, some (lz b1 w1 (lz b want v'))) :: e) (h' :: o) r) :
    XO c ops (⟨some d, .buildSlice t n l.toArray, ty, pos, aft, some (j, want)⟩ :: rest) k e o r :=
  XO.s (Stp.litT zl cs xs enc hj (.d2 hg) hzs hsz hn hzl (fun h => hf h.1 h.2) henc hcs hxn (fun h => ho h.1 h.2) hle) fun v o2 ⟨h, h1, h2, h3⟩ => by
    subst h1
    have := hnx v h (fun a b => h2 ⟨a, b⟩)
    rwa [← lz_of2 h3] at this
theorem XT.lit1 (hi : ops[i0]? = some ⟨some d, .buildSlice t n l.toArray, ty, pos, aft, some (j, want)⟩) (hok : okOper c.N ⟨some d, .buildSlice t n l.toArray, ty, pos, aft, some (j, want)⟩ = true)
    (hj : (ops[j]?).bind (·.dst) = some g) (hg : find e g = some (.bool b))
    (hzs : zs.length = sz) (hsz : Nat.blt 0 sz = true) (hn : Nat.ble (n * sz) 16777216 = true) (hzl : (List.replicate n zs).flatten = zl) (hf : b = want → Fill e (fun i => some (i * sz, sz)) l zl cs)
    (henc : ∀ x, (enc x).length = sz) (hcs : xs.flatMap enc = cs) (hxn : xs.length = n) (ho : b = want → Ones cs) (hle : Nat.ble n 16777216 = true)
    (hnx : ∀ v' h', (b = want → OArr v' enc sz el h' xs) → Keeps bb f (h' :: o) ∧ XT c ops fl f k r tt ((d, some (lz b want v')) :: e) (h' :: o)) (hu : XT c ops fl f k r uu e o) : XT c ops fl f k r (.br i0 bb tt uu) e o :=
  XT.s hi hok (Stp.litT zl cs xs enc hj (.d1 hg) hzs hsz hn hzl hf henc hcs hxn ho hle) (fun v o2 ⟨h, h1, h2, h3⟩ => by
    subst h1
    have := hnx v h h2
    rwa [← lz_of h3] at this) hu
theorem XT.lit2 (hi : ops[i0]? = some ⟨some d, .buildSlice t n l.toArray, ty, pos, aft, some (j, want)⟩) (hok : okOper c.N ⟨some d, .buildSlice t n l.toArray, ty, pos, aft, some (j, want)⟩ = true)
    (hj : (ops[j]?).bind (·.dst) = some g) (hg : find e g = some (lz b1 w1 (.bool b)))
    (hzs : zs.length = sz) (hsz : Nat.blt 0 sz = true) (hn : Nat.ble (n * sz) 16777216 = true) (hzl : (List.replicate n zs).flatten = zl) (hf : b1 = w1 → b = want → Fill e (fun i => some (i * sz, sz)) l zl cs)
    (henc : ∀ x, (enc x).length = sz) (hcs : xs.flatMap enc = cs) (hxn : xs.length = n) (ho : b1 = w1 → b = want → Ones cs) (hle : Nat.ble n 16777216 = true)
    (hnx : ∀ v' h', (b1 = w1 → b = want → OArr v' enc sz el h' xs) → Keeps bb f (h' :: o) ∧ XT c ops fl f k r tt ((d, some (lz b1 w1 (lz b want v'))) :: e) (h' :: o)) (hu : XT c ops fl f k r uu e o) : XT c ops fl f k r (.br i0 bb tt uu) e o :=
  XT.s hi hok (Stp.litT zl cs xs enc hj (.d2 hg) hzs hsz hn hzl (fun h => hf h.1 h.2) henc hcs hxn (fun h => ho h.1 h.2) hle) (fun v o2 ⟨h, h1, h2, h3⟩ => by
    subst h1
    have := hnx v h (fun a b => h2 ⟨a, b⟩)
    rwa [← lz_of2 h3] at this) hu
end
end Go.X

/- Slices of slices in one heap. No condition. -/
set_option linter.unusedVariables false
namespace Go.X
/-- Slices that lie in one heap, a row each. -/
def RowsK (us : List Value) (K : PHeap) (rows : List (List Int)) : Prop := us.length = rows.length ∧ ∀ i, i < us.length → Arr (us.getD i default) encI 1 K (rows.getD i default)
theorem RowsK.nil {K : PHeap} : RowsK [] K [] := ⟨rfl, fun i hi => absurd hi (Nat.not_lt_zero i)⟩
theorem RowsK.mono {us : List Value} {K K' : PHeap} {rows : List (List Int)} (hl : leH K K') (r : RowsK us K rows) : RowsK us K' rows := ⟨r.1, fun i hi => Arr.le_heap (r.2 i hi) hl⟩
theorem rowsK_getD {α : Type} [Inhabited α] (l : List α) (x : α) (i : Nat) : (l ++ [x]).getD i default = if i < l.length then l.getD i default else if i = l.length then x else default := by
  rw [List.getD_eq_getElem?_getD, List.getElem?_append]
  split
  · rw [List.getD_eq_getElem?_getD]
  · split
    · rename_i h1 h2; subst h2; simp
    · rename_i h1 h2
      rw [List.getElem?_eq_none (by simp; omega)]; rfl
theorem RowsK.snoc {us : List Value} {K : PHeap} {rows : List (List Int)} {u : Value} {x : List Int} (r : RowsK us K rows) (a : Arr u encI 1 K x) : RowsK (us ++ [u]) K (rows ++ [x]) := ⟨by rw [List.length_append, List.length_append, r.1]; rfl, fun i hi => by
  rw [List.length_append] at hi
  rw [rowsK_getD, rowsK_getD, ← r.1]
  by_cases hc : i < us.length
  · rw [if_pos hc, if_pos hc]; exact r.2 i hc
  · rw [if_neg hc, if_neg hc, if_pos (by simp at hi; omega), if_pos (by simp at hi; omega)]; exact a⟩
end Go.X

/- x[:len(x):len(x)]. No condition. -/
set_option linter.unusedSimpArgs false
set_option linter.unusedVariables false
namespace Go.X
def clipv (v : Value) (sz : Nat) : Value := match v with
  | .slice ad n _ => .slice (if n = 0 then ad else ad.map (·.add (0 * sz))) (n - 0) (n - 0)
  | _ => v
section
variable {P : Program} {ops : Array Oper} {e : Env} {o r : List PHeap} {d : Option Tmp} {ty : TypeId} {pos : String} {aft : Array Edge}
variable {α : Type} {enc : α → List Value} {sz : Nat} {h : PHeap} {xs : List α} {v : Value}
theorem Arr.clip (s : Arr v enc sz h xs) : Arr (clipv v sz) enc sz h xs := ⟨by
  obtain ⟨henc, hm, ad, c, rfl, hle, hnn, hc⟩ := s.pf
  refine ⟨henc, hm, (if xs.length = 0 then ad else ad.map (·.add (0 * sz))), xs.length, rfl, Nat.le_refl _, ?_, fun hp => ?_⟩
  · intro hnone
    split at hnone
    · assumption
    · cases ad with
      | none => have := hnn rfl; omega
      | some a => simp at hnone
  · obtain ⟨b, k, cs, T, fr, rfl, hb, hcs⟩ := hc hp
    refine ⟨b, k, cs, T, fr, ?_, hb, hcs⟩
    rw [if_neg (by omega)]
    simp [add_none]⟩
theorem Q.clip {t el : TypeId} [u : Und P t (.slice el)] [z : TySize P el sz] {x y y' : Operand} {k k' : IntKind} (hx : ev e x = some v) [s : Arr v enc sz h xs] (hy : ev e y = some (.int k (xs.length : Nat))) (hy' : ev e y' = some (.int k' (xs.length : Nat))) :
    Quiet P ops ⟨d, .slice t x none (some y) (some y'), ty, pos, aft, none⟩ e o r (clipv v sz) := .mk fun a w he _ => by
  obtain ⟨henc, hm, ad, c, rfl, hle, hnn, hc⟩ := s.pf
  have hrun : (Instr.sliceAt t (.slice ad xs.length c) none (some (.int k (xs.length : Nat))) (some (.int k' (xs.length : Nat)))).run P w =
      .ok (clipv (.slice ad xs.length c) sz) w := by
    unfold Instr.sliceAt
    rw [bind_ok (u.pf w)]
    simp only
    unfold Instr.slice
    rw [bind_ok (u.pf w)]
    simp only
    have hsb : ∀ (kk : IntKind) (m : Nat) (code : BoundsCode), xs.length ≤ m → (Instr.sliceBound (.int kk ((xs.length : Nat) : Int)) m code).run P w = .ok xs.length w := fun kk m code hm2 => by
      have h0 : (0 : Int) ≤ (xs.length : Nat) := by omega
      unfold Instr.sliceBound
      rw [bind_ok (a := (kk, ((xs.length : Nat) : Int))) (w1 := w) rfl]
      simp only
      rw [if_pos ⟨h0, by omega⟩]
      rfl
    have hb : (Instr.sliceBounds true xs.length c none (some (.int k (xs.length : Nat))) (some (.int k' (xs.length : Nat)))).run P w = .ok (0, xs.length, xs.length) w := by
      unfold Instr.sliceBounds
      simp only [if_true]
      rw [bind_ok (hsb k' c _ hle)]
      rw [bind_ok (hsb k xs.length _ (Nat.le_refl _))]
      rfl
    rw [bind_ok hb]
    simp only
    rw [bind_ok (z.pf w)]
    rfl
  simp only [execOp, ev_rel he hx, Option.map_none, Option.map_some, ev_rel he hy, ev_rel he hy', run_val hrun]
end
end Go.X

/- Structs of numbers, compared. No condition. -/
set_option linter.unusedSimpArgs false
set_option linter.unusedVariables false
namespace Go.X
theorem run_eqInt {P : Program} {t : TypeId} {k' k : IntKind} [u : Und P t (.int k')] {m n : Int} {d : Nat} (w : World) : (Op.equalIn (d + 1) t (.int k m) (.int k n)).run P w = .ok (m == n) w := by
  unfold Op.equalIn
  rw [bind_ok (u.pf w)]
  simp only [if_true]
  rfl
/-- The fields of a struct, each with the values that are compared, and what comes of it. -/
inductive EqF (P : Program) (d : Nat) (xs ys : Array Value) : List Field → Bool → Prop
  | n : EqF P d xs ys [] true
  | c {f : Field} {fs : List Field} {k k' : IntKind} {m n : Int} {r : Bool} (hn : (f.name == "_") = false) (ht : IsAgg P f.type false) (u : Und P f.type (.int k')) (hx : xs[f.offset]? = some (.int k m)) (hy : ys[f.offset]? = some (.int k n)) (hr : EqF P d xs ys fs r) : EqF P d xs ys (f :: fs) (decide (m = n) && r)
theorem run_part {P : Program} {t : TypeId} [ht : IsAgg P t false] {xs : Array Value} {i : Nat} {v : Value} (h : xs[i]? = some v) (w : World) : (part t xs i).run P w = .ok v w := by
  unfold part
  rw [bind_ok (ht.pf w)]
  simp only [Bool.false_eq_true, if_false, h]
  rfl
theorem eq_loop {P : Program} {d : Nat} {xs ys : Array Value} {fs : List Field} {r : Bool} (h : EqF P (d + 1) xs ys fs r) (w : World) :
    (forIn (m := Sem) fs ((none, ()) : Option Bool × Unit) fun f __s =>
                  if f.name ≠ "_" then do
                    let __do_lift ← part f.type xs f.offset
                    let __do_lift_1 ← part f.type ys f.offset
                    let __do_lift ← Op.equalIn (d + 1) f.type __do_lift __do_lift_1
                    if (!__do_lift) = true then pure (ForInStep.done (some false, ()))
                      else pure (ForInStep.yield (none, ()))
                  else pure (ForInStep.yield (none, ()))).run P w = .ok (if r = true then (none, ()) else (some false, ())) w := by
  induction h with
  | n => rfl
  | @c f fs k k' m n r hn ht u hx hy hr ih =>
    rw [List.forIn_cons, if_pos (by intro h; rw [h] at hn; simp at hn)]
    by_cases hmn : m = n
    · subst hmn
      rw [bind_ok (a := ForInStep.yield (none, ())) (w1 := w)]
      · simp only
        rw [ih]; simp
      · rw [bind_ok (run_part (ht := ht) hx w), bind_ok (run_part (ht := ht) hy w), bind_ok (run_eqInt (u := u) w)]
        simp only [beq_self_eq_true, Bool.not_true, Bool.false_eq_true, if_false]
        rfl
    · rw [bind_ok (a := ForInStep.done (some false, ())) (w1 := w)]
      · simp only [hmn, decide_false, Bool.false_and, Bool.false_eq_true, if_false]
        rfl
      · rw [bind_ok (run_part (ht := ht) hx w), bind_ok (run_part (ht := ht) hy w), bind_ok (run_eqInt (u := u) w)]
        have : (m == n) = false := by simp [hmn]
        simp only [this, Bool.not_false, if_true]
        rfl
theorem run_eqStruct {P : Program} {t : TypeId} {fs : List Field} (u : Und P t (.struct fs.toArray)) (hs : P.stoodInHeld t = false) {xs ys : Array Value} {d : Nat} {r : Bool} (h : EqF P (d + 1) xs ys fs r) (w : World) :
    (Op.equalIn (d + 2) t (.agg xs) (.agg ys)).run P w = .ok r w := by
  unfold Op.equalIn
  rw [bind_ok (u.pf w)]
  simp only
  have hp : (program).run P w = .ok P w := rfl
  rw [bind_ok hp, if_neg (by rw [hs]; decide)]
  have hl := eq_loop h w
  rw [bind_ok (a := (if r = true then (none, ()) else (some false, ()))) (w1 := w)]
  · cases r <;> rfl
  · simp only [List.forIn_toArray]
    exact hl
section
variable {P : Program} {ops : Array Oper} {e : Env} {o r : List PHeap} {d : Option Tmp} {ty : TypeId} {pos : String} {aft : Array Edge}
theorem run_guardAgg {t : TypeId} {x y : Operand} {xs ys : Array Value} {op : BinOp} (hg : P.eqGuardType P.depth t = false) (hop : op = .eql ∨ op = .neq) (w : World) : (eqGuard op t x y (.agg xs) (.agg ys)).run P w = .ok () w := by
  have hp : (program).run P w = .ok P w := rfl
  rcases hop with rfl | rfl
  · unfold eqGuard
    simp only [Bool.not_true, Bool.false_eq_true, if_false]
    rw [bind_ok hp, bind_ok hp]
    simp only [hg, Bool.not_false, if_true]
    rfl
  · unfold eqGuard
    simp only [Bool.not_true, Bool.false_eq_true, if_false]
    rw [bind_ok hp, bind_ok hp]
    simp only [hg, Bool.not_false, if_true]
    rfl
theorem Q.eqlS {t t2 : TypeId} {x y : Operand} {fs : List Field} {us vs : List Value} {b : Bool} (hx : ev e x = some (.agg us.toArray)) (hy : ev e y = some (.agg vs.toArray)) (u : Und P t (.struct fs.toArray)) (hs : P.stoodInHeld t = false) (hg : P.eqGuardType P.depth t = false)
    (h : EqF P 9999 us.toArray vs.toArray fs b) : Quiet P ops ⟨d, .binOp .eql t x y t2, ty, pos, aft, none⟩ e o r (.bool b) := .mk fun a w he _ => by
  simp only [execOp, ev_rel he hx, ev_rel he hy]
  refine run_val ?_
  rw [bind_ok (run_guardAgg hg (.inl rfl) w)]
  unfold binOp
  simp only
  have h1 : (Op.equal t (.agg us.toArray) (.agg vs.toArray)).run P w = .ok b w := run_eqStruct (d := 9998) u hs h w
  rw [bind_ok h1]
  rfl
theorem Q.neqS {t t2 : TypeId} {x y : Operand} {fs : List Field} {us vs : List Value} {b : Bool} (hx : ev e x = some (.agg us.toArray)) (hy : ev e y = some (.agg vs.toArray)) (u : Und P t (.struct fs.toArray)) (hs : P.stoodInHeld t = false) (hg : P.eqGuardType P.depth t = false)
    (h : EqF P 9999 us.toArray vs.toArray fs b) : Quiet P ops ⟨d, .binOp .neq t x y t2, ty, pos, aft, none⟩ e o r (.bool (!b)) := .mk fun a w he _ => by
  simp only [execOp, ev_rel he hx, ev_rel he hy]
  refine run_val ?_
  rw [bind_ok (run_guardAgg hg (.inr rfl) w)]
  unfold binOp
  simp only
  have h1 : (Op.equal t (.agg us.toArray) (.agg vs.toArray)).run P w = .ok b w := run_eqStruct (d := 9998) u hs h w
  rw [bind_ok h1]
  rfl
end
end Go.X

/- copy into a part of a slice. No condition. -/
set_option linter.unusedSimpArgs false
set_option linter.unusedVariables false
namespace Go.X
section
variable {P : Program} {ops : Array Oper} {e : Env} {o r : List PHeap} {d : Option Tmp} {ty : TypeId} {pos : String} {aft : Array Edge}
variable {α : Type} {enc : α → List Value} {sz : Nat} {h : PHeap} {xs : List α} {v : Value}
theorem Stp0.copyC {t0 t1 el T : TypeId} [u : Und P t0 (.slice el)] [z : TySize P el sz] {x y : Operand} {vd v2 : Value} {h2 : PHeap} {ys : List α} {i j : Nat} {o1 : List PHeap} (hx : ev e x = some vd) (hd : vd = cutv v sz i j) (hy : ev e y = some v2)
    [s : OArr v enc sz T h xs] [tk : Take h o o1] [s2 : Arr v2 enc sz h2 ys] [m : InM h2 o r] (hij : i ≤ j) (hi : j ≤ xs.length) :
    Stp0 P ops ⟨d, .call ⟨.builtin .copy, #[x, y], #[t0, t1]⟩, ty, pos, aft, none⟩ e o r (fun v' o2 => ∃ h', v' = .int .i64 ((min ys.length (j - i) : Nat) : Int) ∧ OArr v enc sz T h' (splice xs (ys.take (j - i)) i) ∧ o2 = h' :: o1) := fun a w he hs => by
  subst hd
  have hs1 := hs.perm tk.pf
  have hsub2 : sub h2 w := m.pf.elim (hs.so _) (hs.sr _)
  have hx' := ev_rel he hx
  have hy' := ev_rel he hy
  obtain ⟨henc2, hm2, a2, c2, hv2, hle2, hnn2, hc2⟩ := s2.pf
  have hexec : ∀ w', (Builtin.copy_ #[t0, t1] ty #[cutv v sz i j, v2]).run P w = .ok (.int .i64 ((min ys.length (j - i) : Nat) : Int)) w' →
      (execOp (evA a) (⟨d, .call ⟨.builtin .copy, #[x, y], #[t0, t1]⟩, ty, pos, aft, none⟩ : Oper)).run P w = .ok (.value (.int .i64 ((min ys.length (j - i) : Nat) : Int))) w' := by
    intro w' hw'
    simp only [execOp, resolve, List.map_toArray, List.map_cons, List.map_nil, hx', hy']
    exact run_val hw'
  obtain ⟨henc, hm, ⟨rfl, rfl, rfl⟩ | ⟨b, c, cs, rfl, rfl, hle, hlen, ht⟩⟩ := s.pf
  · unfold Does
    rw [if_pos (by simp [Region.wanted]), hexec w (by
      have hj0 : j = 0 := by simpa using hi
      subst hj0
      have hi0 : i = 0 := by omega
      subst hi0
      have := run_copy (t0 := t0) (t1 := t1) (ty := ty) (el := el) (s2 := s2) (w := w) (w' := w) (P := P) hsub2 (ad := none) (m := 0) (c := 0) rfl
      simpa [cutv] using this)]
    refine ⟨emp :: o1, ⟨emp, rfl, ?_, rfl⟩, hs1⟩
    have hj0 : j = 0 := by simpa using hi
    subst hj0
    have hi0 : i = 0 := by omega
    subst hi0
    simp [splice]
    exact s
  · have hn' : min ys.length (j - i) ≤ j - i := Nat.min_le_right _ _
    have hsp : splice xs (ys.take (j - i)) i = xs.take i ++ ys.take (min ys.length (j - i)) ++ xs.drop (i + min ys.length (j - i)) := by
      unfold splice
      have e : min (ys.take (j - i)).length (xs.length - i) = min ys.length (j - i) := by rw [List.length_take]; omega
      rw [e, List.take_take, Nat.min_eq_left (by omega)]
    rw [hsp]
    have hny : min ys.length (j - i) ≤ ys.length := Nat.min_le_left _ _
    generalize hne : min ys.length (j - i) = n' at *
    have hZ : ((ys.take n').flatMap enc).length = n' * sz := by rw [flat_len henc, List.length_take, Nat.min_eq_left hny]
    have hmul1 : i * sz + n' * sz ≤ xs.length * sz := by rw [← Nat.add_mul]; exact Nat.mul_le_mul_right _ (by omega)
    have hmul2 : xs.length * sz ≤ c * sz := Nat.mul_le_mul_right _ hle
    have hh : w.heap[b]? = some (.cells cs.toArray T (0, 0)) := hs1.so _ List.mem_cons_self b _ (sing_self _ _)
    have hones : ∀ v ∈ (ys.take n').flatMap enc, one v = true := fun v hv => by
      obtain ⟨y, hy1, hy2⟩ := List.mem_flatMap.1 hv
      exact hm2.2 y (List.mem_of_mem_take hy1) v hy2
    obtain ⟨w', h1, h2, h3, h4⟩ := run_storeCells (P := P) (b := b) (k := i * sz) (T := T) ((ys.take n').flatMap enc) 0 w cs hones hh (by omega)
    have hst : ((match (if c = i then some (⟨b, 0, none⟩ : Addr) else (some (⟨b, 0, none⟩ : Addr)).map (·.add (i * sz))) with | some a => storeCells a ((ys.take n').flatMap enc) 0 | none => pure () : Sem Unit)).run P w = .ok () w' := by
      by_cases hci : c = i
      · rw [if_pos hci]
        have hn0 : n' = 0 := by omega
        subst hn0
        simp only [List.take_zero, List.flatMap_nil] at h1 ⊢
        exact h1
      · rw [if_neg hci]
        simp only [Option.map_some, add_none, Nat.zero_add]
        exact h1
    unfold Does
    rw [if_pos (by simp [Region.wanted]), hexec w' (by
      have := run_copy (t0 := t0) (t1 := t1) (ty := ty) (el := el) (s2 := s2) (w := w) (w' := w') (P := P) hsub2 (ad := (if c = i then some (⟨b, 0, none⟩ : Addr) else (some (⟨b, 0, none⟩ : Addr)).map (·.add (i * sz)))) (m := j - i) (c := c - i) (by rw [hne]; exact hst)
      rw [hne] at this
      exact this)]
    simp only [Nat.add_zero, hZ] at h2
    refine ⟨blk b (cs.take (i * sz) ++ (ys.take n').flatMap enc ++ cs.drop (i * sz + n' * sz)) T :: o1, ⟨_, rfl, ?_, rfl⟩, Sep.swap hs1 ?_ ?_ ?_ rfl h4⟩
    · have hlen' : (xs.take i ++ ys.take n' ++ xs.drop (i + n')).length = xs.length := by
        simp only [List.length_append, List.length_take, List.length_drop]; omega
      refine ⟨henc, ⟨by rw [hlen']; exact hm.1, fun y hy cc hcc => ?_⟩, .inr ⟨b, c, _, by rw [hlen'], rfl, by rw [hlen']; exact hle, ?_, ?_⟩⟩
      · rcases List.mem_append.1 hy with hy | hy
        · rcases List.mem_append.1 hy with hy | hy
          · exact hm.2 y (List.mem_of_mem_take hy) cc hcc
          · exact hm2.2 y (List.mem_of_mem_take hy) cc hcc
        · exact hm.2 y (List.mem_of_mem_drop hy) cc hcc
      · simp only [List.length_append, List.length_take, List.length_drop, hZ]; omega
      · rw [hlen']
        rw [List.flatMap_append, List.flatMap_append, flat_take henc xs, flat_drop henc xs, ← ht, Nat.add_mul]
        rw [List.take_append, List.take_append]
        simp only [List.length_append, List.length_take, hZ]
        rw [List.take_of_length_le (l := cs.take (i * sz)) (by rw [List.length_take]; omega), List.take_of_length_le (l := (ys.take n').flatMap enc) (by rw [hZ]; omega)]
        congr 1
        · congr 1
          rw [List.take_take, Nat.min_eq_left (by omega)]
        · rw [List.drop_take]
          congr 1
          omega
    · exact fun x hx => none_blk (blk_none hx)
    · intro x ob hb
      obtain ⟨rfl, rfl⟩ := sing_some hb
      exact h2
    · exact fun x hx => h3 x (blk_none hx)
theorem Stp.copyC {t0 t1 el T : TypeId} [u : Und P t0 (.slice el)] [z : TySize P el sz] {x y : Operand} {vd v2 : Value} {h2 : PHeap} {ys : List α} {i j : Nat} {o1 : List PHeap} (hx : ev e x = some vd) (hd : vd = cutv v sz i j) (hy : ev e y = some v2)
    [s : OArr v enc sz T h xs] [tk : Take h o o1] [s2 : Arr v2 enc sz h2 ys] [m : InM h2 o r] (hij : i ≤ j) (hi : j ≤ xs.length) :
    Stp P ops ⟨d, .call ⟨.builtin .copy, #[x, y], #[t0, t1]⟩, ty, pos, aft, none⟩ e o r (fun v' o2 => ∃ h', v' = .int .i64 ((min ys.length (j - i) : Nat) : Int) ∧ OArr v enc sz T h' (splice xs (ys.take (j - i)) i) ∧ o2 = h' :: o1) := fun D a w he hs =>
  (Stp0.copyC (tk := tk.more D) (m := m.more D) hx hd hy hij hi a w he hs).mono fun v w' ⟨o2, ⟨h', h1, h2, h3⟩, hs'⟩ => ⟨o2, ⟨h' :: o1, ⟨h', h1, h2, rfl⟩, by rw [h3]; exact List.Perm.swap _ _ _⟩, hs'⟩
end
section
variable {c : Cx} {ops : Array Oper} {rest : List Oper} {k : List Item} {e : Env} {o r : List PHeap} {d : Nat} {ty : TypeId} {pos : String} {aft : Array Edge}
variable {α : Type} {enc : α → List Value} {sz : Nat} {h : PHeap} {xs : List α} {v : Value}
theorem XO.copyC {t0 t1 el T : TypeId} [u : Und c.P t0 (.slice el)] [z : TySize c.P el sz] {x y : Operand} {vd v2 : Value} {h2 : PHeap} {ys : List α} {i j : Nat} {o1 : List PHeap} (hx : ev e x = some vd) (hd : vd = cutv v sz i j) (hy : ev e y = some v2)
    [s : OArr v enc sz T h xs] [tk : Take h o o1] [s2 : Arr v2 enc sz h2 ys] [m : InM h2 o (c.B :: r)] (hij : i ≤ j) (hi : j ≤ xs.length)
    (hn : ∀ h', OArr v enc sz T h' (splice xs (ys.take (j - i)) i) → XO c ops rest k ((d, some (.int .i64 ((min ys.length (j - i) : Nat) : Int))) :: e) (h' :: o1) r) :
    XO c ops (⟨some d, .call ⟨.builtin .copy, #[x, y], #[t0, t1]⟩, ty, pos, aft, none⟩ :: rest) k e o r :=
  XO.s (Stp.copyC hx hd hy hij hi) fun v' o2 ⟨h', h1, h2, h3⟩ => by subst h1 h3; exact hn h' h2
variable {fl : List Nat} {f : List PHeap} {i0 : Nat} {bb : Bool} {tt uu : Plan}
theorem XT.copyC {t0 t1 el T : TypeId} [u : Und c.P t0 (.slice el)] [z : TySize c.P el sz] {x y : Operand} {vd v2 : Value} {h2 : PHeap} {ys : List α} {i j : Nat} {o1 : List PHeap}
    (hi0 : ops[i0]? = some ⟨some d, .call ⟨.builtin .copy, #[x, y], #[t0, t1]⟩, ty, pos, aft, none⟩) (hok : okOper c.N ⟨some d, .call ⟨.builtin .copy, #[x, y], #[t0, t1]⟩, ty, pos, aft, none⟩ = true)
    (hx : ev e x = some vd) (hd : vd = cutv v sz i j) (hy : ev e y = some v2)
    [s : OArr v enc sz T h xs] [tk : Take h o o1] [s2 : Arr v2 enc sz h2 ys] [m : InM h2 o (c.B :: r)] (hij : i ≤ j) (hi : j ≤ xs.length)
    (hn : ∀ h', OArr v enc sz T h' (splice xs (ys.take (j - i)) i) → Keeps bb f (h' :: o1) ∧ XT c ops fl f k r tt ((d, some (.int .i64 ((min ys.length (j - i) : Nat) : Int))) :: e) (h' :: o1)) (hu : XT c ops fl f k r uu e o) :
    XT c ops fl f k r (.br i0 bb tt uu) e o :=
  XT.s hi0 hok (Stp.copyC hx hd hy hij hi) (fun v' o2 ⟨h', h1, h2, h3⟩ => by subst h1 h3; exact hn h' h2) hu
end
end Go.X

/- Slices of 16-bit numbers. No condition. -/
set_option linter.unusedSimpArgs false
set_option linter.unusedVariables false
namespace Go.X
open Go.ChangeShapes Go.WideShapes Go.Deep
def encU16 (n : UInt16) : List Value := [.int .u16 n.toNat]
section
variable {H : Type} {enc : TypeId × Value → H} {P : Program} {W : World} {base : Nat} {v : Value} {d : DataW H} {ps : List MemPlace}
theorem arr_u16s {held : Bool} {t e : TypeId} {fuel : Nat} {cs : List Value} {x : DataW H × List MemPlace} (ht : P.underlying t = some (.slice e)) (he : P.underlying e = some (.int .u16)) (hc : P.cellsOf e = 1)
    (h : DataW.trod enc P W 0 (fun _ => true) held fuel t cs = some x) (hw : ∀ elems spare, x.1 = .slice elems spare → elems.length + spare.length ≤ 140737488355328) : ∃ v xs, cs = [v] ∧ Arr v encU16 1 (heapOf W) xs := by
  rcases open_ints ht he hc h with ⟨rfl, _⟩ | ⟨a, len, cap, zs, rfl, _, hl, hm, hz, hx, hcell, hwz⟩
  · exact ⟨_, [], rfl, Arr.nil (fun _ => rfl)⟩
  · have hz' : zs.length = cap := by simpa using hz
    have hb : len ≤ 140737488355328 := by
      have := hw _ _ (by rw [hx])
      simp [lits] at this
      omega
    refine ⟨_, (zs.take len).map fun n => UInt16.ofNat n.toNat, rfl, arr_one (fun x => ⟨_, rfl, rfl⟩) (by simp; omega) hl hb fun i hi u hu => ?_⟩
    have hi2 : i < zs.length := by simp at hi; omega
    rw [hcell i hi2]
    simp only [encU16, List.cons.injEq, and_true] at hu
    rw [← hu]
    have hb := range_u16 hwz i
    have e : zs[i]?.getD 0 = zs[i] := by simp [hi2]
    rw [e] at hb
    simp only [List.getElem_map, List.getElem_take, List.getD_eq_getElem?_getD, e, UInt16.toNat_ofNat']
    congr 2
    omega
theorem open_u16s {t e : TypeId} (ht : P.underlying t = some (.slice e)) (he : P.underlying e = some (.int .u16)) (hc : P.cellsOf e = 1) (hb : 0 < P.bytesOf e) (hv : Value.okWide P W .any base t v)
    (h : DataW.Trod enc P W 0 (fun _ => true) true t v d ps) (hw : ∀ n ∈ d.weights P t, n ≤ reachBytes) : ∃ xs : List UInt16, Arr v encU16 1 (heapOf W) xs := by
  obtain ⟨fuel, hf⟩ := h
  rw [slice_cells ht hv] at hf
  obtain ⟨v', xs, hcs, hA⟩ := arr_u16s ht he hc hf (slice_weight ht hb hw)
  simp only [List.cons.injEq, and_true] at hcs
  subst hcs
  exact ⟨xs, hA⟩
end
end Go.X

/- min of three. No condition. -/
set_option linter.unusedVariables false
namespace Go.X
section
variable {P : Program} {ops : Array Oper} {e : Env} {o r : List PHeap} {d : Option Tmp} {ty : TypeId} {pos : String} {aft : Array Edge}
theorem run_min3 {l m n : Int} {k : IntKind} {ty' : Array TypeId} {w : World} {cs : Array Bool} :
    (builtin .min ty' ty cs #[.int k l, .int k m, .int k n]).run P w = .ok (.value (.int k (min (min l m) n))) w := by
  simp only [builtin]
  refine run_val ?_
  have h1 : Builtin.min_ ty' ty #[.int k l, .int k m, .int k n] = (pure (.int k (if n < (if m < l then m else l) then n else (if m < l then m else l))) : Sem Value) := by
    simp [Builtin.min_, Builtin.min2]
  rw [h1]
  have h2 : (if n < (if m < l then m else l) then n else (if m < l then m else l)) = min (min l m) n := by omega
  rw [h2]; rfl
theorem Q.min3 {x y z : Operand} {tys : Array TypeId} {k : IntKind} {l m n : Int} (hx : ev e x = some (.int k l)) (hy : ev e y = some (.int k m)) (hz : ev e z = some (.int k n)) :
    Quiet P ops ⟨d, .call ⟨.builtin .min, #[x, y, z], tys⟩, ty, pos, aft, none⟩ e o r (.int k (Min.min (Min.min l m) n)) := .mk fun a w he _ => by
  simp only [execOp, resolve, List.map_toArray, List.map_cons, List.map_nil, ev_rel he hx, ev_rel he hy, ev_rel he hz]
  rw [bind_ok (a := _) (w1 := w) rfl]
  simp only [invoke]
  exact run_min3
end
end Go.X

/- A byte of a string. No condition. -/
set_option linter.unusedVariables false
namespace Go.X
section
variable {P : Program} {ops : Array Oper} {e : Env} {o r : List PHeap} {d : Option Tmp} {ty : TypeId} {pos : String} {aft : Array Edge}
theorem Q.indexS {t : TypeId} [u : Und P t .string] {x y : Operand} {k : IntKind} {n : Int} {s : ByteArray} {b : UInt8} (hx : ev e x = some (.string s)) (hy : ev e y = some (.int k n))
    (h0 : 0 ≤ n) (hv : s[n.toNat]? = some b) : Quiet P ops ⟨d, .index t x y, ty, pos, aft, none⟩ e o r (.int .u8 b.toNat) := .mk fun a w he _ => by
  simp only [execOp, ev_rel he hx, ev_rel he hy]
  refine run_val ?_
  unfold Instr.index
  have e1 : (asIntOf (.int k n)).run P w = .ok (k, n) w := rfl
  rw [bind_ok e1]
  simp only
  rw [bind_ok (u.pf w)]
  simp only
  rw [if_pos h0, hv]
  rfl
end
end Go.X

/- Pointers to elements, functions compared with nil. No condition. -/
set_option linter.unusedVariables false
namespace Go.X
section
variable {α : Type} {P : Program} {ops : Array Oper} {e : Env} {o r : List PHeap} {d : Option Tmp} {ty : TypeId} {pos : String} {aft : Array Edge} {v : Value} {enc : α → List Value} {sz : Nat} {h : PHeap} {xs : List α}
theorem Q.nilCheckE {x : Operand} {i k : Nat} (hx : ev e x = some (pat v sz i k)) [s : Arr v enc sz h xs] (hi : i < xs.length) : Quiet P ops ⟨d, .nilCheck x, ty, pos, aft, none⟩ e o r (pat v sz i k) :=
  .mk fun a w he _ => by
    obtain ⟨b, kk, cs, T, fr, c, hv, hb, hp, hc⟩ := s.at' (i := i) hi
    have hx' := ev_rel he hx
    rw [hp] at hx' ⊢
    simp only [execOp, hx']; rfl
theorem run_neqFn {t : TypeId} {a : Bool} {x y : Value} {q : Array TypeId} {q2 : Array TypeId} {q3 : Bool} [u : Und P t (.func q q2 q3)] (hxy : (x = .nilFunc ∧ y = .nilFunc ∧ a = true) ∨ ((∃ f vs us, x = .func f vs us) ∧ y = .nilFunc ∧ a = false)) (w : World) :
    (Op.equal t x y).run P w = .ok a w := by
  unfold Op.equal Op.maxDepth
  unfold Op.equalIn
  rw [bind_ok (u.pf w)]
  rcases hxy with ⟨rfl, rfl, rfl⟩ | ⟨⟨f, vs, us, rfl⟩, rfl, rfl⟩ <;> rfl
theorem Q.neqNilF {t t' : TypeId} {q : Array TypeId} {q2 : Array TypeId} {q3 : Bool} [u : Und P t (.func q q2 q3)] {x : Operand} {f : Fn} {vs us : Array Value} (hx : ev e x = some (.func f vs us)) :
    Quiet P ops ⟨d, .binOp .neq t x (.const .nilFunc) t', ty, pos, aft, none⟩ e o r (.bool true) :=
  .mk fun a w he _ => by
    have e1 : evA a (.const .nilFunc) = .nilFunc := rfl
    simp only [execOp, ev_rel he hx, e1]
    refine run_val ?_
    have h1 : (eqGuard .neq t x (.const .nilFunc) (.func f vs us) .nilFunc).run P w = .ok () w := rfl
    rw [bind_ok h1]
    unfold binOp
    simp only
    rw [bind_ok (run_neqFn (a := false) (.inr ⟨⟨_, _, _, rfl⟩, rfl, rfl⟩) w)]
    rfl
theorem Q.neqNilN {t t' : TypeId} {q : Array TypeId} {q2 : Array TypeId} {q3 : Bool} [u : Und P t (.func q q2 q3)] {x : Operand} (hx : ev e x = some .nilFunc) :
    Quiet P ops ⟨d, .binOp .neq t x (.const .nilFunc) t', ty, pos, aft, none⟩ e o r (.bool false) :=
  .mk fun a w he _ => by
    have e1 : evA a (.const .nilFunc) = .nilFunc := rfl
    simp only [execOp, ev_rel he hx, e1]
    refine run_val ?_
    have h1 : (eqGuard .neq t x (.const .nilFunc) .nilFunc .nilFunc).run P w = .ok () w := rfl
    rw [bind_ok h1]
    unfold binOp
    simp only
    rw [bind_ok (run_neqFn (a := true) (.inl ⟨rfl, rfl, rfl⟩) w)]
    rfl
end
end Go.X

/- Plain facts on lists. No condition. -/
set_option linter.unusedVariables false
namespace Go.X
theorem take_step {α : Type} [Inhabited α] {xs ys : List α} {i : Nat} (h : xs.take i = ys.take i) (hx : i < xs.length) (hy : i < ys.length) (he : xs.getD i default = ys.getD i default) : xs.take (i + 1) = ys.take (i + 1) := by
  rw [List.take_succ_eq_append_getElem hx, List.take_succ_eq_append_getElem hy, h]
  simp [hx, hy] at he
  rw [he]
theorem take_all {α : Type} {xs ys : List α} {i : Nat} (h : xs.take i = ys.take i) (hx : ¬ (i : Int) < xs.length) (hl : xs.length = ys.length) : xs = ys := by
  rw [List.take_of_length_le (by omega), List.take_of_length_le (by omega)] at h
  exact h
theorem getD_mem {α : Type} [Inhabited α] {xs : List α} {i : Nat} (h : i < xs.length) : xs.getD i default ∈ xs := by
  simp [h]
/-- The first place that a test takes; -1 if there is none. -/
def findFirst {α : Type} (p : α → Bool) (xs : List α) : Int := match xs.findIdx? p with
  | some i => i
  | none => -1
theorem any_step {α : Type} [Inhabited α] {p : α → Bool} {xs : List α} {i : Nat} (h : (xs.take i).any p = false) (hx : i < xs.length) (hp : p (xs.getD i default) = false) : (xs.take (i + 1)).any p = false := by
  rw [List.take_succ_eq_append_getElem hx, List.any_append, h]
  simp [hx] at hp
  simp [hp]
theorem findFirst_here {α : Type} [Inhabited α] {p : α → Bool} {xs : List α} {i : Nat} (h : (xs.take i).any p = false) (hx : i < xs.length) (hp : p (xs.getD i default) = true) : findFirst p xs = i := by
  unfold findFirst
  have : xs.findIdx? p = some i := by
    rw [List.findIdx?_eq_some_iff_getElem]
    simp [hx] at hp
    refine ⟨hx, hp, fun j hj => ?_⟩
    have := List.any_eq_false.1 h xs[j] (by rw [List.mem_take_iff_getElem]; exact ⟨j, by omega, rfl⟩)
    simpa using this
  rw [this]
theorem findFirst_none {α : Type} {p : α → Bool} {xs : List α} {i : Nat} (h : (xs.take i).any p = false) (hx : ¬ (i : Int) < xs.length) : findFirst p xs = -1 := by
  rw [List.take_of_length_le (by omega)] at h
  unfold findFirst
  have : xs.findIdx? p = none := by
    rw [List.findIdx?_eq_none_iff]
    intro x hx
    have := List.any_eq_false.1 h x hx
    simpa using this
  rw [this]
theorem findFirst_any {α : Type} {p : α → Bool} {xs : List α} : decide ((0 : Int) ≤ findFirst p xs) = xs.any p := by
  unfold findFirst
  cases h : xs.findIdx? p with
  | none =>
    rw [List.findIdx?_eq_none_iff] at h
    have : xs.any p = false := List.any_eq_false.2 (fun x hx => by simp [h x hx])
    simp [this]
  | some i =>
    rw [List.findIdx?_eq_some_iff_getElem] at h
    obtain ⟨hi, hp, _⟩ := h
    have : xs.any p = true := List.any_eq_true.2 ⟨xs[i], List.getElem_mem hi, hp⟩
    simp only [this, decide_eq_true_eq]
    omega
end Go.X

/- Halls, in plain numbers and lists. No condition. -/
set_option linter.unusedVariables false
namespace Go.X
structure HRoom where
  store : Int
  limit : Int
structure HWall where
  a : Int
  b : Int
  pass : Int
structure HBranch where
  up : Int
  opn : Int
  leak : Int
structure HCooler where
  room : Int
  br : Int
  gain : Int
  carry : Int
  supply : Int
instance : Inhabited HRoom := ⟨⟨0, 0⟩⟩
instance : Inhabited HWall := ⟨⟨0, 0, 0⟩⟩
instance : Inhabited HBranch := ⟨⟨0, 0, 0⟩⟩
instance : Inhabited HCooler := ⟨⟨0, 0, 0, 0, 0⟩⟩
structure Hall where
  rooms : List HRoom
  walls : List HWall
  branches : List HBranch
  coolers : List HCooler
structure HCase where
  load : List Int
  out : Int
  pump : Int
def sumTo (f : Nat → Int) : Nat → Int
  | 0 => 0
  | n + 1 => sumTo f n + f n
def inP (n m : Int) : Bool := decide (0 ≤ n) && decide (n ≤ m)
def ixP (n : Int) (len : Nat) : Bool := decide (0 ≤ n) && decide (n < (len : Int))
def okRoom (x : HRoom) : Bool := (decide (1 ≤ x.store) && decide (x.store ≤ 1000000)) && inP x.limit 1000000
def okWall (n : Nat) (x : HWall) : Bool := ((ixP x.a n && (decide (x.b = -1) || ixP x.b n)) && decide (x.a ≠ x.b)) && inP x.pass 100000
def okBranch (i : Nat) (x : HBranch) : Bool := ((if i = 0 then decide (x.up = -1) else ixP x.up i) && inP x.opn 100) && inP x.leak 100000
def okCooler (n m : Nat) (x : HCooler) : Bool := (((ixP x.room n && ixP x.br m) && inP x.gain 100000) && inP x.carry 1000) && inP x.supply 1000000
/-- All of the first n. -/
def allTo (p : Nat → Bool) (n : Nat) : Bool := (List.range n).all p
theorem allTo_succ {p : Nat → Bool} {n : Nat} : allTo p (n + 1) = (allTo p n && p n) := by
  unfold allTo; rw [List.range_succ, List.all_append]; simp
theorem allTo_false {p : Nat → Bool} {n s : Nat} (hs : s < n) (h : p s = false) : allTo p n = false := by
  unfold allTo
  rw [List.all_eq_false]
  exact ⟨s, List.mem_range.2 hs, by simp [h]⟩
theorem allTo_at {p : Nat → Bool} {n s : Nat} (h : allTo p n = true) (hs : s < n) : p s = true := by
  unfold allTo at h
  rw [List.all_eq_true] at h
  exact h s (List.mem_range.2 hs)
def roomsOk (h : Hall) (n : Nat) : Bool := allTo (fun i => okRoom (h.rooms.getD i default)) n
def wallsOk (h : Hall) (n : Nat) : Bool := allTo (fun i => okWall h.rooms.length (h.walls.getD i default)) n
def branchesOk (h : Hall) (n : Nat) : Bool := allTo (fun i => okBranch i (h.branches.getD i default)) n
def coolersOk (h : Hall) (n : Nat) : Bool := allTo (fun i => okCooler h.rooms.length h.branches.length (h.coolers.getD i default)) n
def allowedP (h : Hall) : Bool := ((roomsOk h h.rooms.length && wallsOk h h.walls.length) && branchesOk h h.branches.length) && coolersOk h h.coolers.length
def wslope (h : Hall) (i : Nat) (k : Nat) : Int := if (h.walls.getD k default).a = i ∨ (h.walls.getD k default).b = i then (h.walls.getD k default).pass else 0
def cslope (h : Hall) (i : Nat) (k : Nat) : Int := if (h.coolers.getD k default).room = i then (h.coolers.getD k default).gain else 0
def slope (h : Hall) (i : Nat) : Int := sumTo (wslope h i) h.walls.length + sumTo (cslope h i) h.coolers.length
def hcheck (h : Hall) : Int :=
  if (((((h.rooms.length : Int) < 1 ∨ 8 < (h.rooms.length : Int)) ∨ 16 < (h.walls.length : Int)) ∨ 16 < (h.branches.length : Int)) ∨ 16 < (h.coolers.length : Int)) then 2
  else if allowedP h = false then 6
  else if allTo (fun i => decide (slope h i ≤ (h.rooms.getD i default).store)) h.rooms.length = true then 0 else 70
/-- What is known of a valid hall. -/
structure HOk (h : Hall) : Prop where
  r1 : 1 ≤ h.rooms.length
  r2 : h.rooms.length ≤ 8
  w2 : h.walls.length ≤ 16
  b2 : h.branches.length ≤ 16
  c2 : h.coolers.length ≤ 16
  room : ∀ i, i < h.rooms.length → 1 ≤ (h.rooms.getD i default).store ∧ (h.rooms.getD i default).store ≤ 1000000 ∧ 0 ≤ (h.rooms.getD i default).limit ∧ (h.rooms.getD i default).limit ≤ 1000000
  wall : ∀ i, i < h.walls.length → (0 ≤ (h.walls.getD i default).a ∧ (h.walls.getD i default).a < h.rooms.length) ∧ ((h.walls.getD i default).b = -1 ∨ (0 ≤ (h.walls.getD i default).b ∧ (h.walls.getD i default).b < h.rooms.length)) ∧
    (h.walls.getD i default).a ≠ (h.walls.getD i default).b ∧ 0 ≤ (h.walls.getD i default).pass ∧ (h.walls.getD i default).pass ≤ 100000
  branch : ∀ i, i < h.branches.length → (if i = 0 then (h.branches.getD i default).up = -1 else 0 ≤ (h.branches.getD i default).up ∧ (h.branches.getD i default).up < i) ∧ (0 ≤ (h.branches.getD i default).opn ∧ (h.branches.getD i default).opn ≤ 100) ∧
    0 ≤ (h.branches.getD i default).leak ∧ (h.branches.getD i default).leak ≤ 100000
  cooler : ∀ i, i < h.coolers.length → (0 ≤ (h.coolers.getD i default).room ∧ (h.coolers.getD i default).room < h.rooms.length) ∧ (0 ≤ (h.coolers.getD i default).br ∧ (h.coolers.getD i default).br < h.branches.length) ∧
    (0 ≤ (h.coolers.getD i default).gain ∧ (h.coolers.getD i default).gain ≤ 100000) ∧ (0 ≤ (h.coolers.getD i default).carry ∧ (h.coolers.getD i default).carry ≤ 1000) ∧ 0 ≤ (h.coolers.getD i default).supply ∧ (h.coolers.getD i default).supply ≤ 1000000
  slope : ∀ i, i < h.rooms.length → X.slope h i ≤ (h.rooms.getD i default).store
theorem hcheck_ok {h : Hall} (hc : hcheck h = 0) : HOk h := by
  unfold hcheck at hc
  split at hc
  · omega
  · rename_i h1
    split at hc
    · omega
    · rename_i h2
      split at hc
      · rename_i h3
        simp only [Bool.not_eq_false, allowedP, Bool.and_eq_true] at h2
        obtain ⟨⟨⟨a1, a2⟩, a3⟩, a4⟩ := h2
        refine ⟨by omega, by omega, by omega, by omega, by omega, fun i hi => ?_, fun i hi => ?_, fun i hi => ?_, fun i hi => ?_, fun i hi => ?_⟩
        · have := allTo_at a1 hi
          simp only [okRoom, inP, Bool.and_eq_true, decide_eq_true_eq] at this
          omega
        · have := allTo_at a2 hi
          simp only [okWall, inP, ixP, Bool.and_eq_true, Bool.or_eq_true, decide_eq_true_eq] at this
          omega
        · have := allTo_at a3 hi
          simp only [okBranch, inP, ixP, Bool.and_eq_true, decide_eq_true_eq] at this
          by_cases h0 : i = 0
          · subst h0; simp only [if_true, decide_eq_true_eq] at this ⊢; omega
          · rw [if_neg h0] at this ⊢
            simp only [Bool.and_eq_true, decide_eq_true_eq] at this
            omega
        · have := allTo_at a4 hi
          simp only [okCooler, inP, ixP, Bool.and_eq_true, decide_eq_true_eq] at this
          omega
        · have := allTo_at h3 hi
          simpa using this
      · omega
/-- The sum of what is open below a branch. -/
def sumOpen (h : Hall) (u : Int) (n : Nat) : Int := sumTo (fun k => if (h.branches.getD k default).up = u then (h.branches.getD k default).opn else 0) n
def feedOf (h : Hall) (pump : Int) (out : List Int) (n : Nat) : Int :=
  if n = 0 then pump
  else if 0 < sumOpen h (h.branches.getD n default).up h.branches.length then
    out.getD (h.branches.getD n default).up.toNat 0 * (h.branches.getD n default).opn / sumOpen h (h.branches.getD n default).up h.branches.length
  else 0
def flowsTo (h : Hall) (pump : Int) : Nat → List Int
  | 0 => []
  | n + 1 => flowsTo h pump n ++ [max (feedOf h pump (flowsTo h pump n) n - (h.branches.getD n default).leak) 0]
def flowsL (h : Hall) (pump : Int) : List Int := flowsTo h pump h.branches.length
def onBr (h : Hall) (b : Int) (n : Nat) : Int := sumTo (fun k => if (h.coolers.getD k default).br = b then 1 else 0) n
def takenAt (h : Hall) (t f : List Int) (k : Nat) : Int :=
  min (max ((h.coolers.getD k default).gain * (t.getD (h.coolers.getD k default).room.toNat 0 - (h.coolers.getD k default).supply)) 0)
    ((h.coolers.getD k default).carry * f.getD (h.coolers.getD k default).br.toNat 0 / onBr h (h.coolers.getD k default).br h.coolers.length)
def takenL (h : Hall) (t : List Int) (pump : Int) : List Int := (List.range h.coolers.length).map (takenAt h t (flowsL h pump))
def wheat (h : Hall) (t : List Int) (out : Int) (i : Nat) (k : Nat) : Int :=
  if (h.walls.getD k default).a = i then (h.walls.getD k default).pass * ((if 0 ≤ (h.walls.getD k default).b then t.getD (h.walls.getD k default).b.toNat 0 else out) - t.getD i 0)
  else if (h.walls.getD k default).b = i then (h.walls.getD k default).pass * (t.getD (h.walls.getD k default).a.toNat 0 - t.getD i 0)
  else 0
def cheat (h : Hall) (taken : List Int) (i : Nat) (k : Nat) : Int := if (h.coolers.getD k default).room = i then - taken.getD k 0 else 0
def heatOf (h : Hall) (t : List Int) (c : HCase) (i : Nat) : Int :=
  (h.rooms.getD i default).store * t.getD i 0 + c.load.getD i 0 + sumTo (wheat h t c.out i) h.walls.length + sumTo (cheat h (takenL h t c.pump) i) h.coolers.length
def nextAt (h : Hall) (t : List Int) (c : HCase) (i : Nat) : Int := min (heatOf h t c i / (h.rooms.getD i default).store) 1000000
def nextL (h : Hall) (t : List Int) (c : HCase) : List Int := (List.range h.rooms.length).map (nextAt h t c)
def warmP (h : Hall) (t : List Int) : Int := if (t.length : Int) ≠ h.rooms.length then 1 else if t.any (fun n => !inP n 1000000) = true then 6 else 0
def casedP (h : Hall) (c : HCase) : Int := if (c.load.length : Int) ≠ h.rooms.length then 1 else if (c.load.any (fun n => !inP n 10000000) = true ∨ ¬ inP c.out 1000000 = true) ∨ ¬ inP c.pump 100000 = true then 6 else 0
def bothP (l : List Int) : Int := if 1 ∈ l then 1 else if 6 ∈ l then 6 else 0
def nextG (h : Hall) (t : List Int) (c : HCase) : List Int × Int :=
  if hcheck h ≠ 0 then ([], hcheck h) else if bothP [warmP h t, casedP h c] ≠ 0 then ([], bothP [warmP h t, casedP h c]) else (nextL h t c, 0)
def flowsG (h : Hall) (pump : Int) : List Int × Int := if hcheck h ≠ 0 then ([], hcheck h) else if ¬ inP pump 100000 = true then ([], 6) else (flowsL h pump, 0)
structure TOk (h : Hall) (t : List Int) : Prop where
  len : t.length = h.rooms.length
  rng : ∀ i, i < t.length → 0 ≤ t.getD i 0 ∧ t.getD i 0 ≤ 1000000
structure COk (h : Hall) (c : HCase) : Prop where
  len : c.load.length = h.rooms.length
  rng : ∀ i, i < c.load.length → 0 ≤ c.load.getD i 0 ∧ c.load.getD i 0 ≤ 10000000
  out : 0 ≤ c.out ∧ c.out ≤ 1000000
  pump : 0 ≤ c.pump ∧ c.pump ≤ 100000
theorem any_no {l : List Int} {m : Int} (h : ¬ l.any (fun n => !inP n m) = true) (i : Nat) (hi : i < l.length) : 0 ≤ l.getD i 0 ∧ l.getD i 0 ≤ m := by
  have h1 : l.any (fun n => !inP n m) = false := by simpa using h
  have := List.any_eq_false.1 h1 (l.getD i 0) (getD_mem hi)
  simp only [inP, Bool.not_eq_true', Bool.and_eq_false_iff, decide_eq_false_iff_not] at this
  omega
theorem warm_ok {h : Hall} {t : List Int} (hw : warmP h t = 0) : TOk h t := by
  unfold warmP at hw
  split at hw
  · omega
  · split at hw
    · omega
    · rename_i h1 h2
      exact ⟨by omega, any_no h2⟩
theorem cased_ok {h : Hall} {c : HCase} (hw : casedP h c = 0) : COk h c := by
  unfold casedP at hw
  split at hw
  · omega
  · split at hw
    · omega
    · rename_i h1 h2
      simp only [not_or, Classical.not_not] at h2
      obtain ⟨⟨a, b⟩, d⟩ := h2
      simp only [inP, Bool.and_eq_true, decide_eq_true_eq] at b d
      exact ⟨by omega, any_no a, b, d⟩
theorem warm_vals (h : Hall) (t : List Int) : warmP h t = 0 ∨ warmP h t = 1 ∨ warmP h t = 6 := by
  unfold warmP; split
  · simp
  · split <;> simp
theorem cased_vals (h : Hall) (c : HCase) : casedP h c = 0 ∨ casedP h c = 1 ∨ casedP h c = 6 := by
  unfold casedP; split
  · simp
  · split <;> simp
theorem both_ok {h : Hall} {t : List Int} {c : HCase} (hb : bothP [warmP h t, casedP h c] = 0) : TOk h t ∧ COk h c := by
  have h1 := warm_vals h t
  have h2 := cased_vals h c
  unfold bothP at hb
  split at hb
  · omega
  · split at hb
    · omega
    · rename_i h3 h4
      simp only [List.mem_cons, List.not_mem_nil, or_false, not_or] at h3 h4
      exact ⟨warm_ok (by omega), cased_ok (by omega)⟩
end Go.X

/- Banks: what the functions compute, and that all stays small. No condition. -/
set_option linter.unusedVariables false
namespace Go.X
structure BBat where
  energy : Int
  full : Int
  power : Int
  charge : Int
deriving DecidableEq, Inhabited
structure BGen where
  power : Int
  ramp : Int
  delay : Int
  pause : Int
  tries : Int
deriving DecidableEq, Inhabited
structure BSpan where
  seconds : Int
  power : Int
deriving DecidableEq, Inhabited
structure BCell where
  bat : BBat
  now : Int
deriving DecidableEq, Inhabited
structure BBank where
  bats : List BBat
  gens : List BGen
deriving DecidableEq, Inhabited
structure BRes where
  dark : Int
  energy : List Int
  burnt : List Int
  served : Int
deriving DecidableEq, Inhabited
structure BSt where
  cells : List BCell
  burnt : List Int
  served : Int
deriving DecidableEq, Inhabited
def outP (m n : Int) : Bool := decide (n < 0) || decide (m < n)
def inA (m : Int) (l : List Int) : Bool := !(l.any (outP m))
theorem outP_false {m n : Int} : outP m n = false ↔ 0 ≤ n ∧ n ≤ m := by
  unfold outP
  rw [Bool.or_eq_false_iff, decide_eq_false_iff_not, decide_eq_false_iff_not]; omega
theorem inA_one {m n : Int} : inA m [n] = true ↔ 0 ≤ n ∧ n ≤ m := by
  unfold inA
  rw [Bool.not_eq_true', List.any_cons, List.any_nil, Bool.or_false, outP_false]
theorem inA_two {m a b : Int} : inA m [a, b] = true ↔ (0 ≤ a ∧ a ≤ m) ∧ (0 ≤ b ∧ b ≤ m) := by
  unfold inA
  rw [Bool.not_eq_true', List.any_cons, List.any_cons, List.any_nil, Bool.or_false, Bool.or_eq_false_iff, outP_false, outP_false]
def batOk (x : BBat) : Bool := (inA 100000000000 [x.energy, x.full] && decide (x.energy ≤ x.full)) && inA 1000000 [x.power, x.charge]
def genOk (g : BGen) : Bool := ((inA 1000000 [g.power, g.ramp] && inA 3600 [g.delay, g.pause]) && decide (1 ≤ g.tries)) && decide (g.tries ≤ 5)
structure BatOk (x : BBat) : Prop where
  e0 : 0 ≤ x.energy
  ef : x.energy ≤ x.full
  f1 : x.full ≤ 100000000000
  p0 : 0 ≤ x.power
  p1 : x.power ≤ 1000000
  c0 : 0 ≤ x.charge
  c1 : x.charge ≤ 1000000
structure GenOk (g : BGen) : Prop where
  p0 : 0 ≤ g.power
  p1 : g.power ≤ 1000000
  r0 : 0 ≤ g.ramp
  r1 : g.ramp ≤ 1000000
  d0 : 0 ≤ g.delay
  d1 : g.delay ≤ 3600
  q0 : 0 ≤ g.pause
  q1 : g.pause ≤ 3600
  t0 : 1 ≤ g.tries
  t1 : g.tries ≤ 5
theorem batOk_iff {x : BBat} : batOk x = true ↔ BatOk x := by
  unfold batOk
  rw [Bool.and_eq_true, Bool.and_eq_true, inA_two, inA_two, decide_eq_true_eq]
  exact ⟨fun h => ⟨by omega, by omega, by omega, by omega, by omega, by omega, by omega⟩, fun ⟨a, b, c, d, e, f, g⟩ => by omega⟩
theorem genOk_iff {x : BGen} : genOk x = true ↔ GenOk x := by
  unfold genOk
  rw [Bool.and_eq_true, Bool.and_eq_true, Bool.and_eq_true, inA_two, inA_two, decide_eq_true_eq, decide_eq_true_eq]
  exact ⟨fun h => ⟨by omega, by omega, by omega, by omega, by omega, by omega, by omega, by omega, by omega, by omega⟩, fun ⟨a, b, c, d, e, f, g, h, i, j⟩ => by omega⟩
def bcheck (b : BBank) : Int :=
  if 8 < b.bats.length ∨ 6 < b.gens.length then 2
  else if b.bats.any (fun x => !batOk x) = true ∨ b.gens.any (fun x => !genOk x) = true then 6 else 0
structure BOk (b : BBank) : Prop where
  nb : b.bats.length ≤ 8
  ng : b.gens.length ≤ 6
  bat : ∀ x ∈ b.bats, BatOk x
  gen : ∀ x ∈ b.gens, GenOk x
theorem bcheck_iff {b : BBank} : bcheck b = 0 ↔ BOk b := by
  unfold bcheck
  constructor
  · intro h
    split at h
    · cases h
    · split at h
      · cases h
      · rename_i h1 h2
        rw [not_or, List.any_eq_true, List.any_eq_true] at h2
        refine ⟨by omega, by omega, fun x hx => ?_, fun x hx => ?_⟩
        · rw [← batOk_iff]
          cases hb : batOk x with
          | true => rfl
          | false => exact absurd ⟨x, hx, by rw [hb]; rfl⟩ h2.1
        · rw [← genOk_iff]
          cases hb : genOk x with
          | true => rfl
          | false => exact absurd ⟨x, hx, by rw [hb]; rfl⟩ h2.2
  · intro h
    rw [if_neg (by have := h.nb; have := h.ng; omega), if_neg]
    rw [not_or, List.any_eq_true, List.any_eq_true]
    constructor
    · rintro ⟨x, hx, h1⟩
      rw [batOk_iff.2 (h.bat x hx)] at h1; cases h1
    · rintro ⟨x, hx, h1⟩
      rw [genOk_iff.2 (h.gen x hx)] at h1; cases h1
def startP (g : BGen) (f : Int) : Int := if f = g.tries then -1 else (f + 1) * g.delay + f * g.pause
def badSpan (s : BSpan) : Bool := (decide (s.seconds < 1) || decide (3600 < s.seconds)) || !(inA 1000000 [s.power])
def secs : List BSpan → Nat → Int
  | l, 0 => 0
  | l, i + 1 => secs l i + (l.getD i default).seconds
def loadedP (l : List BSpan) : Int × Int :=
  if 64 < l.length then (0, 2) else if l.any badSpan = true then (0, 6) else if 20000 < secs l l.length then (0, 60) else (secs l l.length, 0)
structure LOk (l : List BSpan) : Prop where
  n : l.length ≤ 64
  s : ∀ x ∈ l, (1 ≤ x.seconds ∧ x.seconds ≤ 3600) ∧ 0 ≤ x.power ∧ x.power ≤ 1000000
  t : secs l l.length ≤ 20000
theorem badSpan_false {x : BSpan} : badSpan x = false ↔ (1 ≤ x.seconds ∧ x.seconds ≤ 3600) ∧ 0 ≤ x.power ∧ x.power ≤ 1000000 := by
  unfold badSpan
  rw [Bool.or_eq_false_iff, Bool.or_eq_false_iff, decide_eq_false_iff_not, decide_eq_false_iff_not, Bool.not_eq_false', inA_one]
  omega
theorem loadedP_iff {l : List BSpan} : (loadedP l).2 = 0 ↔ LOk l := by
  unfold loadedP
  constructor
  · intro h
    split at h
    · cases h
    · split at h
      · cases h
      · split at h
        · cases h
        · rename_i h1 h2 h3
          rw [List.any_eq_true] at h2
          refine ⟨by omega, fun x hx => ?_, by omega⟩
          rw [← badSpan_false]
          cases hb : badSpan x with
          | false => rfl
          | true => exact absurd ⟨x, hx, hb⟩ h2
  · intro h
    rw [if_neg (by have := h.n; omega), if_neg, if_neg (by have := h.t; omega)]
    rw [List.any_eq_true]
    rintro ⟨x, hx, h1⟩
    rw [badSpan_false.2 (h.s x hx)] at h1; cases h1
theorem loadedP_one {l : List BSpan} (h : LOk l) : loadedP l = (secs l l.length, 0) := by
  have := loadedP_iff.2 h
  unfold loadedP at this ⊢
  split at this
  · cases this
  · split at this
    · cases this
    · split at this
      · cases this
      · rename_i h1 h2 h3; rw [if_neg h1, if_neg h2, if_neg h3]
def badFail (b : BBank) (fs : List Int) (i : Nat) : Bool := decide (fs.getD i default < 0) || decide ((b.gens.getD i default).tries < fs.getD i default)
def fitP (b : BBank) (fs : List Int) : Bool := decide (fs.length = b.gens.length) && allTo (fun i => !badFail b fs i) b.gens.length
structure FOk (b : BBank) (fs : List Int) : Prop where
  n : fs.length = b.gens.length
  f : ∀ i, i < b.gens.length → 0 ≤ fs.getD i default ∧ fs.getD i default ≤ (b.gens.getD i default).tries
theorem allTo_all {p : Nat → Bool} {n : Nat} (h : ∀ i, i < n → p i = true) : allTo p n = true := by
  unfold allTo
  rw [List.all_eq_true]
  exact fun i hi => h i (List.mem_range.1 hi)
theorem fitP_iff {b : BBank} {fs : List Int} : fitP b fs = true ↔ FOk b fs := by
  unfold fitP
  rw [Bool.and_eq_true, decide_eq_true_eq]
  constructor
  · rintro ⟨h1, h2⟩
    refine ⟨h1, fun i hi => ?_⟩
    have := allTo_at h2 hi
    rw [Bool.not_eq_true', badFail, Bool.or_eq_false_iff, decide_eq_false_iff_not, decide_eq_false_iff_not] at this
    omega
  · rintro ⟨h1, h2⟩
    refine ⟨h1, allTo_all fun i hi => ?_⟩
    have := h2 i hi
    rw [Bool.not_eq_true', badFail, Bool.or_eq_false_iff, decide_eq_false_iff_not, decide_eq_false_iff_not]
    omega
def readyP (b : BBank) (l : List BSpan) (fs : List Int) : Int :=
  if bcheck b ≠ 0 then bcheck b else if (loadedP l).2 ≠ 0 then (loadedP l).2 else if ¬ fitP b fs = true then 1 else 0
structure ROk (b : BBank) (l : List BSpan) (fs : List Int) : Prop where
  ob : BOk b
  ol : LOk l
  of : FOk b fs
theorem readyP_iff {b : BBank} {l : List BSpan} {fs : List Int} : readyP b l fs = 0 ↔ ROk b l fs := by
  unfold readyP
  constructor
  · intro h
    split at h
    · contradiction
    · split at h
      · contradiction
      · split at h
        · cases h
        · rename_i h1 h2 h3
          exact ⟨bcheck_iff.1 (Decidable.of_not_not h1), loadedP_iff.1 (Decidable.of_not_not h2), fitP_iff.1 (Decidable.of_not_not h3)⟩
  · rintro ⟨h1, h2, h3⟩
    rw [if_neg (by rw [bcheck_iff.2 h1]; decide), if_neg (by rw [loadedP_iff.2 h2]; decide), if_neg (by rw [fitP_iff.2 h3]; decide)]
/-! ### a second -/
def canP (g : BGen) (fr t : Int) : Int := if fr < 0 ∨ t < fr then 0 else min g.power (g.ramp * (t - fr + 1))
def canAt (gens : List BGen) (sts : List Int) (t : Int) (i : Nat) : Int := canP (gens.getD i default) (sts.getD i default) t
def genTo (c : Nat → Int) (used : List Int) (need : Int) : Nat → List Int × Int
  | 0 => (used, need)
  | i + 1 => ((genTo c used need i).1.set i ((genTo c used need i).1.getD i default + min (genTo c used need i).2 (c i - (genTo c used need i).1.getD i default)), (genTo c used need i).2 - min (genTo c used need i).2 (c i - (genTo c used need i).1.getD i default))
def giveC (x : BCell) (need : Int) : Int := min (min x.bat.power x.now) need
def takeC (x : BCell) (most : Int) : Int := min (min x.bat.charge (x.bat.full - x.now)) most
def giveTo (cs : List BCell) (need : Int) : Nat → List BCell × Int
  | 0 => (cs, need)
  | i + 1 => ((giveTo cs need i).1.set i { bat := ((giveTo cs need i).1.getD i default).bat, now := ((giveTo cs need i).1.getD i default).now - giveC ((giveTo cs need i).1.getD i default) (giveTo cs need i).2 }, (giveTo cs need i).2 - giveC ((giveTo cs need i).1.getD i default) (giveTo cs need i).2)
def spareTo (c : Nat → Int) (used : List Int) : Nat → Int
  | 0 => 0
  | i + 1 => spareTo c used i + (c i - used.getD i default)
def takeTo (cs : List BCell) (spare : Int) : Nat → List BCell × Int
  | 0 => (cs, 0)
  | i + 1 => ((takeTo cs spare i).1.set i { bat := ((takeTo cs spare i).1.getD i default).bat, now := ((takeTo cs spare i).1.getD i default).now + takeC ((takeTo cs spare i).1.getD i default) (spare - (takeTo cs spare i).2) }, (takeTo cs spare i).2 + takeC ((takeTo cs spare i).1.getD i default) (spare - (takeTo cs spare i).2))
def addTo (bs us : List Int) : Nat → List Int
  | 0 => bs
  | i + 1 => (addTo bs us i).set i ((addTo bs us i).getD i default + us.getD i default)
def gen0 (gens : List BGen) (sts : List Int) (t load : Int) : List Int × Int := genTo (canAt gens sts t) (List.replicate sts.length 0) load sts.length
def spare0 (gens : List BGen) (sts : List Int) (t load : Int) : Int := spareTo (canAt gens sts t) (gen0 gens sts t load).1 sts.length
def give0 (gens : List BGen) (sts : List Int) (t load : Int) (s : BSt) : List BCell × Int := giveTo s.cells (gen0 gens sts t load).2 s.cells.length
def take0 (gens : List BGen) (sts : List Int) (t load : Int) (s : BSt) : List BCell × Int := takeTo s.cells (spare0 gens sts t load) s.cells.length
def gen1 (gens : List BGen) (sts : List Int) (t load : Int) (s : BSt) : List Int × Int := genTo (canAt gens sts t) (gen0 gens sts t load).1 (take0 gens sts t load s).2 sts.length
def secondP (gens : List BGen) (sts : List Int) (t load : Int) (strict : Bool) (s : BSt) : Int × BSt :=
  if 0 < (gen0 gens sts t load).2 then
    if 0 < (give0 gens sts t load s).2 ∧ strict = true then ((give0 gens sts t load s).2, s)
    else ((give0 gens sts t load s).2, ⟨(give0 gens sts t load s).1, addTo s.burnt (gen0 gens sts t load).1 sts.length, s.served + (load - (give0 gens sts t load s).2)⟩)
  else ((gen0 gens sts t load).2, ⟨(take0 gens sts t load s).1, addTo s.burnt (gen1 gens sts t load s).1 sts.length, s.served + (load - (gen0 gens sts t load).2)⟩)
/-! ### plays -/
def playTo (gens : List BGen) (sts : List Int) (strict : Bool) (pw : List Int) (s0 : BSt) : Nat → BSt
  | 0 => s0
  | i + 1 => (secondP gens sts (i : Nat) (pw.getD i default) strict (playTo gens sts strict pw s0 i)).2
def lackAt (gens : List BGen) (sts : List Int) (strict : Bool) (pw : List Int) (s0 : BSt) (i : Nat) : Int :=
  (secondP gens sts (i : Nat) (pw.getD i default) strict (playTo gens sts strict pw s0 i)).1
def powers : List BSpan → List Int
  | [] => []
  | s :: l => List.replicate s.seconds.toNat s.power ++ powers l
def begun (b : BBank) : BSt := ⟨b.bats.map fun x => ⟨x, x.energy⟩, List.replicate b.gens.length 0, 0⟩
def startsTo (gens : List BGen) (fs : List Int) : Nat → List Int
  | 0 => []
  | i + 1 => startsTo gens fs i ++ [startP (gens.getD i default) (fs.getD i default)]
def startsP (b : BBank) (fs : List Int) : List Int := startsTo b.gens fs b.gens.length
def energiesP (cs : List BCell) : List Int := cs.map (·.now)
def isDark (b : BBank) (pw fs : List Int) (i : Nat) : Bool := decide (0 < lackAt b.gens (startsP b fs) true pw (begun b) i)
def darkP (b : BBank) (pw fs : List Int) : Int := findFirst (isDark b pw fs) (List.range pw.length)
def endP (b : BBank) (pw fs : List Int) : Nat := if darkP b pw fs < 0 then pw.length else (darkP b pw fs).toNat
def stateP (b : BBank) (pw fs : List Int) (strict : Bool) (i : Nat) : BSt := playTo b.gens (startsP b fs) strict pw (begun b) i
def resOf (d : Int) (s : BSt) : BRes := ⟨d, energiesP s.cells, s.burnt, s.served⟩
def runP (b : BBank) (pw fs : List Int) : BRes := resOf (darkP b pw fs) (stateP b pw fs true (endP b pw fs))
def rowsTo (b : BBank) (pw fs : List Int) : Nat → List (List Int)
  | 0 => []
  | i + 1 => rowsTo b pw fs i ++ [energiesP (stateP b pw fs true (i + 1)).cells]
def traceP (b : BBank) (pw fs : List Int) : List (List Int) := rowsTo b pw fs (endP b pw fs)
def lackTo (b : BBank) (pw fs : List Int) : Nat → Int
  | 0 => 0
  | i + 1 => lackTo b pw fs i + lackAt b.gens (startsP b fs) false pw (begun b) i
def lackP (b : BBank) (pw fs : List Int) : Int := lackTo b pw fs pw.length
end Go.X

/- Banks: a second keeps all small. No condition. -/
set_option linter.unusedVariables false
namespace Go.X
theorem getD_set' {α : Type} [Inhabited α] {l : List α} {i : Nat} {x : α} (hi : i < l.length) (j : Nat) : (l.set i x).getD j default = if i = j then x else l.getD j default := by
  rw [List.getD_eq_getElem?_getD, List.getElem?_set, List.getD_eq_getElem?_getD]
  by_cases h : i = j
  · rw [if_pos h, if_pos h, if_pos hi]; rfl
  · rw [if_neg h, if_neg h]
theorem mulLe {a b m n : Int} (h1 : 0 ≤ a) (h2 : a ≤ m) (h3 : 0 ≤ b) (h4 : b ≤ n) : 0 ≤ a * b ∧ a * b ≤ m * n :=
  ⟨Int.mul_nonneg h1 h3, Int.mul_le_mul h2 h4 h3 (by omega)⟩
theorem canP_ok {g : BGen} (gk : GenOk g) {fr t : Int} (h1 : -1 ≤ fr) (h2 : t ≤ 20000) : 0 ≤ canP g fr t ∧ canP g fr t ≤ 1000000 := by
  unfold canP
  have := gk.p0; have := gk.p1
  split
  · omega
  · have m := mulLe (a := g.ramp) (b := t - fr + 1) (m := 1000000) (n := 20002) gk.r0 gk.r1 (by omega) (by omega)
    omega
structure PlayOk (gens : List BGen) (sts : List Int) : Prop where
  n : sts.length = gens.length
  ng : gens.length ≤ 6
  g : ∀ x ∈ gens, GenOk x
  s : ∀ i, i < sts.length → -1 ≤ sts.getD i default ∧ sts.getD i default ≤ 40000
theorem getD_memB {α : Type} [Inhabited α] {l : List α} {i : Nat} (h : i < l.length) : l.getD i default ∈ l := by
  rw [List.getD_eq_getElem?_getD, List.getElem?_eq_getElem h]; exact List.getElem_mem h
theorem canAt_ok {gens : List BGen} {sts : List Int} (p : PlayOk gens sts) {t : Int} (h2 : t ≤ 20000) {i : Nat} (hi : i < sts.length) : 0 ≤ canAt gens sts t i ∧ canAt gens sts t i ≤ 1000000 :=
  canP_ok (p.g _ (getD_memB (by have := p.n; omega))) (p.s i hi).1 h2
structure UsedOk (c : Nat → Int) (n : Nat) (u : List Int) : Prop where
  len : u.length = n
  b : ∀ j, j < n → 0 ≤ u.getD j default ∧ u.getD j default ≤ c j
theorem genTo_ok {c : Nat → Int} {n : Nat} {u : List Int} {need : Int} (h : UsedOk c n u) (hn : 0 ≤ need) : ∀ i, i ≤ n → UsedOk c n (genTo c u need i).1 ∧ 0 ≤ (genTo c u need i).2 ∧ (genTo c u need i).2 ≤ need
  | 0, _ => ⟨h, hn, Int.le_refl _⟩
  | i + 1, hi => by
    obtain ⟨h1, h2, h3⟩ := genTo_ok h hn i (by omega)
    have hb := h1.b i (by omega)
    refine ⟨⟨by rw [genTo]; simp [h1.len], fun j hj => ?_⟩, ?_, ?_⟩
    · rw [genTo]
      dsimp only
      rw [getD_set' (by rw [h1.len]; omega)]
      split
      · rename_i he; subst he; omega
      · exact h1.b j hj
    · rw [genTo]; dsimp only; omega
    · rw [genTo]; dsimp only; omega
theorem zero_used {c : Nat → Int} {n : Nat} (h : ∀ j, j < n → 0 ≤ c j) : UsedOk c n (List.replicate n 0) :=
  ⟨by simp, fun j hj => by rw [List.getD_eq_getElem?_getD, List.getElem?_replicate, if_pos hj]; exact ⟨by simp, by simpa using h j hj⟩⟩
theorem spareTo_ok {c : Nat → Int} {n : Nat} {u : List Int} (h : UsedOk c n u) (hc : ∀ j, j < n → c j ≤ 1000000) : ∀ i, i ≤ n → 0 ≤ spareTo c u i ∧ spareTo c u i ≤ 1000000 * i
  | 0, _ => ⟨Int.le_refl _, by simp [spareTo]⟩
  | i + 1, hi => by
    obtain ⟨h1, h2⟩ := spareTo_ok h hc i (by omega)
    have := h.b i (by omega)
    have := hc i (by omega)
    rw [spareTo]
    omega
structure CellOk (x : BCell) : Prop where
  n0 : 0 ≤ x.now
  nf : x.now ≤ x.bat.full
  f1 : x.bat.full ≤ 100000000000
  p0 : 0 ≤ x.bat.power
  p1 : x.bat.power ≤ 1000000
  c0 : 0 ≤ x.bat.charge
  c1 : x.bat.charge ≤ 1000000
structure CellsOk (n : Nat) (cs : List BCell) : Prop where
  len : cs.length = n
  ok : ∀ j, j < n → CellOk (cs.getD j default)
theorem giveC_ok {x : BCell} (h : CellOk x) {need : Int} (hn : 0 ≤ need) : 0 ≤ giveC x need ∧ giveC x need ≤ need ∧ giveC x need ≤ x.now := by
  have := h.n0; have := h.p0
  unfold giveC; omega
theorem takeC_ok {x : BCell} (h : CellOk x) {need : Int} (hn : 0 ≤ need) : 0 ≤ takeC x need ∧ takeC x need ≤ need ∧ x.now + takeC x need ≤ x.bat.full := by
  have := h.nf; have := h.c0
  unfold takeC; omega
theorem CellsOk.set {n : Nat} {cs : List BCell} (h : CellsOk n cs) {i : Nat} (hi : i < n) {m : Int} (h0 : 0 ≤ m) (h1 : m ≤ (cs.getD i default).bat.full) : CellsOk n (cs.set i { bat := (cs.getD i default).bat, now := m }) := by
  refine ⟨by simp [h.len], fun j hj => ?_⟩
  rw [getD_set' (by rw [h.len]; exact hi)]
  split
  · have := h.ok i hi
    exact ⟨h0, h1, this.f1, this.p0, this.p1, this.c0, this.c1⟩
  · exact h.ok j hj
theorem giveTo_ok {cs : List BCell} {n : Nat} (h : CellsOk n cs) {need : Int} (hn : 0 ≤ need) : ∀ i, i ≤ n → CellsOk n (giveTo cs need i).1 ∧ 0 ≤ (giveTo cs need i).2 ∧ (giveTo cs need i).2 ≤ need
  | 0, _ => ⟨h, hn, Int.le_refl _⟩
  | i + 1, hi => by
    obtain ⟨h1, h2, h3⟩ := giveTo_ok h hn i (by omega)
    have ck := h1.ok i (by omega)
    have g := giveC_ok ck h2
    have := ck.nf
    rw [giveTo]
    exact ⟨h1.set (by omega) (by omega) (by omega), by dsimp only; omega, by dsimp only; omega⟩
theorem takeTo_ok {cs : List BCell} {n : Nat} (h : CellsOk n cs) {sp : Int} (hn : 0 ≤ sp) : ∀ i, i ≤ n → CellsOk n (takeTo cs sp i).1 ∧ 0 ≤ (takeTo cs sp i).2 ∧ (takeTo cs sp i).2 ≤ sp
  | 0, _ => ⟨h, Int.le_refl _, hn⟩
  | i + 1, hi => by
    obtain ⟨h1, h2, h3⟩ := takeTo_ok h hn i (by omega)
    have ck := h1.ok i (by omega)
    have g := takeC_ok ck (need := sp - (takeTo cs sp i).2) (by omega)
    have := ck.n0
    rw [takeTo]
    exact ⟨h1.set (by omega) (by omega) (by omega), by dsimp only; omega, by dsimp only; omega⟩
structure BurntOk (n k : Nat) (bs : List Int) : Prop where
  len : bs.length = n
  b : ∀ j, j < n → 0 ≤ bs.getD j default ∧ bs.getD j default ≤ 1000000 * k
theorem addTo_at {bs us : List Int} : ∀ i, i ≤ bs.length → (addTo bs us i).length = bs.length ∧ ∀ j, (addTo bs us i).getD j default = if j < i then bs.getD j default + us.getD j default else bs.getD j default
  | 0, _ => ⟨rfl, fun j => by rw [if_neg (by omega)]; rfl⟩
  | i + 1, hi => by
    obtain ⟨h1, h2⟩ := addTo_at (bs := bs) (us := us) i (by omega)
    refine ⟨by rw [addTo]; simp [h1], fun j => ?_⟩
    rw [addTo, getD_set' (by rw [h1]; omega)]
    split
    · rename_i he; subst he
      rw [if_pos (by omega), h2, if_neg (by omega)]
    · rw [h2]
      by_cases hj : j < i
      · rw [if_pos hj, if_pos (by omega)]
      · rw [if_neg hj, if_neg (by omega)]
structure StOk (sts : List Int) (nc k : Nat) (s : BSt) : Prop where
  c : CellsOk nc s.cells
  nc8 : nc ≤ 8
  b : BurntOk sts.length k s.burnt
  s0 : 0 ≤ s.served
  s1 : s.served ≤ 1000000 * k
theorem burnt_add {n k : Nat} {bs us : List Int} {c : Nat → Int} (h : BurntOk n k bs) (hu : UsedOk c n us) (hc : ∀ j, j < n → c j ≤ 1000000) : BurntOk n (k + 1) (addTo bs us n) := by
  obtain ⟨h1, h2⟩ := addTo_at (bs := bs) (us := us) n (by rw [h.len]; omega)
  refine ⟨by rw [h1, h.len], fun j hj => ?_⟩
  rw [h2, if_pos hj]
  have := h.b j hj; have := hu.b j hj; have := hc j hj
  omega
theorem gen0_ok {gens : List BGen} {sts : List Int} (p : PlayOk gens sts) {t load : Int} (h2 : t ≤ 20000) (h3 : 0 ≤ load) :
    UsedOk (canAt gens sts t) sts.length (gen0 gens sts t load).1 ∧ 0 ≤ (gen0 gens sts t load).2 ∧ (gen0 gens sts t load).2 ≤ load :=
  genTo_ok (zero_used fun j hj => (canAt_ok p h2 hj).1) h3 _ (Nat.le_refl _)
theorem spare0_ok {gens : List BGen} {sts : List Int} (p : PlayOk gens sts) {t load : Int} (h2 : t ≤ 20000) (h3 : 0 ≤ load) : 0 ≤ spare0 gens sts t load ∧ spare0 gens sts t load ≤ 6000000 := by
  have := spareTo_ok (gen0_ok p h2 h3).1 (fun j hj => (canAt_ok p h2 hj).2) sts.length (Nat.le_refl _)
  have h6 := p.ng; have hn := p.n
  unfold spare0
  omega
theorem take0_ok {gens : List BGen} {sts : List Int} (p : PlayOk gens sts) {t load : Int} (h2 : t ≤ 20000) (h3 : 0 ≤ load) {nc k : Nat} {s : BSt} (h : StOk sts nc k s) : CellsOk nc (take0 gens sts t load s).1 ∧ 0 ≤ (take0 gens sts t load s).2 ∧ (take0 gens sts t load s).2 ≤ 6000000 := by
  have hs := spare0_ok p h2 h3
  obtain ⟨h1, h4, h5⟩ := takeTo_ok h.c hs.1 nc (Nat.le_refl _)
  unfold take0
  rw [h.c.len]
  exact ⟨h1, h4, by omega⟩
theorem gen1_ok {gens : List BGen} {sts : List Int} (p : PlayOk gens sts) {t load : Int} (h2 : t ≤ 20000) (h3 : 0 ≤ load) {nc k : Nat} {s : BSt} (h : StOk sts nc k s) :
    UsedOk (canAt gens sts t) sts.length (gen1 gens sts t load s).1 := (genTo_ok (gen0_ok p h2 h3).1 (take0_ok p h2 h3 h).2.1 _ (Nat.le_refl _)).1
theorem give0_ok {gens : List BGen} {sts : List Int} (p : PlayOk gens sts) {t load : Int} (h2 : t ≤ 20000) (h3 : 0 ≤ load) {nc k : Nat} {s : BSt} (h : StOk sts nc k s) :
    CellsOk nc (give0 gens sts t load s).1 ∧ 0 ≤ (give0 gens sts t load s).2 ∧ (give0 gens sts t load s).2 ≤ load := by
  have hg := gen0_ok p h2 h3
  obtain ⟨h1, h4, h5⟩ := giveTo_ok h.c hg.2.1 nc (Nat.le_refl _)
  unfold give0
  rw [h.c.len]
  exact ⟨h1, h4, by omega⟩
theorem second_ok {gens : List BGen} {sts : List Int} (p : PlayOk gens sts) {t load : Int} (h2 : t ≤ 20000) (h3 : 0 ≤ load) (h4 : load ≤ 1000000) {nc k : Nat} {s : BSt} (h : StOk sts nc k s) (strict : Bool) :
    StOk sts nc (k + 1) (secondP gens sts t load strict s).2 ∧ 0 ≤ (secondP gens sts t load strict s).1 ∧ (secondP gens sts t load strict s).1 ≤ load := by
  have hg := gen0_ok p h2 h3
  have hv := give0_ok p h2 h3 h
  have ht := take0_ok p h2 h3 h
  have h1 := gen1_ok p h2 h3 h
  have hc : ∀ j, j < sts.length → canAt gens sts t j ≤ 1000000 := fun j hj => (canAt_ok p h2 hj).2
  have s0 := h.s0; have s1 := h.s1
  unfold secondP
  split
  · split
    · refine ⟨⟨h.c, h.nc8, ⟨h.b.len, fun j hj => ?_⟩, h.s0, by dsimp only; omega⟩, hv.2.1, hv.2.2⟩
      have := h.b.b j hj; dsimp only; omega
    · exact ⟨⟨hv.1, h.nc8, burnt_add h.b hg.1 hc, by dsimp only; omega, by dsimp only; omega⟩, hv.2.1, hv.2.2⟩
  · exact ⟨⟨ht.1, h.nc8, burnt_add h.b h1 hc, by dsimp only; omega, by dsimp only; omega⟩, hg.2.1, hg.2.2⟩
theorem take_map_snoc {α β : Type} [Inhabited α] (f : α → β) {xs : List α} {i : Nat} (hi : i < xs.length) : (xs.take (i + 1)).map f = (xs.take i).map f ++ [f (xs.getD i default)] := by
  rw [List.take_add_one, List.map_append, List.getElem?_eq_getElem hi, List.getD_eq_getElem?_getD, List.getElem?_eq_getElem hi]; rfl
theorem energies_snoc {cs : List BCell} {i : Nat} (hi : i < cs.length) : energiesP (cs.take (i + 1)) = energiesP (cs.take i) ++ [(cs.getD i default).now] := take_map_snoc _ hi
end Go.X

/- Loads, second by second. No condition. -/
set_option linter.unusedVariables false
namespace Go.X
def cnt (l : List BSpan) : Nat → Nat
  | 0 => 0
  | i + 1 => cnt l i + (l.getD i default).seconds.toNat
theorem powers_append (a b : List BSpan) : powers (a ++ b) = powers a ++ powers b := by
  induction a with
  | nil => rfl
  | cons x t ih => rw [List.cons_append, powers, powers, ih, List.append_assoc]
theorem take_snocB {α : Type} [Inhabited α] {xs : List α} {i : Nat} (hi : i < xs.length) : xs.take (i + 1) = xs.take i ++ [xs.getD i default] := by
  rw [List.take_add_one, List.getElem?_eq_getElem hi, List.getD_eq_getElem?_getD, List.getElem?_eq_getElem hi]; rfl
theorem cnt_take (l : List BSpan) : ∀ i, i ≤ l.length → (powers (l.take i)).length = cnt l i
  | 0, _ => rfl
  | i + 1, hi => by
    rw [take_snocB (by omega), powers_append, List.length_append, cnt_take l i (by omega), cnt]
    simp [powers]
theorem split_at {α : Type} [Inhabited α] (xs : List α) {i : Nat} (hi : i < xs.length) : xs = xs.take i ++ xs.getD i default :: xs.drop (i + 1) := by
  conv => lhs; rw [← List.take_append_drop i xs, List.drop_eq_getElem_cons hi]
  rw [List.getD_eq_getElem?_getD, List.getElem?_eq_getElem hi]; rfl
theorem powers_at (l : List BSpan) {i j : Nat} (hi : i < l.length) (hj : (j : Int) < (l.getD i default).seconds) :
    cnt l i + j < (powers l).length ∧ (powers l).getD (cnt l i + j) default = (l.getD i default).power := by
  have e : powers l = powers (l.take i) ++ (List.replicate (l.getD i default).seconds.toNat (l.getD i default).power ++ powers (l.drop (i + 1))) := by
    conv => lhs; rw [split_at l hi, powers_append, powers]
  have hc := cnt_take l i (by omega)
  rw [e]
  constructor
  · simp only [List.length_append, hc, List.length_replicate]; omega
  · rw [List.getD_eq_getElem?_getD, List.getElem?_append_right (by omega), hc, Nat.add_sub_cancel_left, List.getElem?_append_left (by rw [List.length_replicate]; omega), List.getElem?_replicate, if_pos (by omega)]; rfl
theorem cnt_all (l : List BSpan) : cnt l l.length = (powers l).length := by
  rw [← cnt_take l l.length (Nat.le_refl _), List.take_length]
theorem cnt_secs {l : List BSpan} (h : ∀ x ∈ l, 0 ≤ x.seconds) : ∀ i, i ≤ l.length → (cnt l i : Int) = secs l i
  | 0, _ => by simp [cnt, secs]
  | i + 1, hi => by
    have := h _ (getD_memB (show i < l.length by omega))
    rw [cnt, secs, ← cnt_secs h i (by omega)]
    omega
theorem powers_len {l : List BSpan} (h : LOk l) : (powers l).length ≤ 20000 := by
  have h1 := cnt_secs (l := l) (fun x hx => by have := (h.s x hx).1; omega) l.length (Nat.le_refl _)
  have := h.t
  rw [cnt_all] at h1
  omega
theorem powers_mem {l : List BSpan} {x : Int} (h : x ∈ powers l) : ∃ s ∈ l, x = s.power := by
  induction l with
  | nil => cases h
  | cons s t ih =>
    rw [powers, List.mem_append] at h
    rcases h with h | h
    · exact ⟨s, List.mem_cons_self, List.eq_of_mem_replicate h⟩
    · obtain ⟨u, h1, h2⟩ := ih h
      exact ⟨u, List.mem_cons_of_mem _ h1, h2⟩
structure PwOk (pw : List Int) : Prop where
  n : pw.length ≤ 20000
  p : ∀ i, i < pw.length → 0 ≤ pw.getD i default ∧ pw.getD i default ≤ 1000000
theorem pwOk {l : List BSpan} (h : LOk l) : PwOk (powers l) := ⟨powers_len h, fun i hi => by
  obtain ⟨s, h1, h2⟩ := powers_mem (getD_memB hi)
  rw [h2]; exact (h.s s h1).2⟩
theorem startsTo_len (gens : List BGen) (fs : List Int) : ∀ i, (startsTo gens fs i).length = i
  | 0 => rfl
  | i + 1 => by rw [startsTo, List.length_append, startsTo_len gens fs i]; rfl
theorem startsTo_at (gens : List BGen) (fs : List Int) {j : Nat} : ∀ i, j < i → (startsTo gens fs i).getD j default = startP (gens.getD j default) (fs.getD j default)
  | 0, h => by omega
  | i + 1, h => by
    have hl := startsTo_len gens fs i
    rw [startsTo, List.getD_eq_getElem?_getD, List.getElem?_append]
    split
    · rw [← List.getD_eq_getElem?_getD]; exact startsTo_at gens fs i (by omega)
    · have : j = i := by omega
      subst this
      simp [hl]
theorem startP_ok {g : BGen} (gk : GenOk g) {f : Int} (h0 : 0 ≤ f) (h1 : f ≤ g.tries) : -1 ≤ startP g f ∧ startP g f ≤ 40000 := by
  have := gk.t1
  unfold startP
  split
  · omega
  · have m1 := mulLe (a := f + 1) (b := g.delay) (m := 6) (n := 3600) (by omega) (by omega) gk.d0 gk.d1
    have m2 := mulLe (a := f) (b := g.pause) (m := 5) (n := 3600) (by omega) (by omega) gk.q0 gk.q1
    omega
theorem playOk {b : BBank} {fs : List Int} (h : BOk b) (hf : FOk b fs) : PlayOk b.gens (startsP b fs) := ⟨startsTo_len _ _ _, h.ng, h.gen, fun i hi => by
  rw [startsP, startsTo_len] at hi
  rw [startsP, startsTo_at _ _ _ hi]
  exact startP_ok (h.gen _ (getD_memB hi)) (hf.f i hi).1 (hf.f i hi).2⟩
theorem cellOk_of {x : BBat} (h : BatOk x) : CellOk ⟨x, x.energy⟩ := ⟨h.e0, h.ef, h.f1, h.p0, h.p1, h.c0, h.c1⟩
theorem begun_ok {b : BBank} {fs : List Int} (h : BOk b) (hf : FOk b fs) : StOk (startsP b fs) b.bats.length 0 (begun b) := by
  refine ⟨⟨by simp [begun], fun j hj => ?_⟩, h.nb, ⟨by rw [startsP, startsTo_len]; simp [begun], fun j hj => ?_⟩, Int.le_refl _, by simp [begun]⟩
  · have e : (begun b).cells.getD j default = ⟨b.bats.getD j default, (b.bats.getD j default).energy⟩ := by
      simp [begun, List.getD_eq_getElem?_getD, List.getElem?_map, List.getElem?_eq_getElem hj]
    rw [e]
    exact cellOk_of (h.bat _ (getD_memB hj))
  · rw [startsP, startsTo_len] at hj
    simp [begun, List.getD_eq_getElem?_getD, List.getElem?_replicate, hj]
theorem playTo_ok {gens : List BGen} {sts : List Int} (p : PlayOk gens sts) {pw : List Int} (hw : PwOk pw) {nc : Nat} {s0 : BSt} (h : StOk sts nc 0 s0) (strict : Bool) : ∀ i, i ≤ pw.length → StOk sts nc i (playTo gens sts strict pw s0 i)
  | 0, _ => h
  | i + 1, hi => (second_ok p (by have := hw.n; omega) (hw.p i (by omega)).1 (hw.p i (by omega)).2 (playTo_ok p hw h strict i (by omega)) strict).1
theorem lackAt_ok {gens : List BGen} {sts : List Int} (p : PlayOk gens sts) {pw : List Int} (hw : PwOk pw) {nc : Nat} {s0 : BSt} (h : StOk sts nc 0 s0) (strict : Bool) {i : Nat} (hi : i < pw.length) : 0 ≤ lackAt gens sts strict pw s0 i ∧ lackAt gens sts strict pw s0 i ≤ 1000000 := by
  have := (second_ok p (t := (i : Nat)) (load := pw.getD i default) (by have := hw.n; omega) (hw.p i (by omega)).1 (hw.p i (by omega)).2 (playTo_ok p hw h strict i (by omega)) strict).2
  have := hw.p i hi
  unfold lackAt
  omega
theorem lackTo_ok {b : BBank} {fs : List Int} (h : BOk b) (hf : FOk b fs) {pw : List Int} (hw : PwOk pw) : ∀ i, i ≤ pw.length → 0 ≤ lackTo b pw fs i ∧ lackTo b pw fs i ≤ 1000000 * i
  | 0, _ => ⟨Int.le_refl _, by simp [lackTo]⟩
  | i + 1, hi => by
    have := lackTo_ok h hf hw i (by omega)
    have := lackAt_ok (playOk h hf) hw (begun_ok h hf) false (i := i) (by omega)
    rw [lackTo]
    omega
theorem cells_snoc {l : List BBat} {i : Nat} (hi : i < l.length) : (l.take (i + 1)).map (fun x => (⟨x, x.energy⟩ : BCell)) = (l.take i).map (fun x => ⟨x, x.energy⟩) ++ [⟨l.getD i default, (l.getD i default).energy⟩] := take_map_snoc _ hi
theorem dark_here {b : BBank} {pw fs : List Int} {m : Nat} (hm : m < pw.length) (hb : ∀ j, j < m → isDark b pw fs j = false) (hd : isDark b pw fs m = true) : darkP b pw fs = m := by
  refine findFirst_here (i := m) ?_ (by simpa using hm) (by rw [List.getD_eq_getElem?_getD, List.getElem?_range hm]; exact hd)
  rw [List.any_eq_false]
  intro x hx
  rw [List.take_range, List.mem_range] at hx
  rw [hb x (by omega)]; decide
theorem dark_never {b : BBank} {pw fs : List Int} (hb : ∀ j, j < pw.length → isDark b pw fs j = false) : darkP b pw fs = -1 := by
  refine findFirst_none (i := pw.length) ?_ (by simp)
  rw [List.any_eq_false]
  intro x hx
  rw [List.take_range, List.mem_range] at hx
  rw [hb x (by omega)]; decide
theorem run_here {b : BBank} {pw fs : List Int} {m : Nat} (hm : m < pw.length) (hb : ∀ j, j < m → isDark b pw fs j = false) (hd : isDark b pw fs m = true) : runP b pw fs = resOf (m : Nat) (stateP b pw fs true m) ∧ endP b pw fs = m := by
  have h := dark_here hm hb hd
  have e : endP b pw fs = m := by unfold endP; rw [h, if_neg (by omega)]; rfl
  unfold runP
  rw [e, h]; exact ⟨rfl, rfl⟩
theorem run_never {b : BBank} {pw fs : List Int} (hb : ∀ j, j < pw.length → isDark b pw fs j = false) : runP b pw fs = resOf (-1) (stateP b pw fs true pw.length) ∧ endP b pw fs = pw.length := by
  have h := dark_never hb
  have e : endP b pw fs = pw.length := by unfold endP; rw [h, if_pos (by omega)]
  unfold runP
  rw [e, h]; exact ⟨rfl, rfl⟩
theorem first_or (p : Nat → Bool) : ∀ n, (∀ j, j < n → p j = false) ∨ ∃ m, m < n ∧ p m = true ∧ ∀ j, j < m → p j = false
  | 0 => .inl fun j hj => absurd hj (Nat.not_lt_zero j)
  | n + 1 => by
    rcases first_or p n with h | ⟨m, h1, h2, h3⟩
    · cases hp : p n with
      | false =>
        refine .inl fun j hj => ?_
        rcases Nat.lt_or_ge j n with h4 | h4
        · exact h j h4
        · rw [show j = n by omega]; exact hp
      | true => exact .inr ⟨n, by omega, hp, h⟩
    · exact .inr ⟨m, by omega, h2, h3⟩
theorem dark_cases (b : BBank) (pw fs : List Int) : (darkP b pw fs = -1 ∧ ∀ j, j < pw.length → isDark b pw fs j = false) ∨ ∃ m, m < pw.length ∧ darkP b pw fs = (m : Nat) ∧ isDark b pw fs m = true ∧ ∀ j, j < m → isDark b pw fs j = false := by
  rcases first_or (isDark b pw fs) pw.length with h | ⟨m, h1, h2, h3⟩
  · exact .inl ⟨dark_never h, h⟩
  · exact .inr ⟨m, h1, dark_here h1 h3 h2, h2, h3⟩
theorem dark_after {b : BBank} {pw fs : List Int} {n : Nat} (h : ∀ j, j < n → isDark b pw fs j = false) : darkP b pw fs < 0 ∨ (n : Int) ≤ darkP b pw fs := by
  rcases dark_cases b pw fs with ⟨h1, _⟩ | ⟨m, h1, h2, h3, _⟩
  · rw [h1]; exact .inl (by decide)
  · rw [h2]
    right
    rcases Nat.lt_or_ge m n with h4 | h4
    · rw [h m h4] at h3; cases h3
    · omega
end Go.X

/- Lists of fails, in their order. No condition. -/
set_option linter.unusedVariables false
namespace Go.X
def block (L : Int → List (List Int)) (n : Nat) : List (List Int) := (L (n : Int)).map (fun x => (n : Int) :: x)
def blocks (L : Int → List (List Int)) : Nat → List (List Int)
  | 0 => []
  | k + 1 => blocks L k ++ block L k
def listsL : List Int → Int → List (List Int)
  | [], _ => [[]]
  | t :: ts, m => blocks (fun n => listsL ts (m - n)) (min t m + 1).toNat
def zerosL (ts : List Int) : List Int := List.replicate ts.length 0
def stepL : List Int → Int → List Int → Option (List Int)
  | t :: ts, m, n :: x => match stepL ts (m - n) x with
    | some y => some (n :: y)
    | none => if n < t ∧ 0 < m - n then some ((n + 1) :: zerosL ts) else none
  | _, _, _ => none
def Good (step : List Int → Option (List Int)) (z : List Int) (L : List (List Int)) (last : Option (List Int)) : Prop :=
  L[0]? = some z ∧ ∀ i x, L[i]? = some x → step x = if i + 1 < L.length then L[i + 1]? else last
theorem Good.glue {step : List Int → Option (List Int)} {z y : List Int} {L M : List (List Int)} {last : Option (List Int)} (h : Good step z L (some y)) (g : Good step y M last) : Good step z (L ++ M) last := by
  obtain ⟨h0, h1⟩ := h
  obtain ⟨g0, g1⟩ := g
  have hl : 0 < L.length := by
    rcases Nat.eq_zero_or_pos L.length with e | e
    · rw [List.getElem?_eq_none (by omega)] at h0; cases h0
    · exact e
  have gl : 0 < M.length := by
    rcases Nat.eq_zero_or_pos M.length with e | e
    · rw [List.getElem?_eq_none (by omega)] at g0; cases g0
    · exact e
  refine ⟨by rw [List.getElem?_append_left hl]; exact h0, fun i x hx => ?_⟩
  rw [List.length_append]
  rcases Nat.lt_or_ge i L.length with hi | hi
  · rw [List.getElem?_append_left hi] at hx
    rw [h1 i x hx, if_pos (show i + 1 < L.length + M.length by omega)]
    by_cases h2 : i + 1 < L.length
    · rw [if_pos h2, List.getElem?_append_left h2]
    · rw [if_neg h2, List.getElem?_append_right (by omega), show i + 1 - L.length = 0 by omega, g0]
  · rw [List.getElem?_append_right hi] at hx
    rw [g1 _ x hx]
    by_cases h2 : i - L.length + 1 < M.length
    · rw [if_pos h2, if_pos (by omega), List.getElem?_append_right (by omega)]
      congr 1; omega
    · rw [if_neg h2, if_neg (by omega)]
theorem Good.block {t m : Int} {ts : List Int} {n : Nat} {L : Int → List (List Int)} (h : Good (stepL ts (m - n)) (zerosL ts) (L n) none) :
    Good (stepL (t :: ts) m) ((n : Int) :: zerosL ts) (block L n) (if (n : Int) < t ∧ 0 < m - n then some (((n : Int) + 1) :: zerosL ts) else none) := by
  obtain ⟨h0, h1⟩ := h
  refine ⟨by rw [X.block, List.getElem?_map, h0]; rfl, fun i x hx => ?_⟩
  rw [X.block, List.getElem?_map] at hx
  cases hy : (L n)[i]? with
  | none => rw [hy] at hx; cases hx
  | some y =>
    rw [hy] at hx
    obtain rfl : (n : Int) :: y = x := by simpa using hx
    rw [stepL, h1 i y hy, X.block, List.length_map, List.getElem?_map]
    by_cases h2 : i + 1 < (L n).length
    · rw [if_pos h2, if_pos h2, List.getElem?_eq_getElem h2]; rfl
    · rw [if_neg h2, if_neg h2]
theorem Good.blocks {t m : Int} {ts : List Int} {L : Int → List (List Int)} (ht : 0 ≤ t) (hm : 0 ≤ m) (h : ∀ n : Nat, (n : Int) ≤ t → (n : Int) ≤ m → Good (stepL ts (m - n)) (zerosL ts) (L n) none) :
    ∀ k : Nat, (k : Int) < min t m + 1 → Good (stepL (t :: ts) m) (zerosL (t :: ts)) (blocks L (k + 1)) (if (k : Int) < t ∧ 0 < m - k then some (((k : Int) + 1) :: zerosL ts) else none)
  | 0, _ => by
    have := Good.block (t := t) (h 0 (by omega) (by omega))
    rw [X.blocks, X.blocks, List.nil_append]
    exact this
  | k + 1, hk => by
    have h1 := Good.blocks ht hm h k (by omega)
    rw [if_pos (by omega)] at h1
    have h2 := Good.block (t := t) (h (k + 1) (by omega) (by omega))
    rw [X.blocks]
    exact h1.glue h2
theorem lists_good : ∀ (ts : List Int) (m : Int), (∀ t ∈ ts, 0 ≤ t) → 0 ≤ m → Good (stepL ts m) (zerosL ts) (listsL ts m) none
  | [], m, _, _ => ⟨rfl, fun i x hx => by
    rw [listsL] at hx ⊢
    have : i = 0 := by
      rcases Nat.eq_zero_or_pos i with h | h
      · exact h
      · rw [List.getElem?_eq_none (by simp; omega)] at hx; cases hx
    subst this
    obtain rfl : [] = x := by simpa using hx
    rfl⟩
  | t :: ts, m, ht, hm => by
    have h0 := ht t List.mem_cons_self
    have := Good.blocks (t := t) (m := m) (ts := ts) (L := fun n => listsL ts (m - n)) h0 hm (fun n _ h2 => lists_good ts (m - n) (fun x hx => ht x (List.mem_cons_of_mem _ hx)) (by omega)) (min t m).toNat (by omega)
    rw [if_neg (by omega)] at this
    rw [listsL, show (min t m + 1).toNat = (min t m).toNat + 1 by omega]
    exact this
def sumL (l : List Int) : Int := l.foldr (· + ·) 0
theorem sumL_cons (a : Int) (l : List Int) : sumL (a :: l) = a + sumL l := rfl
theorem sumL_append (a b : List Int) : sumL (a ++ b) = sumL a + sumL b := by
  induction a with
  | nil => simp [sumL]
  | cons x t ih => rw [List.cons_append, sumL_cons, sumL_cons, ih]; omega
def FailsL : List Int → Int → List Int → Prop
  | [], m, x => x = [] ∧ 0 ≤ m
  | t :: ts, m, x => ∃ n y, x = n :: y ∧ 0 ≤ n ∧ n ≤ t ∧ n ≤ m ∧ FailsL ts (m - n) y
theorem mem_blocks {L : Int → List (List Int)} {x : List Int} : ∀ k, x ∈ blocks L k ↔ ∃ n : Nat, n < k ∧ ∃ y ∈ L (n : Int), x = (n : Int) :: y
  | 0 => by simp [blocks]
  | k + 1 => by
    rw [blocks, List.mem_append, mem_blocks k, block, List.mem_map]
    constructor
    · rintro (⟨n, hn, y, hy, rfl⟩ | ⟨y, hy, rfl⟩)
      · exact ⟨n, by omega, y, hy, rfl⟩
      · exact ⟨k, by omega, y, hy, rfl⟩
    · rintro ⟨n, hn, y, hy, rfl⟩
      rcases Nat.lt_or_ge n k with h | h
      · exact .inl ⟨n, h, y, hy, rfl⟩
      · obtain rfl : n = k := by omega
        exact .inr ⟨y, hy, rfl⟩
theorem mem_lists : ∀ (ts : List Int) (m : Int) (x : List Int), (∀ t ∈ ts, 0 ≤ t) → 0 ≤ m → (x ∈ listsL ts m ↔ FailsL ts m x)
  | [], m, x, _, hm => by simp [listsL, FailsL, hm]
  | t :: ts, m, x, ht, hm => by
    rw [listsL, mem_blocks, FailsL]
    constructor
    · rintro ⟨n, hn, y, hy, rfl⟩
      exact ⟨n, y, rfl, by omega, by omega, by omega, (mem_lists ts (m - n) y (fun t h => ht t (List.mem_cons_of_mem _ h)) (by omega)).1 hy⟩
    · rintro ⟨n, y, rfl, h0, h1, h2, hy⟩
      refine ⟨n.toNat, by omega, y, ?_, by rw [show ((n.toNat : Nat) : Int) = n by omega]⟩
      rw [show ((n.toNat : Nat) : Int) = n by omega]
      exact (mem_lists ts (m - n) y (fun t h => ht t (List.mem_cons_of_mem _ h)) (by omega)).2 hy
theorem FailsL_iff : ∀ (ts : List Int) (m : Int) (x : List Int), 0 ≤ m → (FailsL ts m x ↔ x.length = ts.length ∧ (∀ i, i < ts.length → 0 ≤ x.getD i default ∧ x.getD i default ≤ ts.getD i default) ∧ sumL x ≤ m)
  | [], m, x, hm => by
    rw [FailsL]
    constructor
    · rintro ⟨rfl, h⟩
      exact ⟨rfl, fun i hi => absurd hi (Nat.not_lt_zero i), h⟩
    · rintro ⟨h, _, h2⟩
      exact ⟨List.length_eq_zero_iff.1 h, hm⟩
  | t :: ts, m, x, hm => by
    rw [FailsL]
    constructor
    · rintro ⟨n, y, rfl, h0, h1, h2, hy⟩
      obtain ⟨a, b, c⟩ := (FailsL_iff ts (m - n) y (by omega)).1 hy
      refine ⟨by simp [a], fun i hi => ?_, by rw [sumL_cons]; omega⟩
      cases i with
      | zero => exact ⟨h0, h1⟩
      | succ i => exact b i (by simpa using hi)
    · rintro ⟨hl, hb, hs⟩
      cases x with
      | nil => cases hl
      | cons n y =>
        have h0 := hb 0 (by simp)
        have hp : ∀ i, i < ts.length → 0 ≤ y.getD i default ∧ y.getD i default ≤ ts.getD i default := fun i hi => hb (i + 1) (by simpa using hi)
        have hy0 : 0 ≤ sumL y := by
          have : ∀ z : List Int, (∀ a ∈ z, 0 ≤ a) → 0 ≤ sumL z := by
            intro z
            induction z with
            | nil => intro _; exact Int.le_refl _
            | cons a z ih => intro h; rw [sumL_cons]; have := h a List.mem_cons_self; have := ih (fun b hb => h b (List.mem_cons_of_mem _ hb)); omega
          refine this y fun a ha => ?_
          obtain ⟨i, hi, rfl⟩ := List.mem_iff_getElem.1 ha
          have := (hp i (by simp at hl; omega)).1
          rwa [List.getD_eq_getElem?_getD, List.getElem?_eq_getElem hi] at this
        rw [sumL_cons] at hs
        have h0' : 0 ≤ n ∧ n ≤ t := h0
        exact ⟨n, y, rfl, h0'.1, h0'.2, by omega, (FailsL_iff ts (m - n) y (by omega)).2 ⟨by simpa using hl, hp, by omega⟩⟩
theorem step_none {ts x : List Int} {i : Nat} {m : Int} (hl : x.length = ts.length) (hi : i < ts.length) (hn : stepL (ts.drop (i + 1)) (m - x.getD i default) (x.drop (i + 1)) = none) (hc : ¬ (x.getD i default < ts.getD i default ∧ 0 < m - x.getD i default)) :
    stepL (ts.drop i) m (x.drop i) = none := by
  have e1 : ts.drop i = ts.getD i default :: ts.drop (i + 1) := by
    rw [List.drop_eq_getElem_cons hi, List.getD_eq_getElem?_getD, List.getElem?_eq_getElem hi]; rfl
  have e2 : x.drop i = x.getD i default :: x.drop (i + 1) := by
    rw [List.drop_eq_getElem_cons (by omega), List.getD_eq_getElem?_getD, List.getElem?_eq_getElem (by omega)]; rfl
  rw [e1, e2, stepL, hn]
  dsimp only
  rw [if_neg hc]
theorem step_some {ts x : List Int} {i : Nat} {m : Int} (hl : x.length = ts.length) (hi : i < ts.length) (hn : stepL (ts.drop (i + 1)) (m - x.getD i default) (x.drop (i + 1)) = none) (hc : x.getD i default < ts.getD i default ∧ 0 < m - x.getD i default) :
    stepL (ts.drop i) m (x.drop i) = some ((x.getD i default + 1) :: List.replicate (ts.length - (i + 1)) 0) := by
  have e1 : ts.drop i = ts.getD i default :: ts.drop (i + 1) := by
    rw [List.drop_eq_getElem_cons hi, List.getD_eq_getElem?_getD, List.getElem?_eq_getElem hi]; rfl
  have e2 : x.drop i = x.getD i default :: x.drop (i + 1) := by
    rw [List.drop_eq_getElem_cons (by omega), List.getD_eq_getElem?_getD, List.getElem?_eq_getElem (by omega)]; rfl
  rw [e1, e2, stepL, hn]
  dsimp only
  rw [if_pos hc, zerosL, List.length_drop]
theorem step_pre : ∀ (i : Nat) (ts x : List Int) (m : Int) (y : List Int), i ≤ ts.length → x.length = ts.length → stepL (ts.drop i) (m - sumL (x.take i)) (x.drop i) = some y → stepL ts m x = some (x.take i ++ y)
  | 0, ts, x, m, y, _, _, h => by
    rw [List.take_zero] at h
    simpa [sumL] using h
  | i + 1, [], x, m, y, hi, hl, h => by simp at hi
  | i + 1, t :: ts, [], m, y, hi, hl, h => by simp at hl
  | i + 1, t :: ts, n :: x, m, y, hi, hl, h => by
    rw [List.take_succ_cons, List.drop_succ_cons, List.drop_succ_cons, sumL_cons] at h
    have := step_pre i ts x (m - n) y (by simpa using hi) (by simpa using hl) (by rwa [show m - n - sumL (x.take i) = m - (n + sumL (x.take i)) by omega])
    rw [stepL, this, List.take_succ_cons]; rfl
theorem sumL_take_succ {x : List Int} {i : Nat} (hi : i < x.length) : sumL (x.take (i + 1)) = sumL (x.take i) + x.getD i default := by
  rw [take_snocB hi, sumL_append]; simp [sumL]
/-! ### the worst -/
def better (k : Nat) (r out : BRes) : Bool := decide (k = 0) || (decide (0 ≤ r.dark) && (decide (out.dark < 0) || decide (r.dark < out.dark)))
def worstTo (b : BBank) (pw : List Int) (ls : List (List Int)) : Nat → List Int × BRes
  | 0 => ([], ⟨0, [], [], 0⟩)
  | k + 1 => if better k (runP b pw (ls.getD k default)) (worstTo b pw ls k).2 = true then (ls.getD k default, runP b pw (ls.getD k default)) else worstTo b pw ls k
def triesP (b : BBank) : List Int := b.gens.map (·.tries)
def listsP (b : BBank) (most : Int) : List (List Int) := listsL (triesP b) most
def worstP (b : BBank) (pw : List Int) (most : Int) : List Int × BRes := worstTo b pw (listsP b most) (listsP b most).length
def leastTo (b : BBank) (pw : List Int) (ls : List (List Int)) : Nat → Int
  | 0 => 0
  | k + 1 => max (leastTo b pw ls k) (lackP b pw (ls.getD k default))
def leastP (b : BBank) (pw : List Int) (most : Int) : Int := leastTo b pw (listsP b most) (listsP b most).length
def casesTo (b : BBank) (n : Int) : Nat → Int
  | 0 => n
  | i + 1 => casesTo b n i * ((b.gens.getD i default).tries + 1)
def searchP (b : BBank) (l : List BSpan) (most : Int) : Int :=
  if bcheck b ≠ 0 then bcheck b else if (loadedP l).2 ≠ 0 then (loadedP l).2 else if most < 0 then 1 else if 4194304 < casesTo b (loadedP l).1 b.gens.length then 8 else 0
theorem triesP_at {b : BBank} {i : Nat} (hi : i < b.gens.length) : (triesP b).getD i default = (b.gens.getD i default).tries := by
  rw [triesP, List.getD_eq_getElem?_getD, List.getElem?_map, List.getD_eq_getElem?_getD, List.getElem?_eq_getElem hi]; rfl
theorem tries_ok {b : BBank} (h : BOk b) : ∀ t ∈ triesP b, 0 ≤ t := fun t ht => by
  obtain ⟨g, hg, rfl⟩ := List.mem_map.1 ht
  have := (h.gen g hg).t0; omega
theorem mem_listsP {b : BBank} (h : BOk b) {m : Int} (hm : 0 ≤ m) {x : List Int} : x ∈ listsP b m ↔ FOk b x ∧ sumL x ≤ m := by
  rw [listsP, mem_lists _ _ _ (tries_ok h) hm, FailsL_iff _ _ _ hm]
  have hl : (triesP b).length = b.gens.length := by simp [triesP]
  constructor
  · rintro ⟨h1, h2, h3⟩
    refine ⟨⟨by omega, fun i hi => ?_⟩, h3⟩
    rw [← triesP_at hi]; exact h2 i (by omega)
  · rintro ⟨h1, h3⟩
    refine ⟨by rw [h1.n, hl], fun i hi => ?_, h3⟩
    rw [triesP_at (by omega)]; exact h1.f i (by omega)
theorem listsP_ne {b : BBank} (h : BOk b) {m : Int} (hm : 0 ≤ m) : 0 < (listsP b m).length := by
  have := (lists_good _ m (tries_ok h) hm).1
  rcases Nat.eq_zero_or_pos (listsP b m).length with e | e
  · rw [List.getElem?_eq_none (by rw [listsP] at e; omega)] at this; cases this
  · exact e
def capTo : Nat → Int
  | 0 => 20000
  | i + 1 => capTo i * 6
theorem capTo_le : ∀ i, i ≤ 6 → 0 ≤ capTo i ∧ capTo i ≤ 933120000 := fun i hi => by
  match i, hi with
  | 0, _ => decide
  | 1, _ => decide
  | 2, _ => decide
  | 3, _ => decide
  | 4, _ => decide
  | 5, _ => decide
  | 6, _ => decide
  | n + 7, h => omega
theorem casesTo_ok {b : BBank} (h : BOk b) {n : Int} (h0 : 0 ≤ n) (h1 : n ≤ 20000) : ∀ i, i ≤ b.gens.length → 0 ≤ casesTo b n i ∧ casesTo b n i ≤ capTo i
  | 0, _ => ⟨h0, h1⟩
  | i + 1, hi => by
    obtain ⟨a, c⟩ := casesTo_ok h h0 h1 i (by omega)
    have g := h.gen _ (getD_memB (show i < b.gens.length by omega))
    have := g.t0; have := g.t1
    exact mulLe a c (by omega) (by omega)
theorem casesTo_bound {b : BBank} (h : BOk b) {n : Int} (h0 : 0 ≤ n) (h1 : n ≤ 20000) (i : Nat) (hi : i ≤ b.gens.length) : 0 ≤ casesTo b n i ∧ casesTo b n i ≤ 933120000 := by
  have := casesTo_ok h h0 h1 i hi
  have := capTo_le i (by have := h.ng; omega)
  omega
theorem loaded_bound {l : List BSpan} (h : LOk l) : 0 ≤ (loadedP l).1 ∧ (loadedP l).1 ≤ 20000 := by
  rw [loadedP_one h]
  have := h.t
  have h2 := cnt_secs (l := l) (fun x hx => by have := (h.s x hx).1; omega) l.length (Nat.le_refl _)
  dsimp only
  omega
end Go.X

/- The odometer of fails. No condition. -/
set_option linter.unusedVariables false
namespace Go.X
theorem now_at {x : List Int} {i : Nat} (hi : i < x.length) : (x.take (i + 1) ++ List.replicate (x.length - (i + 1)) 0).getD i default = x.getD i default := by
  rw [List.getD_eq_getElem?_getD, List.getElem?_append_left (by rw [List.length_take]; omega), List.getElem?_take, if_pos (by omega), ← List.getD_eq_getElem?_getD]
theorem now_len {x : List Int} {i : Nat} (hi : i ≤ x.length) : (x.take i ++ List.replicate (x.length - i) 0).length = x.length := by
  rw [List.length_append, List.length_take, List.length_replicate]; omega
theorem now_set {x : List Int} {i : Nat} (hi : i < x.length) (y : Int) : (x.take (i + 1) ++ List.replicate (x.length - (i + 1)) 0).set i y = x.take i ++ y :: List.replicate (x.length - (i + 1)) 0 := by
  have hl : (x.take i).length = i := by rw [List.length_take]; omega
  rw [take_snocB hi, List.append_assoc, List.set_append_right _ _ (by omega), hl, Nat.sub_self]
  rfl
theorem now_zero {x : List Int} {i : Nat} (hi : i < x.length) : (x.take (i + 1) ++ List.replicate (x.length - (i + 1)) 0).set i 0 = x.take i ++ List.replicate (x.length - i) 0 := by
  rw [now_set hi, show x.length - i = (x.length - (i + 1)) + 1 by omega, List.replicate_succ]
def leftK (most : Int) (items : List (List Int)) : Nat → Int
  | 0 => most
  | k + 1 => most - sumL (items.getD (k + 1) default)
theorem sumL_rep (n : Nat) : sumL (List.replicate n 0) = 0 := by
  induction n with
  | zero => rfl
  | succ n ih => rw [List.replicate_succ, sumL_cons, ih]; rfl
theorem lists_first {b : BBank} (h : BOk b) {m : Int} (hm : 0 ≤ m) : (listsP b m).getD 0 default = List.replicate b.gens.length 0 := by
  have := (lists_good _ m (tries_ok h) hm).1
  rw [List.getD_eq_getElem?_getD, listsP, this]
  simp [zerosL, triesP]
theorem lists_step {b : BBank} (h : BOk b) {m : Int} (hm : 0 ≤ m) {k : Nat} (hk : k < (listsP b m).length) : stepL (triesP b) m ((listsP b m).getD k default) = (listsP b m)[k + 1]? := by
  have := (lists_good _ m (tries_ok h) hm).2 k ((listsP b m).getD k default) (by rw [List.getD_eq_getElem?_getD, List.getElem?_eq_getElem hk]; exact List.getElem?_eq_getElem hk)
  rw [this]
  split
  · rfl
  · rename_i h2; rw [List.getElem?_eq_none (by rw [listsP]; omega)]
theorem lists_in {b : BBank} (h : BOk b) {m : Int} (hm : 0 ≤ m) {k : Nat} (hk : k < (listsP b m).length) : FOk b ((listsP b m).getD k default) ∧ sumL ((listsP b m).getD k default) ≤ m :=
  (mem_listsP h hm).1 (getD_memB hk)
theorem leftK_eq {b : BBank} (h : BOk b) {m : Int} (hm : 0 ≤ m) {k : Nat} : leftK m (listsP b m) k = m - sumL (((listsP b m).getD k default).take ((listsP b m).getD k default).length) := by
  cases k with
  | zero => rw [lists_first h hm, List.take_length, sumL_rep, leftK]; omega
  | succ k => rw [leftK, List.take_length]
theorem some_getD {L : List (List Int)} {k : Nat} {y : List Int} (h : L[k]? = some y) : k < L.length ∧ L.getD k default = y := by
  have hk : k < L.length := by
    rcases Nat.lt_or_ge k L.length with h1 | h1
    · exact h1
    · rw [List.getElem?_eq_none h1] at h; cases h
  exact ⟨hk, by rw [List.getD_eq_getElem?_getD, h]; rfl⟩
theorem sumL_nonneg {x : List Int} (h : ∀ i, i < x.length → 0 ≤ x.getD i default) : ∀ i, i ≤ x.length → 0 ≤ sumL (x.take i) ∧ sumL (x.take i) ≤ sumL x
  | i, hi => by
    have pos : ∀ z : List Int, (∀ a ∈ z, 0 ≤ a) → 0 ≤ sumL z := by
      intro z
      induction z with
      | nil => intro _; exact Int.le_refl _
      | cons a z ih => intro h; rw [sumL_cons]; have := h a List.mem_cons_self; have := ih (fun b hb => h b (List.mem_cons_of_mem _ hb)); omega
    have all : ∀ a ∈ x, 0 ≤ a := fun a ha => by
      obtain ⟨j, hj, rfl⟩ := List.mem_iff_getElem.1 ha
      have := h j hj
      rwa [List.getD_eq_getElem?_getD, List.getElem?_eq_getElem hj] at this
    have h1 := pos (x.take i) (fun a ha => all a (List.mem_of_mem_take ha))
    have h2 := pos (x.drop i) (fun a ha => all a (List.mem_of_mem_drop ha))
    have h3 : sumL x = sumL (x.take i) + sumL (x.drop i) := by rw [← sumL_append, List.take_append_drop]
    omega
/-- The next list is found at i. -/
theorem next_found {b : BBank} (h : BOk b) {m : Int} (hm : 0 ≤ m) {k : Nat} (hk : k < (listsP b m).length) {i : Nat} (hi : i < b.gens.length)
    (hn : stepL ((triesP b).drop (i + 1)) (m - sumL (((listsP b m).getD k default).take (i + 1))) (((listsP b m).getD k default).drop (i + 1)) = none)
    (h1 : ((listsP b m).getD k default).getD i default < (b.gens.getD i default).tries) (h2 : 0 < m - sumL (((listsP b m).getD k default).take (i + 1))) :
    k + 1 < (listsP b m).length ∧ (listsP b m).getD (k + 1) default = ((listsP b m).getD k default).take i ++ (((listsP b m).getD k default).getD i default + 1) :: List.replicate (((listsP b m).getD k default).length - (i + 1)) 0 ∧
    m - sumL (((listsP b m).getD k default).take (i + 1)) - 1 = leftK m (listsP b m) (k + 1) := by
  have hl := (lists_in h hm hk).1.n
  have ht : (triesP b).length = b.gens.length := by simp [triesP]
  have hs := sumL_take_succ (x := (listsP b m).getD k default) (i := i) (by omega)
  have e := step_some (ts := triesP b) (x := (listsP b m).getD k default) (i := i) (m := m - sumL (((listsP b m).getD k default).take i)) (by omega) (by omega) (by rwa [show m - sumL (((listsP b m).getD k default).take i) - ((listsP b m).getD k default).getD i default = m - sumL (((listsP b m).getD k default).take (i + 1)) by omega]) ⟨by rw [triesP_at hi]; exact h1, by omega⟩
  have e2 := step_pre i _ _ _ _ (by omega) (by omega) e
  rw [lists_step h hm hk] at e2
  obtain ⟨h3, h4⟩ := some_getD e2
  rw [ht, ← hl] at h4
  refine ⟨h3, h4, ?_⟩
  rw [leftK, h4, sumL_append, sumL_cons, sumL_rep]
  omega
theorem next_not {b : BBank} (h : BOk b) {m : Int} (hm : 0 ≤ m) {k : Nat} (hk : k < (listsP b m).length) {i : Nat} (hi : i < b.gens.length)
    (hn : stepL ((triesP b).drop (i + 1)) (m - sumL (((listsP b m).getD k default).take (i + 1))) (((listsP b m).getD k default).drop (i + 1)) = none)
    (hc : ¬ (((listsP b m).getD k default).getD i default < (b.gens.getD i default).tries ∧ 0 < m - sumL (((listsP b m).getD k default).take (i + 1)))) :
    stepL ((triesP b).drop i) (m - sumL (((listsP b m).getD k default).take i)) (((listsP b m).getD k default).drop i) = none ∧
    m - sumL (((listsP b m).getD k default).take (i + 1)) + ((listsP b m).getD k default).getD i default = m - sumL (((listsP b m).getD k default).take i) := by
  have hl := (lists_in h hm hk).1.n
  have ht : (triesP b).length = b.gens.length := by simp [triesP]
  have hs := sumL_take_succ (x := (listsP b m).getD k default) (i := i) (by omega)
  refine ⟨step_none (by omega) (by omega) (by rwa [show m - sumL (((listsP b m).getD k default).take i) - ((listsP b m).getD k default).getD i default = m - sumL (((listsP b m).getD k default).take (i + 1)) by omega]) (fun hh => hc ⟨by rw [← triesP_at hi]; exact hh.1, by omega⟩), by omega⟩
theorem next_end {b : BBank} (h : BOk b) {m : Int} (hm : 0 ≤ m) {k : Nat} (hk : k < (listsP b m).length) (hn : stepL ((triesP b).drop 0) (m - sumL (((listsP b m).getD k default).take 0)) (((listsP b m).getD k default).drop 0) = none) : k + 1 = (listsP b m).length := by
  rw [List.drop_zero, List.drop_zero, List.take_zero, show m - sumL [] = m by simp [sumL], lists_step h hm hk] at hn
  have := List.getElem?_eq_none_iff.1 hn
  omega
def flagP : Nat → Bool
  | 0 => true
  | _ + 1 => false
theorem better_iff {k : Nat} {r out : BRes} : better k r out = true ↔ flagP k = true ∨ (0 ≤ r.dark ∧ (out.dark < 0 ∨ r.dark < out.dark)) := by
  unfold better
  cases k with
  | zero => simp [flagP]
  | succ k => simp [flagP]
theorem step_start {ts x : List Int} (h : x.length = ts.length) (m : Int) : stepL (ts.drop x.length) m (x.drop x.length) = none := by
  rw [h, List.drop_length, ← h, List.drop_length]; rfl
theorem worstTo_succ (b : BBank) (pw : List Int) (ls : List (List Int)) (k : Nat) : worstTo b pw ls (k + 1) = if better k (runP b pw (ls.getD k default)) (worstTo b pw ls k).2 = true then (ls.getD k default, runP b pw (ls.getD k default)) else worstTo b pw ls k := rfl
end Go.X

/- Holding; the chapter's example. No condition. -/
set_option linter.unusedVariables false
set_option maxRecDepth 100000
namespace Go.X
def holdLoad (p : Int) : List BSpan := [⟨3600, p⟩, ⟨400, p⟩]
def holdP (b : BBank) (p most : Int) : Int × Int :=
  if bcheck b ≠ 0 then (0, bcheck b) else if ¬ inA 1000000 [p] = true then (0, 6)
  else if searchP b (holdLoad p) most ≠ 0 then (0, searchP b (holdLoad p) most)
  else if (worstP b (powers (holdLoad p)) most).2.dark < 0 then (4000, 0) else ((worstP b (powers (holdLoad p)) most).2.dark, 0)
structure SOk (b : BBank) (l : List BSpan) (most : Int) : Prop where
  ob : BOk b
  ol : LOk l
  m0 : 0 ≤ most
  c : casesTo b (loadedP l).1 b.gens.length ≤ 4194304
theorem searchP_iff {b : BBank} {l : List BSpan} {most : Int} : searchP b l most = 0 ↔ SOk b l most := by
  unfold searchP
  constructor
  · intro h
    split at h
    · contradiction
    · split at h
      · contradiction
      · split at h
        · cases h
        · split at h
          · cases h
          · rename_i h1 h2 h3 h4
            exact ⟨bcheck_iff.1 (Decidable.of_not_not h1), loadedP_iff.1 (Decidable.of_not_not h2), by omega, by omega⟩
  · rintro ⟨h1, h2, h3, h4⟩
    rw [if_neg (by rw [bcheck_iff.2 h1]; decide), if_neg (by rw [loadedP_iff.2 h2]; decide), if_neg (by omega), if_neg (by omega)]
def exB : BBank := ⟨[⟨1000, 1000, 100, 10⟩], [⟨100, 20, 5, 2, 2⟩]⟩
def exL : List BSpan := [⟨60, 100⟩]
theorem ex_ready : readyP exB exL [0] = 0 := by kernel_rfl
theorem ex_dark : darkP exB (powers exL) [0] = -1 := by kernel_rfl
theorem ex_energy : (runP exB (powers exL) [0]).energy = [300] := by
  unfold runP endP
  rw [ex_dark]
  kernel_rfl
theorem ex_dark1 : darkP exB (powers exL) [1] = 10 := by kernel_rfl
theorem ex_search : searchP exB exL 1 = 0 := by kernel_rfl
theorem ex_lists : listsP exB 1 = [[0], [1]] := by kernel_rfl
theorem ex_worst : (worstP exB (powers exL) 1).1 = [1] ∧ (worstP exB (powers exL) 1).2.dark = 10 := by
  unfold worstP
  rw [ex_lists]
  have h0 : worstTo exB (powers exL) [[0], [1]] 1 = ([0], runP exB (powers exL) [0]) := by
    rw [worstTo_succ, if_pos (by rw [better_iff]; exact .inl rfl)]; rfl
  have h1 : worstTo exB (powers exL) [[0], [1]] 2 = ([1], runP exB (powers exL) [1]) := by
    rw [worstTo_succ, h0, if_pos]
    · rfl
    · rw [better_iff]
      have e0 : (runP exB (powers exL) [0]).dark = -1 := ex_dark
      have e1 : (runP exB (powers exL) ([[0], [1]].getD 1 default)).dark = 10 := ex_dark1
      dsimp only
      rw [e0, e1]; decide
  show (worstTo exB (powers exL) [[0], [1]] 2).1 = [1] ∧ (worstTo exB (powers exL) [[0], [1]] 2).2.dark = 10
  rw [h1]; exact ⟨rfl, ex_dark1⟩
theorem ex_lack0 : lackP exB (powers exL) [0] = 0 := by kernel_rfl
theorem ex_lack1 : lackP exB (powers exL) [1] = 400 := by kernel_rfl
theorem ex_least : leastP exB (powers exL) 1 = 400 := by
  unfold leastP
  rw [ex_lists]
  show max (max 0 (lackP exB (powers exL) [0])) (lackP exB (powers exL) [1]) = 400
  rw [ex_lack0, ex_lack1]; decide
theorem ex_hold_search : searchP exB (holdLoad 100) 1 = 0 := by kernel_rfl
theorem all_not {b : BBank} {pw fs : List Int} {n : Nat} (h : allTo (fun j => !isDark b pw fs j) n = true) : ∀ j, j < n → isDark b pw fs j = false := fun j hj => by
  have := allTo_at h hj
  simpa using this
theorem ex_hold1 : darkP exB (powers (holdLoad 100)) [1] = 10 := by
  have h1 : Nat.ble 11 (powers (holdLoad 100)).length = true := by kernel_rfl
  have h2 : allTo (fun j => !isDark exB (powers (holdLoad 100)) [1] j) 10 = true := by kernel_rfl
  have h3 : isDark exB (powers (holdLoad 100)) [1] 10 = true := by kernel_rfl
  generalize powers (holdLoad 100) = pw at *
  exact dark_here (m := 10) (by have := Nat.le_of_ble_eq_true h1; omega) (all_not h2) h3
theorem ex_hold0 : darkP exB (powers (holdLoad 100)) [0] < 0 ∨ 11 ≤ darkP exB (powers (holdLoad 100)) [0] := by
  have h2 : allTo (fun j => !isDark exB (powers (holdLoad 100)) [0] j) 11 = true := by kernel_rfl
  generalize powers (holdLoad 100) = pw at *
  exact dark_after (n := 11) (all_not h2)
theorem worst_pair {b : BBank} {pw x y : List Int} (h0 : 0 ≤ darkP b pw y) (h : darkP b pw x < 0 ∨ darkP b pw y < darkP b pw x) : (worstTo b pw [x, y] 2) = (y, runP b pw y) := by
  have e0 : worstTo b pw [x, y] 1 = (x, runP b pw x) := by
    rw [worstTo_succ, if_pos (by rw [better_iff]; exact .inl rfl)]; rfl
  rw [worstTo_succ, e0, if_pos (by rw [better_iff]; exact .inr ⟨h0, h⟩)]; rfl
theorem holdP_of {b : BBank} {p most : Int} (h1 : bcheck b = 0) (h2 : inA 1000000 [p] = true) (h3 : searchP b (holdLoad p) most = 0) : holdP b p most = (if (worstP b (powers (holdLoad p)) most).2.dark < 0 then 4000 else (worstP b (powers (holdLoad p)) most).2.dark, 0) := by
  unfold holdP
  rw [if_neg (by rw [h1]; decide), if_neg (by rw [h2]; decide), h3, if_neg (by decide)]
  split <;> rfl
theorem ex_hold_dark : (worstP exB (powers (holdLoad 100)) 1).2.dark = 10 := by
  have h1 := ex_hold1
  have h0 := ex_hold0
  generalize powers (holdLoad 100) = pw at *
  unfold worstP
  rw [ex_lists]
  show (worstTo exB pw [[0], [1]] 2).2.dark = 10
  rw [worst_pair (by rw [h1]; decide) (by rw [h1]; omega)]
  exact h1
theorem ex_hold : holdP exB 100 1 = (10, 0) := by
  rw [holdP_of (by decide) (by decide) ex_hold_search, ex_hold_dark]; rfl
end Go.X

/- What the law makes of numbers. No condition. -/
set_option linter.unusedVariables false
namespace Go.X
def byt (l : List UInt8) (i : Nat) : Int := ((l.getD i default).toNat : Nat)
theorem byt_ok (l : List UInt8) (i : Nat) : 0 ≤ byt l i ∧ byt l i ≤ 255 := by
  have := (l.getD i default).toNat_lt
  unfold byt
  omega
def batAt (l : List UInt8) (i : Nat) : BBat := ⟨40 * byt l i * byt l (i + 1) / 255, 40 * byt l i, byt l (i + 2), byt l (i + 3) % 40⟩
def genAt (l : List UInt8) (i : Nat) : BGen := ⟨byt l i, 1 + byt l (i + 1) % 60, byt l (i + 2) % 30, byt l (i + 3) % 20, 1 + byt l (i + 4) % 4⟩
def madeTo (l : List UInt8) : Nat → BBank
  | 0 => ⟨[], []⟩
  | k + 1 => if (5 * k) % 2 = 0 then ⟨(madeTo l k).bats ++ [batAt l (5 * k)], (madeTo l k).gens⟩ else ⟨(madeTo l k).bats, (madeTo l k).gens ++ [genAt l (5 * k)]⟩
def madeP (l : List UInt8) : BBank := madeTo l (min 7 (l.length / 5))
theorem batAt_ok (l : List UInt8) (i : Nat) : BatOk (batAt l i) := by
  have h0 := byt_ok l i; have h1 := byt_ok l (i + 1); have h2 := byt_ok l (i + 2); have h3 := byt_ok l (i + 3)
  have m := mulLe (a := 40 * byt l i) (b := byt l (i + 1)) (m := 10200) (n := 255) (by omega) (by omega) h1.1 h1.2
  have m2 : 40 * byt l i * byt l (i + 1) ≤ 40 * byt l i * 255 := Int.mul_le_mul_of_nonneg_left h1.2 (by omega)
  unfold batAt
  exact ⟨by dsimp only; omega, by dsimp only; omega, by dsimp only; omega, by dsimp only; omega, by dsimp only; omega, by dsimp only; omega, by dsimp only; omega⟩
theorem genAt_ok (l : List UInt8) (i : Nat) : GenOk (genAt l i) := by
  have h0 := byt_ok l i; have h1 := byt_ok l (i + 1); have h2 := byt_ok l (i + 2); have h3 := byt_ok l (i + 3); have h4 := byt_ok l (i + 4)
  unfold genAt
  exact ⟨by dsimp only; omega, by dsimp only; omega, by dsimp only; omega, by dsimp only; omega, by dsimp only; omega, by dsimp only; omega, by dsimp only; omega, by dsimp only; omega, by dsimp only; omega, by dsimp only; omega⟩
theorem snoc_mem {α : Type} {p : α → Prop} {l : List α} {x : α} (h : ∀ y ∈ l, p y) (hx : p x) : ∀ y ∈ l ++ [x], p y := fun y hy => by
  rcases List.mem_append.1 hy with hy | hy
  · exact h y hy
  · rw [List.mem_singleton] at hy; subst hy; exact hx
theorem madeTo_ok (l : List UInt8) : ∀ k, (∀ x ∈ (madeTo l k).bats, BatOk x) ∧ (∀ x ∈ (madeTo l k).gens, GenOk x) ∧ (madeTo l k).bats.length ≤ (k + 1) / 2 ∧ (madeTo l k).gens.length ≤ k / 2
  | 0 => ⟨fun x hx => absurd hx List.not_mem_nil, fun x hx => absurd hx List.not_mem_nil, Nat.le_refl _, Nat.le_refl _⟩
  | k + 1 => by
    obtain ⟨h1, h2, h3, h4⟩ := madeTo_ok l k
    rw [madeTo]
    split
    · refine ⟨snoc_mem h1 (batAt_ok l _), h2, ?_, ?_⟩
      · rw [List.length_append, List.length_singleton]; omega
      · dsimp only; omega
    · refine ⟨h1, snoc_mem h2 (genAt_ok l _), ?_, ?_⟩
      · dsimp only; omega
      · rw [List.length_append, List.length_singleton]; omega
theorem made_ok (l : List UInt8) : BOk (madeP l) ∧ (madeP l).bats.length ≤ 4 ∧ (madeP l).gens.length ≤ 3 := by
  obtain ⟨h1, h2, h3, h4⟩ := madeTo_ok l (min 7 (l.length / 5))
  have : (madeP l).bats.length ≤ 4 := by unfold madeP; omega
  have : (madeP l).gens.length ≤ 3 := by unfold madeP; omega
  exact ⟨⟨by omega, by omega, h1, h2⟩, by omega, by omega⟩
def spanAt (l : List UInt8) (i : Nat) : BSpan := ⟨1 + byt l i % 40, byt l (i + 1)⟩
def loadTo (l : List UInt8) : Nat → List BSpan
  | 0 => []
  | k + 1 => loadTo l k ++ [spanAt l (2 * k)]
def loadP (l : List UInt8) : List BSpan := loadTo l (min 8 (l.length / 2))
theorem loadTo_ok (l : List UInt8) : ∀ k, (∀ x ∈ loadTo l k, (1 ≤ x.seconds ∧ x.seconds ≤ 40) ∧ 0 ≤ x.power ∧ x.power ≤ 255) ∧ (loadTo l k).length = k
  | 0 => ⟨fun x hx => absurd hx List.not_mem_nil, rfl⟩
  | k + 1 => by
    obtain ⟨h1, h2⟩ := loadTo_ok l k
    have h3 := byt_ok l (2 * k); have h4 := byt_ok l (2 * k + 1)
    rw [loadTo]
    exact ⟨snoc_mem h1 (by unfold spanAt; dsimp only; omega), by rw [List.length_append, h2]; rfl⟩
theorem secs_le {l : List BSpan} (h : ∀ x ∈ l, x.seconds ≤ 40) : ∀ i, i ≤ l.length → secs l i ≤ 40 * i
  | 0, _ => by simp [secs]
  | i + 1, hi => by
    have := secs_le h i (by omega)
    have := h _ (getD_memB (show i < l.length by omega))
    rw [secs]; omega
theorem load_ok (l : List UInt8) : LOk (loadP l) ∧ (∀ x ∈ loadP l, (1 ≤ x.seconds ∧ x.seconds ≤ 40) ∧ 0 ≤ x.power ∧ x.power ≤ 255) ∧ (loadP l).length ≤ 8 ∧ (powers (loadP l)).length ≤ 320 := by
  obtain ⟨h1, h2⟩ := loadTo_ok l (min 8 (l.length / 2))
  have hl : (loadP l).length ≤ 8 := by unfold loadP; omega
  have hs := secs_le (l := loadP l) (fun x hx => (h1 x hx).1.2) _ (Nat.le_refl _)
  have hc := cnt_secs (l := loadP l) (fun x hx => by have := (h1 x hx).1; omega) _ (Nat.le_refl _)
  rw [cnt_all] at hc
  refine ⟨⟨by omega, fun x hx => ?_, by omega⟩, h1, hl, by omega⟩
  have := h1 x hx
  omega
def failAt (b : BBank) (l : List UInt8) (i : Nat) : Int := if i < l.length then byt l i % ((b.gens.getD i default).tries + 1) else 0
def failTo (b : BBank) (l : List UInt8) : Nat → List Int
  | 0 => []
  | i + 1 => failTo b l i ++ [failAt b l i]
def failP (b : BBank) (l : List UInt8) : List Int := failTo b l b.gens.length
theorem failTo_len (b : BBank) (l : List UInt8) : ∀ i, (failTo b l i).length = i
  | 0 => rfl
  | i + 1 => by rw [failTo, List.length_append, failTo_len b l i]; rfl
theorem failTo_at (b : BBank) (l : List UInt8) {j : Nat} : ∀ i, j < i → (failTo b l i).getD j default = failAt b l j
  | 0, h => by omega
  | i + 1, h => by
    have hl := failTo_len b l i
    rw [failTo, List.getD_eq_getElem?_getD, List.getElem?_append]
    split
    · rw [← List.getD_eq_getElem?_getD]; exact failTo_at b l i (by omega)
    · have : j = i := by omega
      subst this
      simp [hl]
theorem fail_ok {b : BBank} (h : BOk b) (l : List UInt8) : FOk b (failP b l) := ⟨failTo_len _ _ _, fun i hi => by
  have g := h.gen _ (getD_memB hi)
  have := g.t0
  have hb := byt_ok l i
  rw [failP, failTo_at _ _ _ hi, failAt]
  split
  · exact ⟨Int.emod_nonneg _ (by omega), by have := Int.emod_lt_of_pos (byt l i) (show 0 < (b.gens.getD i default).tries + 1 by omega); omega⟩
  · omega⟩
def laterP (a b : Int) : Bool := decide (a < 0) || (decide (0 ≤ b) && decide (b ≤ a))
end Go.X
