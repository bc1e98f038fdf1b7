/- A part of the proof: a small program logic, plain laws and contracts of functions, each proved by a walk through its operations. No condition but those that stand in each theorem. -/
import Derived.Test.YtbeieafhcephmaaA1
import Derived.Carry
import Derived.Deep.Grids
import Derived.Deep.Slices
import Derived.MapKept
import Derived.OpenShut
import Derived.ProofKit
import Derived.SizedLaws
import Derived.WideKeyRuns
/- Loops over functions: the rounds, the loop, an iterator's contract. No condition. -/
set_option linter.unusedSimpArgs false
set_option linter.unusedVariables false
namespace Go.X

/-! ### a round -/
def rdy (l : Nat) (rec : Loop) : PHeap := sing l (.loop { rec with state := .ready, pending := none })
def bsy (l : Nat) (rec : Loop) : PHeap := sing l (.loop { rec with state := .busy, pending := none })
def ovr (l : Nat) (rec : Loop) (j : Option Code) : PHeap := sing l (.loop { rec with state := if j.isNone then .ready else .done, pending := j })
theorem ovr_none (l : Nat) (rec : Loop) : ovr l rec none = rdy l rec := rfl
def Leaves : Option Code → List Item → Prop
  | none, [] => True
  | some .ret, .code .ret :: _ => True
  | some (.exit id), .code (.exit id') :: k => id = id' ∧ exitTo id k = none
  | _, _ => False
/-- The frame of a round; at its end: the jump, the heaps. -/
abbrev rcx (P : Program) (f : FuncId) (N : Nat) (l : Nat) (rec : Loop) (B : PHeap) (R : Option Code → List PHeap → Prop) : Cx :=
  { P, f, rd := some l, N, B, E := fun fr w' => ∃ j k a ds hs, fr = mk f (some l) a (marks ds) k ∧ Leaves j k ∧ R j hs ∧ Sep (bsy l rec :: hs) [B] w' }
section
variable {P : Program} {f : FuncId} {N l : Nat} {rec : Loop} {B : PHeap} {R : Option Code → List PHeap → Prop} {k : List Item} {e : Env} {o o1 r : List PHeap}
theorem Sep.turn {b : Nat} {x y : Obj} {o r : List PHeap} {w : World} (s : Sep (sing b x :: o) r w) : Sep (sing b y :: o) r (w.putObj b y) ∧ w.heap[b]? = some x := by
  have hb : w.heap[b]? = some x := s.so _ List.mem_cons_self b x (sing_self b x)
  have hlt : b < w.heap.size := (Array.getElem?_eq_some_iff.1 hb).1
  refine ⟨s.swap (fun x' hx' => ?_) (fun x' ob hx' => ?_) (fun x' hx' => ?_) rfl rfl, hb⟩
  · unfold sing at *; dsimp only at hx' ⊢; split at hx'
    · cases hx'
    · simp [*]
  · obtain ⟨rfl, rfl⟩ := sing_some hx'
    exact World.putObj_heap_same hlt
  · refine World.putObj_heap_other ?_
    rintro rfl
    rw [sing_self] at hx'; cases hx'
theorem XK.beginRound [t : Take (rdy l rec) o o1] (h : XK (rcx P f N l rec B R) k e (bsy l rec :: o1) r) : XK (rcx P f N l rec B R) (.beginRound :: k) e o r := fun D ds a w cs ha he hD hm => by
  have hp : (D :: o).Perm (rdy l rec :: D :: o1) := (t.pf.cons D).trans (List.Perm.swap _ _ _)
  obtain ⟨h1, hb⟩ := Sep.turn (y := .loop { rec with state := .busy, pending := none }) (hm.perm hp)
  obtain ⟨fr, w', hE, st⟩ := h D ds a _ cs ha he hD (h1.perm (List.Perm.swap _ _ _))
  refine ⟨fr, w', hE, .head (step_lone_go ?_) st⟩
  have hr := run_beginRound (P := P) hb rfl
  simp [stepG, stepG.exec, stepG.apply, mk, Sem.runT_eq, hr, Result.andThen, Frame.finish]
theorem XK.leave {j : Option Code} (hs : List PHeap) [p : Wk o (bsy l rec :: hs)] (hj : Leaves j k) (hR : R j hs) : XK (rcx P f N l rec B R) k e o r := fun D ds a w cs ha he hD hm =>
  ⟨_, w, ⟨j, k, a, ds, hs, rfl, hj, hR, (p.sep hm.tail).reads (fun g hg => by simp at hg; subst hg; exact List.mem_cons_self)⟩, .refl _ _⟩
theorem step_leave {j : Option Code} {a : Array Value} {ds : List Deferred} {c0 : Frame} {cs : List Frame} {w w' : World} {v : Value} (hj : Leaves j k) (hr : (Instr.endRound l j).run P w = .ok v w') :
    step P (lone (mk f (some l) a ds k) (c0 :: cs) w) = .next (lone (c0.finish v) cs w') := by
  unfold Leaves at hj
  split at hj
  · exact step_lone_go (by simp [stepG, stepG.exec, mk, Sem.runT_eq, hr, doReturn])
  · exact step_lone_go (by simp [stepG, stepG.exec, mk, Sem.runT_eq, hr, doReturn])
  · obtain ⟨rfl, hx⟩ := hj
    exact step_lone_go (by simp [stepG, stepG.exec, mk, hx, Sem.runT_eq, hr, doReturn])
  · exact hj.elim
def pars : List Tmp → List Value → Env → Env
  | p :: ps, v :: vs, e => pars ps vs ((p, some v) :: e)
  | _, _, e => e
theorem pars_rel : ∀ (ps : List Tmp) (vs : List Value) (e : Env) (a : Array Value), (∀ p ∈ ps, p < a.size) → ERel e a →
    ERel (pars ps vs e) ((ps.zip vs).foldl (fun tmps (t, x) => tmps.setIfInBounds t x) a) ∧ ((ps.zip vs).foldl (fun tmps (t, x) => tmps.setIfInBounds t x) a).size = a.size
  | [], vs, e, a, _, he => by cases vs <;> exact ⟨he, rfl⟩
  | p :: ps, [], e, a, _, he => ⟨he, rfl⟩
  | p :: ps, v :: vs, e, a, hp, he => by
    have h1 : ERel ((p, some v) :: e) (a.setIfInBounds p v) := he.put (hp p List.mem_cons_self)
    obtain ⟨h2, h3⟩ := pars_rel ps vs _ (a.setIfInBounds p v) (fun q hq => by simp; exact hp q (List.mem_cons_of_mem _ hq)) h1
    exact ⟨h2, by rw [List.zip_cons_cons, List.foldl_cons]; rw [h3]; simp⟩
/-- A call of yield is a round. -/
theorem VSpec.round {Hr hs0 : List PHeap} {ps : List Tmp} {vs : List Value} {asn bd : Code} {L0 : Nat} {a : Array Value} (hrec : rec = { state := .ready, pending := none, fn := f, tmps := a, params := ps.toArray, assign := asn, body := bd, defers := L0 })
    (hN : a.size = N) (he : ERel e a) (hps : ∀ p ∈ ps, p < N) (hlen : vs.length = ps.length)
    (h : ∀ B, XK (rcx P f N l rec B R) [.code asn, .beginRound, .code bd] (pars ps vs e) (rdy l rec :: hs0) Hr) :
    VSpec P (.func (.yield l) #[] #[]) vs (rdy l rec :: hs0) Hr (fun v hs => ∃ j hs', v = .bool (Option.isNone j) ∧ hs = ovr l rec j :: hs' ∧ R j hs') := fun o r w hs hr => by
  have hb : w.heap[l]? = some (.loop { rec with state := .ready, pending := none }) := hs.so _ List.mem_cons_self l _ (sing_self _ _)
  have hrun : (callv (.func (.yield l) #[] #[]) vs.toArray).run P w =
      .ok (.round l f ((ps.zip vs).foldl (fun tmps (t, x) => tmps.setIfInBounds t x) a) asn bd) w := by
    unfold callv
    have e1 : (Deferred.ofValue (.func (.yield l) #[] #[]) vs.toArray).run P w = .ok { target := .fn (.yield l) #[], args := #[] ++ vs.toArray } w := rfl
    rw [bind_ok e1]
    simp only [invoke, Array.empty_append]
    rw [run_yield hb (by subst hrec; simp [hlen])]
    subst hrec
    simp [List.zip_toArray, List.foldl_toArray]
  unfold NDoes
  rw [hrun]
  intro c0 cs
  obtain ⟨hr1, hr2⟩ := pars_rel ps vs e a (fun p hp => hN ▸ hps p hp) he
  obtain ⟨fr, w', ⟨j, k, a', ds, hs', rfl, hj, hR, hS⟩, st⟩ := h (hole w (rdy l rec :: hs0)) emp [] _ w (c0 :: cs) (hr2.trans hN) hr1 ⟨List.nodup_nil, fun b => by simp [emp]⟩ (frame_in hs hr).empC
  obtain ⟨hS2, hb2⟩ := Sep.turn (y := .loop { rec with state := if j.isNone then .ready else .done, pending := j }) hS
  have hend := run_endRound (P := P) j hb2
  refine ⟨_, _, ⟨_, ⟨j, hs', rfl, rfl, hR⟩, frame_out hs hS2⟩, ?_⟩
  refine Steps.trans ?_ (.one (step_leave (f := f) (a := a') (ds := marks ds) (c0 := c0) (cs := cs) hj hend))
  exact st
end

/-! ### the loop -/
theorem NDoes.mono {P : Program} {s : Sem Next} {w : World} {Q R : Value → World → Prop} (h : NDoes P s w Q) (m : ∀ v w', Q v w' → R v w') : NDoes P s w R := by
  unfold NDoes at *
  split at h
  · exact h.mono fun e w'' ⟨v, he, hv⟩ => ⟨v, he, m _ _ hv⟩
  · exact fun c0 cs => let ⟨v, w', hv, hs⟩ := h c0 cs; ⟨v, w', m _ _ hv, hs⟩
  · exact h.elim
theorem VSpec.mono {P : Program} {y : Value} {vs : List Value} {Hm Hr : List PHeap} {R R' : Value → List PHeap → Prop} (h : VSpec P y vs Hm Hr R) (m : ∀ v hs, R v hs → R' v hs) : VSpec P y vs Hm Hr R' :=
  fun o r w hs hr => (h o r w hs hr).mono fun v _ ⟨hs', hR, hS⟩ => ⟨hs', m v hs' hR, hS⟩
theorem VSpec.joined {P : Program} {y : Value} {vs : List Value} {Hm Hr : List PHeap} {R : Value → List PHeap → Prop} (h : VSpec P y vs Hm Hr R) (hp : PD Hm) :
    VSpec P y vs [join Hm] Hr (fun v hs => ∃ hs', R v hs' ∧ PD hs' ∧ hs = [join hs']) := fun o r w hs hr =>
  (h o r w (Sep.split hp hs) hr).mono fun v _ ⟨hs', hR, hS⟩ => ⟨_, ⟨hs', hR, ⟨hS.left.pw, hS.left.no⟩, rfl⟩, hS.join⟩
/-- An iterator: it yields the items, one after the other, till a call of yield answers false. -/
def It (P : Program) (y : Value) (items : List (List Value)) (Hg : List PHeap) : Prop :=
  ∀ (f : Value) (Hr : List PHeap) (Q : Nat → PHeap → Prop) (X : PHeap → Prop),
    (∀ i, i < items.length → ∀ q, Q i q → VSpec P f (items.getD i []) [q] Hr (fun v hs => ∃ b q', v = .bool b ∧ hs = [q'] ∧ (b = true → Q (i + 1) q') ∧ (b = false → X q'))) →
    ∀ q, Q 0 q → VSpec P y [f] [q] (Hg ++ Hr) (fun _ hs => ∃ q', hs = [q'] ∧ (Q items.length q' ∨ X q'))
theorem step_range {P : Program} {f : FuncId} {a : Array Value} {ds mark : List Deferred} {k : List Item} {cs : List Frame} {w w1 : World} {l : Nat} {x : Operand} {y : Value} {ps : Array Tmp} {asn bd : Code}
    {Post : Value → World → Prop} (he : (Instr.enterLoop f a ps asn bd none).run P w = .ok (l, mark) w1) (hx : evA a x = y) (h : NDoes P (callv y #[.func (.yield l) #[] #[]]) w1 Post) :
    ∃ v w', Post v w' ∧ Steps P (lone (mk f none a ds (.code (.rangeFunc x ps asn bd) :: k)) cs w) (lone (mk f none a (mark ++ ds) (.endRangeFunc l :: k)) cs w') := by
  have hev : ∀ z, (mk f none a (mark ++ ds) (.inRangeFunc l :: k)).eval z = evA a z := fun z => eval_mk z
  have hcall : (do
      let d ← resolve (mk f none a (mark ++ ds) (.inRangeFunc l :: k)).eval { callee := .value x, args := #[.const (.func (.yield l) #[] #[])], argTypes := #[] } 0
      invoke d.target d.args : Sem Next) = callv y #[.func (.yield l) #[] #[]] := by
    simp only [resolve, hev, hx, callv]
    simp [eval_mk, evA]
  simp only [mk] at hcall
  have hfin : ∀ v, (mk f none a (mark ++ ds) (.inRangeFunc l :: k)).finish v = mk f none a (mark ++ ds) (.endRangeFunc l :: k) := fun v => by simp [Frame.finish, mk]
  unfold NDoes at h
  split at h
  · rename_i g args w' hr
    obtain ⟨e, w'', fr, ⟨v, rfl, hp⟩, hsteps, _, hleave⟩ := h (mk f none a (mark ++ ds) (.inRangeFunc l :: k) :: cs)
    have henter : step P (lone (mk f none a ds (.code (.rangeFunc x ps asn bd) :: k)) cs w) =
        .next (lone (Frame.enter P g args .normal) (mk f none a (mark ++ ds) (.inRangeFunc l :: k) :: cs) w') :=
      step_lone_go (by simp [stepG, stepG.exec, stepG.apply, mk, Sem.runT_eq, he, hcall, hr, GStep.bare_after])
    refine ⟨v, w'', hp, .head henter (Steps.trans hsteps ?_)⟩
    rw [← hfin v]; exact finish_returns hleave
  · rename_i l' g tmps asn' bd' w' hr
    obtain ⟨v, w'', hp, hs⟩ := h (mk f none a (mark ++ ds) (.inRangeFunc l :: k)) cs
    have henter : step P (lone (mk f none a ds (.code (.rangeFunc x ps asn bd) :: k)) cs w) =
        .next (lone (Frame.round l' g tmps asn' bd' .normal) (mk f none a (mark ++ ds) (.inRangeFunc l :: k) :: cs) w') :=
      step_lone_go (by simp [stepG, stepG.exec, stepG.apply, mk, Sem.runT_eq, he, hcall, hr, GStep.bare_after])
    refine ⟨v, w'', hp, .head henter ?_⟩
    rw [← hfin v]; exact hs
  · exact h.elim
theorem step_endRange {P : Program} {f : FuncId} {a : Array Value} {ds : List Deferred} {k : List Item} {cs : List Frame} {w w1 : World} {l : Nat} {j : Option Code}
    (h : (Instr.endLoop l).run P w = .ok j w1) : step P (lone (mk f none a ds (.endRangeFunc l :: k)) cs w) = .next (lone (mk f none a ds ((j.map Item.code).toList ++ k)) cs w1) :=
  step_lone_go (by simp [stepG, stepG.exec, mk, Sem.runT_eq, h, GStep.bare_after])
def RoundR {X : Type} (oc : X → List PHeap) (I : X → Prop) (J : Code → X → Prop) : Option Code → List PHeap → Prop
  | none, hs => ∃ x, I x ∧ hs = oc x
  | some j, hs => ∃ x, J j x ∧ hs = oc x
/-- A loop over a function in a frame that is no round. 'I i x': ahead of item i; 'J j x': a round has left the loop by the jump j. -/
theorem XK.range {P : Program} {f : FuncId} {N : Nat} {B : PHeap} {E : Frame → World → Prop} {X : Type} {k : List Item} {e : Env} {o ok r : List PHeap} {x : Operand} {y : Value} {ps : List Tmp} {asn bd : Code} {Hg : List PHeap} (items : List (List Value))
    (oc : X → List PHeap) (I : Nat → X → Prop) (J : Code → X → Prop) (x0 : X) (o0 : List PHeap) [rst : Rest o0 o ok] (ho0 : oc x0 = o0) (h0 : I 0 x0) (hx : ev e x = some y)
    (hit : It P y items Hg) [al : AllIn Hg ok (B :: r)] (hps : ps.all (fun p => Nat.blt p N) = true) (hlen : ∀ i, i < items.length → (items.getD i []).length = ps.length)
    (round : ∀ l rec B' i x, i < items.length → I i x → XK (rcx P f N l rec B' (RoundR oc (I (i + 1)) J)) [.code asn, .beginRound, .code bd] (pars ps (items.getD i []) e) (rdy l rec :: oc x) (ok ++ r))
    (cont : ∀ x, I items.length x → XK ⟨P, f, none, N, B, E⟩ k e (oc x ++ ok) r)
    (jump : ∀ j x, J j x → XK ⟨P, f, none, N, B, E⟩ (.code j :: k) e (oc x ++ ok) r) :
    XK ⟨P, f, none, N, B, E⟩ (.code (.rangeFunc x ps.toArray asn bd) :: k) e o r := fun D ds a w cs ha he hD hm => by
  have hm1 : Sep (D :: (o0 ++ ok)) (B :: r) w := rst.wk.sepD hm
  let rec' : Loop := { state := .ready, pending := none, fn := f, tmps := a, params := ps.toArray, assign := asn, body := bd, defers := w.heap.size }
  let l := w.heap.size + 1
  let w1 := (w.alloc (.deferred (some []))).alloc (.loop rec')
  have henter : (Instr.enterLoop f a ps.toArray asn bd none).run P w = .ok (l, [{ target := .collected w.heap.size, args := #[] }]) w1 := run_enterLoop_outer f a ps.toArray asn bd
  have hs1 : Sep (rdy l rec' :: sing w.heap.size (.deferred (some [])) :: D :: (o0 ++ ok)) (B :: r) w1 := by
    have := (hm1.push (.deferred (some []))).push (.loop rec')
    simp only [Array.size_push] at this
    exact this
  let D' := Go.X.join [sing w.heap.size (.deferred (some [])), D]
  have hs2 : Sep (D' :: rdy l rec' :: (o0 ++ ok)) (B :: r) w1 := by
    refine Sep.join (hs := [sing w.heap.size (.deferred (some [])), D]) (hs1.perm ?_)
    exact (List.Perm.swap _ _ _).trans ((List.Perm.swap _ _ _).cons _)
  have hD' : Marked D' (w.heap.size :: ds) := by
    refine ⟨List.nodup_cons.2 ⟨fun hmem => ?_, hD.1⟩, fun b => ?_⟩
    · have := sub_lt (hm.so D List.mem_cons_self) (b := w.heap.size) (o := .deferred (some [])) (by rw [hD.2, if_pos hmem])
      omega
    · simp only [D', Go.X.join, sing, emp, Option.or_none, hD.2 b, List.mem_cons]
      by_cases hb : b = w.heap.size
      · simp [hb]
      · simp [hb]
  have hs3 : Sep (Go.X.join (rdy l rec' :: o0) :: D' :: ok) (B :: r) w1 := Sep.join (hs := rdy l rec' :: o0) (hs2.perm (by
    simp only [List.cons_append]
    exact (List.Perm.swap _ _ _).trans (List.perm_middle.symm.cons _)))
  have hp0 : PD (rdy l rec' :: oc x0) := by
    rw [ho0]
    have hsub : (rdy l rec' :: o0).Sublist (rdy l rec' :: (o0 ++ ok)) := List.Sublist.cons_cons _ (List.sublist_append_left _ _)
    exact ⟨hs2.tail.pw.sublist hsub, fun h hh => hs2.tail.no h (hsub.mem hh)⟩
  have hpsN : ∀ p ∈ ps, p < N := fun p hp => by
    have := List.all_eq_true.1 hps p hp
    rwa [Nat.blt_eq] at this
  have hyield : ∀ i, i < items.length → ∀ q, (∃ x, I i x ∧ PD (rdy l rec' :: oc x) ∧ q = Go.X.join (rdy l rec' :: oc x)) →
      VSpec P (.func (.yield l) #[] #[]) (items.getD i []) [q] (ok ++ r) (fun v hs => ∃ b q', v = .bool b ∧ hs = [q'] ∧
        (b = true → ∃ x, I (i + 1) x ∧ PD (rdy l rec' :: oc x) ∧ q' = Go.X.join (rdy l rec' :: oc x)) ∧
        (b = false → ∃ j x, J j x ∧ PD (ovr l rec' (some j) :: oc x) ∧ q' = Go.X.join (ovr l rec' (some j) :: oc x))) := by
    rintro i hi q ⟨x, hI, hp, rfl⟩
    refine ((VSpec.round (rec := rec') (N := N) (e := e) rfl ha he hpsN (hlen i hi) (fun B' => round l rec' B' i x hi hI)).joined hp).mono ?_
    rintro v hs ⟨hs', ⟨j, hs'', rfl, rfl, hR⟩, hpw, rfl⟩
    refine ⟨_, _, rfl, rfl, ?_, ?_⟩
    · intro hj
      cases j with
      | some j => cases hj
      | none =>
        obtain ⟨x', h1, rfl⟩ := hR
        exact ⟨x', h1, hpw, rfl⟩
    · intro hj
      cases j with
      | none => cases hj
      | some j =>
        obtain ⟨x', h1, rfl⟩ := hR
        exact ⟨j, x', h1, hpw, rfl⟩
  have hN := hit _ (ok ++ r) _ _ hyield (Go.X.join (rdy l rec' :: o0)) ⟨x0, h0, hp0, by rw [ho0]⟩ (D' :: ok) (B :: r) w1 hs3 (fun h hh => by
    rcases List.mem_append.1 hh with hh | hh
    · exact orMap (al.pf h hh) (List.mem_cons_of_mem _) id
    · rcases List.mem_append.1 hh with hh | hh
      · exact .inl (List.mem_cons_of_mem _ hh)
      · exact .inr (List.mem_cons_of_mem _ hh))
  obtain ⟨v, w', ⟨hs', ⟨q', rfl, hq⟩, hS⟩, st⟩ := step_range (ds := marks ds) (k := k) (cs := cs) henter (ev_rel he hx) hN
  rcases hq with ⟨x', hI, hpw, rfl⟩ | ⟨j, x', hJ, hpw, rfl⟩
  · obtain ⟨hS2, hb⟩ := Sep.turn (y := .loop { rec' with state := .exhausted, pending := none }) (Sep.split hpw hS)
    obtain ⟨fr, w2, hE, st2⟩ := cont x' hI D' (w.heap.size :: ds) a _ cs ha he hD' (hS2.tail.perm List.perm_middle)
    exact ⟨fr, w2, hE, Steps.trans st (.head (step_endRange (run_endLoop hb (by simp))) st2)⟩
  · obtain ⟨hS2, hb⟩ := Sep.turn (y := .loop { rec' with state := .exhausted, pending := some j }) (Sep.split hpw hS)
    obtain ⟨fr, w2, hE, st2⟩ := jump j x' hJ D' (w.heap.size :: ds) a _ cs ha he hD' (hS2.tail.perm List.perm_middle)
    exact ⟨fr, w2, hE, Steps.trans st (.head (step_endRange (run_endLoop hb (by simp))) st2)⟩
end Go.X

/- Bits of unsigned numbers; copies between slices. No condition. -/
set_option linter.unusedSimpArgs false
set_option linter.unusedVariables false
namespace Go.X
section
variable {P : Program} {ops : Array Oper} {e : Env} {o r : List PHeap} {d : Option Tmp} {ty : TypeId} {pos : String} {aft : Array Edge}
theorem wrapu64 {n : Int} (h : 0 ≤ n ∧ n < 18446744073709551616) : IntKind.u64.wrap n = n := by
  have : IntKind.u64.wrap n = n % 18446744073709551616 := rfl
  rw [this]; omega
theorem Q.addU {t t2 : TypeId} {x y : Operand} {m n : Int} (hx : ev e x = some (.int .u64 m)) (hy : ev e y = some (.int .u64 n)) (h : 0 ≤ m + n ∧ m + n < 18446744073709551616) :
    Quiet P ops ⟨d, .binOp .add t x y t2, ty, pos, aft, none⟩ e o r (.int .u64 (m + n)) := by
  have := Q.addW (P := P) (ops := ops) (o := o) (r := r) (d := d) (ty := ty) (pos := pos) (aft := aft) (t := t) (t2 := t2) hx hy
  rwa [wrapu64 h] at this
theorem Q.mulU {t t2 : TypeId} {x y : Operand} {m n : Int} (hx : ev e x = some (.int .u64 m)) (hy : ev e y = some (.int .u64 n)) (h : 0 ≤ m * n ∧ m * n < 18446744073709551616) :
    Quiet P ops ⟨d, .binOp .mul t x y t2, ty, pos, aft, none⟩ e o r (.int .u64 (m * n)) := by
  have := Q.mulW (P := P) (ops := ops) (o := o) (r := r) (d := d) (ty := ty) (pos := pos) (aft := aft) (t := t) (t2 := t2) hx hy
  rwa [wrapu64 h] at this
/-- & with 2^32 - 1 -/
theorem Q.mask32 {t t2 : TypeId} {x y : Operand} {m : Int} (hx : ev e x = some (.int .u64 m)) (hy : ev e y = some (.int .u64 4294967295)) (h : 0 ≤ m ∧ m < 18446744073709551616) :
    Quiet P ops ⟨d, .binOp .and t x y t2, ty, pos, aft, none⟩ e o r (.int .u64 (m % 4294967296)) := Q.bin hx hy fun w => by
  obtain ⟨n, rfl⟩ := Int.eq_ofNat_of_zero_le h.1
  have hn : n < 18446744073709551616 := by omega
  have e1 : binOp .and t (.int .u64 (n : Int)) (.int .u64 4294967295) = Op.intBits .and .u64 (n : Int) 4294967295 := by simp [binOp]
  rw [e1]
  have e2 : (BitVec.ofInt 64 (n : Int) &&& BitVec.ofInt 64 4294967295).toNat = n % 4294967296 := by
    have e3 : BitVec.ofInt 64 (4294967295 : Int) = BitVec.ofNat 64 (2 ^ 32 - 1) := by decide
    rw [e3, BitVec.ofInt_natCast, BitVec.toNat_and, BitVec.toNat_ofNat, BitVec.toNat_ofNat, Nat.mod_eq_of_lt hn, Nat.mod_eq_of_lt (show 2 ^ 32 - 1 < 2 ^ 64 by decide), Nat.and_two_pow_sub_one_eq_mod]
  have e4 : Op.intBits .and .u64 (n : Int) 4294967295 = (pure (.int .u64 (IntKind.u64.wrap ((BitVec.ofInt 64 (n : Int) &&& BitVec.ofInt 64 4294967295).toNat : Int))) : Sem Value) := rfl
  rw [e4, e2, wrapu64 (by omega)]
  simp
theorem Q.shr32 {t t2 : TypeId} {x y : Operand} {k' : IntKind} {m : Int} (hx : ev e x = some (.int .u64 m)) (hy : ev e y = some (.int k' 32)) :
    Quiet P ops ⟨d, .binOp .shr t x y t2, ty, pos, aft, none⟩ e o r (.int .u64 (m / 4294967296)) := Q.bin hx hy fun w => by
  have e1 : binOp .shr t (.int .u64 m) (.int k' 32) = Op.shift .shr .u64 m k' 32 := by simp [binOp]
  rw [e1]
  have e2 : Op.shift .shr .u64 m k' 32 = (pure (.int .u64 (m.fdiv (2 ^ 32))) : Sem Value) := rfl
  rw [e2, Int.fdiv_eq_ediv_of_nonneg _ (by decide)]
  rfl
end

/-! ### copies -/
theorem flat_take {α : Type} {enc : α → List Value} {sz : Nat} (he : ∀ x, (enc x).length = sz) : ∀ (xs : List α) (i : Nat), (xs.take i).flatMap enc = (xs.flatMap enc).take (i * sz)
  | [], i => by simp
  | x :: xs, 0 => by simp
  | x :: xs, i + 1 => by
    rw [List.take_succ_cons, List.flatMap_cons, List.flatMap_cons, flat_take he xs i, Nat.add_mul, Nat.one_mul, List.take_append, he]
    rw [List.take_of_length_le (l := enc x) (by rw [he]; omega), show i * sz + sz - sz = i * sz by omega]
theorem flat_drop {α : Type} {enc : α → List Value} {sz : Nat} (he : ∀ x, (enc x).length = sz) : ∀ (xs : List α) (i : Nat), (xs.drop i).flatMap enc = (xs.flatMap enc).drop (i * sz)
  | [], i => by simp
  | x :: xs, 0 => by simp
  | x :: xs, i + 1 => by
    rw [List.drop_succ_cons, List.flatMap_cons, flat_drop he xs i, Nat.add_mul, Nat.one_mul, List.drop_append, he]
    rw [List.drop_of_length_le (l := enc x) (by rw [he]; omega), show i * sz + sz - sz = i * sz by omega, List.nil_append]
def tailv (v : Value) (sz i : Nat) : Value := match v with
  | .slice ad n c => .slice (if c = i then ad else ad.map (·.add (i * sz))) (n - i) (c - i)
  | v => v
def splice {α : Type} (xs ys : List α) (i : Nat) : List α := xs.take i ++ ys.take (min ys.length (xs.length - i)) ++ xs.drop (i + min ys.length (xs.length - i))
section
variable {P : Program} {ops : Array Oper} {e : Env} {o r : List PHeap} {d : Option Tmp} {ty : TypeId} {pos : String} {aft : Array Edge}
variable {α : Type} {enc : α → List Value} {sz : Nat} {h : PHeap} {xs : List α} {v : Value}
theorem tailv_zero {T : TypeId} [s : OArr v enc sz T h xs] : tailv v sz 0 = v := by
  obtain ⟨he, hm, ⟨rfl, rfl, rfl⟩ | ⟨b, c, cs, rfl, rfl, hle, hlen, ht⟩⟩ := s.pf
  · rfl
  · simp only [tailv, Nat.zero_mul, Nat.sub_zero, Option.map_some, add_none]
    split <;> simp
theorem Q.tail {t el : TypeId} [u : Und P t (.slice el)] [z : TySize P el sz] {x : Operand} {lo : Option Operand} {i : Nat} (hx : ev e x = some v) [s : Arr v enc sz h xs] (hlo : Bd e 0 lo i) (hi : i ≤ xs.length) :
    Quiet P ops ⟨d, .slice t x lo none none, ty, pos, aft, none⟩ e o r (tailv v sz i) := .mk fun a w he _ => by
  obtain ⟨henc, hm, ad, c, rfl, hle, hnn, hc⟩ := s.pf
  have hrun : (Instr.sliceAt t (.slice ad xs.length c) (lo.map (evA a)) none none).run P w =
      .ok (.slice (if c = i then ad else ad.map (·.add (i * sz))) (xs.length - i) (c - i)) w := by
    unfold Instr.sliceAt
    rw [bind_ok (u.pf w)]
    simp only
    unfold Instr.slice
    rw [bind_ok (u.pf w)]
    simp only
    have hb : (Instr.sliceBounds true xs.length c (lo.map (evA a)) none none).run P w = .ok (i, xs.length, c) w := by
      unfold Instr.sliceBounds
      simp only [pure_bind]
      rcases Bd.run (P := P) he hlo xs.length .sliceB (by omega) w with ⟨h3, h4⟩ | ⟨v3, h3, h4⟩
      · rw [h3, h4]; rfl
      · rw [h3]
        simp only [Option.isSome_none, Bool.false_eq_true, if_false]
        rw [bind_ok h4]; rfl
    rw [bind_ok hb]
    simp only
    rw [bind_ok (z.pf w)]
    rfl
  simp only [execOp, ev_rel he hx, Option.map_none]
  exact run_val hrun
theorem run_copy {t0 t1 ty el : TypeId} [u : Und P t0 (.slice el)] [z : TySize P el sz] {v2 : Value} {h2 : PHeap} {ys : List α} [s2 : Arr v2 enc sz h2 ys] {w w' : World} (hsub2 : sub h2 w) {ad : Option Addr} {m c : Nat}
    (hst : ((match ad with | some a => storeCells a ((ys.take (min ys.length m)).flatMap enc) 0 | none => pure () : Sem Unit)).run P w = .ok () w') :
    (Builtin.copy_ #[t0, t1] ty #[.slice ad m c, v2]).run P w = .ok (.int .i64 ((min ys.length m : Nat) : Int)) w' := by
  obtain ⟨henc2, hm2, a2, c2, hv2, hle2, hnn2, hc2⟩ := s2.pf
  have hlen2 : (Builtin.lenOf v2).run P w = .ok ys.length w := by rw [hv2]; rfl
  have hcells : (Builtin.firstCells sz (min ys.length m) v2).run P w = .ok ((ys.take (min ys.length m)).flatMap enc).toArray w := s2.cells hsub2 _ (by omega)
  unfold Builtin.copy_
  simp only [List.getElem?_toArray, List.getElem?_cons_zero, List.getElem?_cons_succ]
  rw [bind_ok (u.pf w)]
  simp only
  rw [bind_ok hlen2, bind_ok (z.pf w)]
  have hcells' : (Builtin.firstCells sz (Nat.min ys.length m) v2).run P w = .ok ((ys.take (min ys.length m)).flatMap enc).toArray w := hcells
  rw [bind_ok hcells']
  cases ad with
  | none =>
    simp only at hst ⊢
    have : w' = w := by
      have h1 : (pure () : Sem Unit).run P w = .ok () w := rfl
      rw [h1] at hst
      injection hst with h2 h3
      exact h3.symm
    subst this
    rfl
  | some a =>
    simp only at hst ⊢
    rw [bind_ok hst]
    rfl
theorem Stp0.copy {t0 t1 el T : TypeId} [u : Und P t0 (.slice el)] [z : TySize P el sz] {x y : Operand} {vd v2 : Value} {h2 : PHeap} {ys : List α} {i : Nat} {o1 : List PHeap} (hx : ev e x = some vd) (hd : vd = tailv v sz i) (hy : ev e y = some v2)
    [s : OArr v enc sz T h xs] [tk : Take h o o1] [s2 : Arr v2 enc sz h2 ys] [m : InM h2 o r] (hi : i ≤ xs.length) :
    Stp0 P ops ⟨d, .call ⟨.builtin .copy, #[x, y], #[t0, t1]⟩, ty, pos, aft, none⟩ e o r (fun v' o2 => ∃ h', v' = .int .i64 ((min ys.length (xs.length - i) : Nat) : Int) ∧ OArr v enc sz T h' (splice xs ys i) ∧ o2 = h' :: o1) := fun a w he hs => by
  subst hd
  have hs1 := hs.perm tk.pf
  have hsub2 : sub h2 w := m.pf.elim (hs.so _) (hs.sr _)
  have hx' := ev_rel he hx
  have hy' := ev_rel he hy
  obtain ⟨henc2, hm2, a2, c2, hv2, hle2, hnn2, hc2⟩ := s2.pf
  have hexec : ∀ w', (Builtin.copy_ #[t0, t1] ty #[tailv v sz i, v2]).run P w = .ok (.int .i64 ((min ys.length (xs.length - i) : Nat) : Int)) w' →
      (execOp (evA a) (⟨d, .call ⟨.builtin .copy, #[x, y], #[t0, t1]⟩, ty, pos, aft, none⟩ : Oper)).run P w = .ok (.value (.int .i64 ((min ys.length (xs.length - i) : Nat) : Int))) w' := by
    intro w' hw'
    simp only [execOp, resolve, List.map_toArray, List.map_cons, List.map_nil, hx', hy']
    exact run_val hw'
  obtain ⟨henc, hm, ⟨rfl, rfl, rfl⟩ | ⟨b, c, cs, rfl, rfl, hle, hlen, ht⟩⟩ := s.pf
  · unfold Does
    rw [if_pos (by simp [Region.wanted]), hexec w (by
      have hi0 : i = 0 := by simpa using hi
      subst hi0
      have := run_copy (t0 := t0) (t1 := t1) (ty := ty) (el := el) (s2 := s2) (w := w) (w' := w) (P := P) hsub2 (ad := none) (m := 0) (c := 0) rfl
      simpa [tailv] using this)]
    refine ⟨emp :: o1, ⟨emp, rfl, ?_, rfl⟩, hs1⟩
    simp [splice]
    exact s
  · have hn' : min ys.length (xs.length - i) ≤ xs.length - i := Nat.min_le_right _ _
    have hny : min ys.length (xs.length - i) ≤ ys.length := Nat.min_le_left _ _
    generalize hne : min ys.length (xs.length - i) = n' at *
    have hZ : ((ys.take n').flatMap enc).length = n' * sz := by rw [flat_len henc, List.length_take, Nat.min_eq_left hny]
    have hmul1 : i * sz + n' * sz ≤ xs.length * sz := by rw [← Nat.add_mul]; exact Nat.mul_le_mul_right _ (by omega)
    have hmul2 : xs.length * sz ≤ c * sz := Nat.mul_le_mul_right _ hle
    have hh : w.heap[b]? = some (.cells cs.toArray T (0, 0)) := hs1.so _ List.mem_cons_self b _ (sing_self _ _)
    have hones : ∀ v ∈ (ys.take n').flatMap enc, one v = true := fun v hv => by
      obtain ⟨y, hy1, hy2⟩ := List.mem_flatMap.1 hv
      exact hm2.2 y (List.mem_of_mem_take hy1) v hy2
    obtain ⟨w', h1, h2, h3, h4⟩ := run_storeCells (P := P) (b := b) (k := i * sz) (T := T) ((ys.take n').flatMap enc) 0 w cs hones hh (by omega)
    have hst : ((match (if c = i then some (⟨b, 0, none⟩ : Addr) else (some (⟨b, 0, none⟩ : Addr)).map (·.add (i * sz))) with | some a => storeCells a ((ys.take n').flatMap enc) 0 | none => pure () : Sem Unit)).run P w = .ok () w' := by
      by_cases hci : c = i
      · rw [if_pos hci]
        have hn0 : n' = 0 := by omega
        subst hn0
        simp only [List.take_zero, List.flatMap_nil] at h1 ⊢
        exact h1
      · rw [if_neg hci]
        simp only [Option.map_some, add_none, Nat.zero_add]
        exact h1
    unfold Does
    rw [if_pos (by simp [Region.wanted]), hexec w' (by
      have := run_copy (t0 := t0) (t1 := t1) (ty := ty) (el := el) (s2 := s2) (w := w) (w' := w') (P := P) hsub2 (ad := (if c = i then some (⟨b, 0, none⟩ : Addr) else (some (⟨b, 0, none⟩ : Addr)).map (·.add (i * sz)))) (m := xs.length - i) (c := c - i) (by rw [hne]; exact hst)
      rw [hne] at this
      exact this)]
    simp only [Nat.add_zero, hZ] at h2
    refine ⟨blk b (cs.take (i * sz) ++ (ys.take n').flatMap enc ++ cs.drop (i * sz + n' * sz)) T :: o1, ⟨_, rfl, ?_, rfl⟩, Sep.swap hs1 ?_ ?_ ?_ rfl h4⟩
    · have hlen' : (splice xs ys i).length = xs.length := by
        unfold splice; rw [hne]; simp only [List.length_append, List.length_take, List.length_drop]; omega
      refine ⟨henc, ⟨by rw [hlen']; exact hm.1, fun y hy cc hcc => ?_⟩, .inr ⟨b, c, _, by rw [hlen'], rfl, by rw [hlen']; exact hle, ?_, ?_⟩⟩
      · unfold splice at hy
        rcases List.mem_append.1 hy with hy | hy
        · rcases List.mem_append.1 hy with hy | hy
          · exact hm.2 y (List.mem_of_mem_take hy) cc hcc
          · exact hm2.2 y (List.mem_of_mem_take hy) cc hcc
        · exact hm.2 y (List.mem_of_mem_drop hy) cc hcc
      · simp only [List.length_append, List.length_take, List.length_drop, hZ]; omega
      · rw [hlen']
        unfold splice
        rw [hne, List.flatMap_append, List.flatMap_append, flat_take henc xs, flat_drop henc xs, ← ht, Nat.add_mul]
        rw [List.take_append, List.take_append]
        simp only [List.length_append, List.length_take, hZ]
        rw [List.take_of_length_le (l := cs.take (i * sz)) (by rw [List.length_take]; omega), List.take_of_length_le (l := (ys.take n').flatMap enc) (by rw [hZ]; omega)]
        congr 1
        · congr 1
          rw [List.take_take, Nat.min_eq_left (by omega)]
        · rw [List.drop_take]
          congr 1
          omega
    · exact fun x hx => none_blk (blk_none hx)
    · intro x ob hb
      obtain ⟨rfl, rfl⟩ := sing_some hb
      exact h2
    · exact fun x hx => h3 x (blk_none hx)
theorem Stp.copy {t0 t1 el T : TypeId} [u : Und P t0 (.slice el)] [z : TySize P el sz] {x y : Operand} {vd v2 : Value} {h2 : PHeap} {ys : List α} {i : Nat} {o1 : List PHeap} (hx : ev e x = some vd) (hd : vd = tailv v sz i) (hy : ev e y = some v2)
    [s : OArr v enc sz T h xs] [tk : Take h o o1] [s2 : Arr v2 enc sz h2 ys] [m : InM h2 o r] (hi : i ≤ xs.length) :
    Stp P ops ⟨d, .call ⟨.builtin .copy, #[x, y], #[t0, t1]⟩, ty, pos, aft, none⟩ e o r (fun v' o2 => ∃ h', v' = .int .i64 ((min ys.length (xs.length - i) : Nat) : Int) ∧ OArr v enc sz T h' (splice xs ys i) ∧ o2 = h' :: o1) := fun D a w he hs =>
  (Stp0.copy (tk := tk.more D) (m := m.more D) hx hd hy hi a w he hs).mono fun v w' ⟨o2, ⟨h', h1, h2, h3⟩, hs'⟩ => ⟨o2, ⟨h' :: o1, ⟨h', h1, h2, rfl⟩, by rw [h3]; exact List.Perm.swap _ _ _⟩, hs'⟩
end
section
variable {c : Cx} {ops : Array Oper} {rest : List Oper} {k : List Item} {e : Env} {o r : List PHeap} {d : Nat} {ty : TypeId} {pos : String} {aft : Array Edge}
variable {α : Type} {enc : α → List Value} {sz : Nat} {h : PHeap} {xs : List α} {v : Value}
theorem XO.copy {t0 t1 el T : TypeId} [u : Und c.P t0 (.slice el)] [z : TySize c.P el sz] {x y : Operand} {vd v2 : Value} {h2 : PHeap} {ys : List α} {i : Nat} {o1 : List PHeap} (hx : ev e x = some vd) (hd : vd = tailv v sz i) (hy : ev e y = some v2)
    [s : OArr v enc sz T h xs] [tk : Take h o o1] [s2 : Arr v2 enc sz h2 ys] [m : InM h2 o (c.B :: r)] (hi : i ≤ xs.length)
    (hn : ∀ h', OArr v enc sz T h' (splice xs ys i) → XO c ops rest k ((d, some (.int .i64 ((min ys.length (xs.length - i) : Nat) : Int))) :: e) (h' :: o1) r) :
    XO c ops (⟨some d, .call ⟨.builtin .copy, #[x, y], #[t0, t1]⟩, ty, pos, aft, none⟩ :: rest) k e o r :=
  XO.s (Stp.copy hx hd hy hi) fun v' o2 ⟨h', h1, h2, h3⟩ => by subst h1 h3; exact hn h' h2
variable {fl : List Nat} {f : List PHeap} {i0 : Nat} {bb : Bool} {tt uu : Plan}
theorem XT.copy {t0 t1 el T : TypeId} [u : Und c.P t0 (.slice el)] [z : TySize c.P el sz] {x y : Operand} {vd v2 : Value} {h2 : PHeap} {ys : List α} {i : Nat} {o1 : List PHeap}
    (hi0 : ops[i0]? = some ⟨some d, .call ⟨.builtin .copy, #[x, y], #[t0, t1]⟩, ty, pos, aft, none⟩) (hok : okOper c.N ⟨some d, .call ⟨.builtin .copy, #[x, y], #[t0, t1]⟩, ty, pos, aft, none⟩ = true)
    (hx : ev e x = some vd) (hd : vd = tailv v sz i) (hy : ev e y = some v2)
    [s : OArr v enc sz T h xs] [tk : Take h o o1] [s2 : Arr v2 enc sz h2 ys] [m : InM h2 o (c.B :: r)] (hi : i ≤ xs.length)
    (hn : ∀ h', OArr v enc sz T h' (splice xs ys i) → Keeps bb f (h' :: o1) ∧ XT c ops fl f k r tt ((d, some (.int .i64 ((min ys.length (xs.length - i) : Nat) : Int))) :: e) (h' :: o1)) (hu : XT c ops fl f k r uu e o) :
    XT c ops fl f k r (.br i0 bb tt uu) e o :=
  XT.s hi0 hok (Stp.copy hx hd hy hi) (fun v' o2 ⟨h', h1, h2, h3⟩ => by subst h1 h3; exact hn h' h2) hu
end
def cutv (v : Value) (sz i j : Nat) : Value := match v with
  | .slice ad n c => .slice (if c = i then ad else ad.map (·.add (i * sz))) (j - i) (c - i)
  | v => v
section
variable {P : Program} {ops : Array Oper} {e : Env} {o r : List PHeap} {d : Option Tmp} {ty : TypeId} {pos : String} {aft : Array Edge}
variable {α : Type} {enc : α → List Value} {sz : Nat} {h : PHeap} {xs : List α} {v : Value}
theorem Arr.cut (s : Arr v enc sz h xs) {i j : Nat} (hij : i ≤ j) (hj : j ≤ xs.length) : Arr (cutv v sz i j) enc sz h ((xs.drop i).take (j - i)) := ⟨by
  obtain ⟨henc, hm, ad, c, rfl, hle, hnn, hc⟩ := s.pf
  have hl : ((xs.drop i).take (j - i)).length = j - i := by simp; omega
  refine ⟨henc, ⟨by omega, fun y hy cc hcc => hm.2 y (List.mem_of_mem_drop (List.mem_of_mem_take hy)) cc hcc⟩, (if c = i then ad else ad.map (·.add (i * sz))), c - i, by rw [hl]; rfl, by omega, ?_, fun hp => ?_⟩
  · intro hnone
    split at hnone
    · rw [hnn hnone]; omega
    · cases ad with
      | none => rw [hnn rfl]; omega
      | some a => simp at hnone
  · obtain ⟨b, k, cs, T, fr, rfl, hb, hcs⟩ := hc (by omega)
    refine ⟨b, k + i * sz, cs, T, fr, ?_, hb, fun m n hm' hn => ?_⟩
    · rw [if_neg (by omega)]
      simp [add_none]
    · have := hcs (i + m) n (by omega) hn
      rw [Nat.add_mul, ← Nat.add_assoc] at this
      rw [this]
      congr 1
      rw [List.getElem?_take, if_pos (by omega), List.getElem?_drop]⟩
theorem Q.cut {t el : TypeId} [u : Und P t (.slice el)] [z : TySize P el sz] {x : Operand} {lo hi : Option Operand} {i j : Nat} (hx : ev e x = some v) [s : Arr v enc sz h xs] (hlo : Bd e 0 lo i) (hhi : Bd e xs.length hi j) (hij : i ≤ j) (hj : j ≤ xs.length) :
    Quiet P ops ⟨d, .slice t x lo hi none, ty, pos, aft, none⟩ e o r (cutv v sz i j) := .mk fun a w he _ => by
  obtain ⟨henc, hm, ad, c, rfl, hle, hnn, hc⟩ := s.pf
  have hrun : (Instr.sliceAt t (.slice ad xs.length c) (lo.map (evA a)) (hi.map (evA a)) none).run P w =
      .ok (.slice (if c = i then ad else ad.map (·.add (i * sz))) (j - i) (c - i)) w := by
    unfold Instr.sliceAt
    rw [bind_ok (u.pf w)]
    simp only
    unfold Instr.slice
    rw [bind_ok (u.pf w)]
    simp only
    have hb : (Instr.sliceBounds true xs.length c (lo.map (evA a)) (hi.map (evA a)) none).run P w = .ok (i, j, c) w := by
      unfold Instr.sliceBounds
      simp only [pure_bind]
      rcases Bd.run (P := P) he hhi c .sliceAcap (by omega) w with ⟨h1, h2⟩ | ⟨v1, h1, h2⟩
      · rw [h1, h2]
        simp only [pure_bind]
        rcases Bd.run (P := P) he hlo xs.length .sliceB (by omega) w with ⟨h3, h4⟩ | ⟨v3, h3, h4⟩
        · rw [h3, h4]; rfl
        · rw [h3]
          simp only [Option.isSome_none, Bool.false_eq_true, if_false]
          rw [bind_ok h4]; rfl
      · rw [h1]
        simp only [if_true]
        rw [bind_ok h2]
        rcases Bd.run (P := P) he hlo j .sliceB hij w with ⟨h3, h4⟩ | ⟨v3, h3, h4⟩
        · rw [h3, h4]; rfl
        · rw [h3]
          simp only [Option.isSome_none, Bool.false_eq_true, if_false]
          rw [bind_ok h4]; rfl
    rw [bind_ok hb]
    simp only
    rw [bind_ok (z.pf w)]
    rfl
  simp only [execOp, ev_rel he hx, Option.map_none]
  exact run_val hrun
end
end Go.X

/- Repeated lists. No condition. -/
set_option linter.unusedVariables false
namespace Go.X
theorem repeat_first {α : Type} (x z : α) (n : Nat) : splice (List.replicate n z) [x] 0 = List.replicate (min 1 n) x ++ List.replicate (n - min 1 n) z := by
  unfold splice
  cases n with
  | zero => simp
  | succ n => simp [List.replicate_succ, show min 1 (n + 1) = 1 by omega]
theorem repeat_step {α : Type} (x z : α) {m n : Nat} (h : m ≤ n) :
    splice (List.replicate m x ++ List.replicate (n - m) z) (((List.replicate m x ++ List.replicate (n - m) z).drop 0).take (m - 0)) m =
      List.replicate (m + min m (n - m)) x ++ List.replicate (n - (m + min m (n - m))) z := by
  unfold splice
  have e1 : (List.replicate m x ++ List.replicate (n - m) z).take m = List.replicate m x := by
    rw [List.take_append, List.length_replicate, Nat.sub_self, List.take_zero, List.append_nil, List.take_of_length_le (by simp)]
  have e2 : (List.replicate m x ++ List.replicate (n - m) z).length = n := by simp; omega
  rw [List.drop_zero, Nat.sub_zero, e1, e2, List.length_replicate, List.take_replicate, Nat.min_eq_left (Nat.min_le_left _ _), List.drop_append, List.length_replicate,
    List.drop_of_length_le (l := List.replicate m x) (by simp), List.nil_append, List.drop_replicate, List.replicate_append_replicate]
  congr 2
  omega
end Go.X

/- Operations under a guard that is known to hold. No condition. -/
set_option linter.unusedSimpArgs false
set_option linter.unusedVariables false
namespace Go.X
section
variable {P : Program} {ops : Array Oper} {e : Env} {o r : List PHeap} {d : Option Tmp} {ty : TypeId} {pos : String} {aft : Array Edge}
theorem Stp.want {op : Op} {j gt : Nat} {want b : Bool} {Ψ : Value → List PHeap → Prop} (hj : (ops[j]?).bind (·.dst) = some gt) (hg : find e gt = some (.bool b)) (hb : b = want)
    (s : Stp P ops ⟨d, op, ty, pos, aft, none⟩ e o r Ψ) : Stp P ops ⟨d, op, ty, pos, aft, some (j, want)⟩ e o r Ψ := fun D a w he hs => by
  have h := s D a w he hs
  have hw := wanted_guard (d := d) (ty := ty) (pos := pos) (aft := aft) (want := want) (op := op) hj (he gt _ hg)
  have hx : execOp (evA a) (⟨d, op, ty, pos, aft, some (j, want)⟩ : Oper) = execOp (evA a) (⟨d, op, ty, pos, aft, none⟩ : Oper) := rfl
  unfold Does at h ⊢
  rw [hw, hx, if_pos (by simp [hb])]
  rwa [if_pos (by simp [Region.wanted])] at h
end
section
variable {c : Cx} {ops : Array Oper} {rest : List Oper} {k : List Item} {e : Env} {o r : List PHeap} {d : Nat} {ty : TypeId} {pos : String} {aft : Array Edge}
variable {α : Type} {enc : α → List Value} {sz : Nat} {h : PHeap} {xs : List α} {v : Value}
theorem XO.litG {t el : TypeId} [u : Und c.P t (.slice el)] [z : TySize c.P el sz] {zs : List Value} [zz : Zero c.P el zs] {n : Nat} {l : List (Nat × Operand)} {j gt : Nat} {want b : Bool} (zl cs : List Value) (xs : List α) (enc : α → List Value)
    (hj : (ops[j]?).bind (·.dst) = some gt) (hg : find e gt = some (.bool b)) (hb : b = want)
    (hzs : zs.length = sz) (hsz : Nat.blt 0 sz = true) (hn : Nat.ble (n * sz) 16777216 = true) (hzl : (List.replicate n zs).flatten = zl) (hf : Fill e (fun i => some (i * sz, sz)) l zl cs)
    (henc : ∀ x, (enc x).length = sz) (hcs : xs.flatMap enc = cs) (hxn : xs.length = n) (ho : Ones cs) (hle : Nat.ble n 16777216 = true)
    (hnx : ∀ v' h', OArr v' enc sz el h' xs → XO c ops rest k ((d, some v') :: e) (h' :: o) r) :
    XO c ops (⟨some d, .buildSlice t n l.toArray, ty, pos, aft, some (j, want)⟩ :: rest) k e o r :=
  XO.s (Stp.want hj hg hb ((Makes.lit cs hzs hsz hn (by rw [hzl]; exact hf)).stp _ _)) fun _ _ ⟨b, hv, ho'⟩ => by subst hv ho'; exact hnx _ _ (OArr.lit xs enc henc hcs hxn ho hle)
end
end Go.X

/- From the reading of arguments to slices that are read; what a call leaves as it was. No condition. -/
set_option linter.unusedSimpArgs false
set_option linter.unusedVariables false
namespace Go.X
open Go.ChangeShapes Go.WideShapes Go.Deep
def heapOf (w : World) : PHeap := ⟨fun b => w.heap[b]?, some (mt w)⟩
theorem heap_sep (w : World) : Sep [] [heapOf w] w where
  pw := List.Pairwise.nil
  dr := fun h hh => by cases hh
  so := fun h hh => by cases hh
  sr := fun g hg b ob hb => by
    simp only [List.mem_singleton] at hg; subst hg; exact hb
  no := fun h hh => by cases hh
  sm := fun g hg m hm => by
    simp only [List.mem_singleton] at hg; subst hg; exact Option.some.inj hm
structure Stays (W w' : World) : Prop where
  os : w'.os = W.os
  output : w'.output = W.output
  block : ∀ k, k < W.heap.size → w'.heap[k]? = W.heap[k]?
theorem stays_of {o : List PHeap} {W w' : World} (s : Sep o [heapOf W] w') : Stays W w' := by
  have h1 := s.sm _ List.mem_cons_self _ rfl
  simp only [mt, Prod.mk.injEq] at h1
  refine ⟨h1.1, h1.2, fun k hk => ?_⟩
  have h2 : W.heap[k]? = some (W.heap[k]'hk) := Array.getElem?_eq_getElem hk
  rw [h2]
  exact s.sr _ List.mem_cons_self k _ h2
theorem Stays.same {W w' : World} (h : Stays W w') {p : MemPlace} (hp : p.block < W.heap.size) : W.sameAt w' p := by
  cases p with
  | cell b o => exact World.cell?_of_block (w := W) (h.block b hp)
  | map b => exact h.block b hp
theorem Stays.frame {W w' : World} (h : Stays W w') (may : MemPlace → Prop) : W.keptBut w' may := by
  refine ⟨h.os, h.output, fun i hi => ?_⟩
  rw [h.block i hi]
  split <;> simp_all
theorem Stays.trod {H : Type} {enc : TypeId × Value → H} {P : Program} {t : TypeId} (hl : laidOutB P = true) (hr : P.readableRec t = true) (hrow : t < P.types.size) {W W' : World} {v : Value} {d : DataW H} {ps : List MemPlace}
    (h : DataW.Trod enc P W 0 (fun _ => true) true t v d ps) (hb : Stays W W') (hlt : ∀ x ∈ ps, x.block < W.heap.size) :
    DataW.Trod enc P W' 0 (fun b => decide (b < W.heap.size)) true t v d ps :=
  WideElems.Trod_stays hl hr hrow h (fun x hx => hb.same (hlt x hx)) (fun x hx => by simpa using hlt x hx)
theorem Stays.refl (W : World) : Stays W W := ⟨rfl, rfl, fun _ _ => rfl⟩
theorem calls_of_spec {P : Program} {f : FuncId} {args : Array Value} {hr : List PHeap} {W : World} {R : Value → List PHeap → Prop} (h : Spec P f args [] hr R) (hh : ∀ h ∈ hr, h = heapOf W) :
    Calls P f args W fun e w' => ∃ v hs, e = .returned v ∧ R v hs ∧ Stays W w' :=
  (h [] [heapOf W] W (heap_sep W) (fun x hx => .inr (by rw [hh x hx]; exact List.mem_cons_self))).mono fun e w' ⟨v, hs, he, hR, hS⟩ => ⟨v, hs, he, hR, stays_of (o := hs ++ []) hS⟩

theorem cell_heap {W : World} {a : Addr} {v : Value} (h : W.cell? a = some v) : ∃ cs T fr, a.spot = none ∧ W.heap[a.block]? = some (.cells cs T fr) ∧ cs[a.off]? = some v := by
  have hs := World.cell?_spot h
  unfold World.cell? at h
  split at h
  · rename_i c T fr hb
    rw [if_neg (by simp [hs])] at h
    exact ⟨c, T, fr, hs, hb, h⟩
  · cases h
theorem arr_one {α : Type} {W : World} {enc : α → List Value} (henc : ∀ x, ∃ u, enc x = [u] ∧ one u = true) {a : Addr} {len cap : Nat} {xs : List α} (hlen : xs.length = len) (hc : len ≤ cap) (h47 : len ≤ 140737488355328)
    (hcell : ∀ i (hi : i < xs.length), ∀ u, enc xs[i] = [u] → W.cell? (a.add i) = some u) : Arr (.slice (some a) len cap) enc 1 (heapOf W) xs := by
  subst hlen
  refine ⟨fun x => by obtain ⟨u, hu, _⟩ := henc x; rw [hu]; rfl, ⟨h47, fun x _ c hc => by obtain ⟨u, hu, ho⟩ := henc x; rw [hu] at hc; simp only [List.mem_singleton] at hc; subst hc; exact ho⟩, some a, cap, rfl, hc, (fun h => by cases h), fun hp => ?_⟩
  obtain ⟨u0, hu0, _⟩ := henc (xs[0]'hp)
  have h0 := hcell 0 hp u0 hu0
  obtain ⟨b, k, sp⟩ := a
  obtain ⟨cs, T, fr, hsp, hb, _⟩ := cell_heap h0
  have hsp' : sp = none := by simpa [Addr.add] using hsp
  subst hsp'
  have hb' : W.heap[b]? = some (.cells cs T fr) := by simpa [Addr.add] using hb
  refine ⟨b, k, cs, T, fr, rfl, hb', fun i j hi hj => ?_⟩
  obtain ⟨u, hu, _⟩ := henc (xs[i]'hi)
  have hi' := hcell i hi u hu
  rw [add_none] at hi'
  obtain ⟨cs2, T2, fr2, _, hb2, hc2⟩ := cell_heap hi'
  have hb2' : W.heap[b]? = some (.cells cs2 T2 fr2) := hb2
  rw [hb'] at hb2'
  simp only [Option.some.injEq, Obj.cells.injEq] at hb2'
  obtain ⟨rfl, rfl, rfl⟩ := hb2'
  have hj0 : j = 0 := by omega
  subst hj0
  rw [List.getElem?_eq_getElem hi, Option.bind_some, hu]
  simpa using hc2
section
variable {H : Type} {enc : TypeId × Value → H} {P : Program} {w : World} {held : Bool}
theorem arr_ints {t e : TypeId} {fuel : Nat} {cs : List Value} {x : DataW H × List MemPlace} (ht : P.underlying t = some (.slice e)) (he : P.underlying e = some (.int .i64)) (hc : P.cellsOf e = 1)
    (h : DataW.trod enc P w 0 (fun _ => true) held fuel t cs = some x) (hw : ∀ elems spare, x.1 = .slice elems spare → elems.length + spare.length ≤ 140737488355328) : ∃ v xs, cs = [v] ∧ Arr v encI 1 (heapOf w) xs := by
  rcases open_ints ht he hc h with ⟨rfl, _⟩ | ⟨a, len, cap, zs, rfl, _, hl, hm, hz, hx, hcell, hwz⟩
  · exact ⟨_, [], rfl, Arr.nil (fun _ => rfl)⟩
  · have hz' : zs.length = cap := by simpa using hz
    have hb : len ≤ 140737488355328 := by
      have := hw _ _ (by rw [hx])
      simp [lits] at this
      omega
    refine ⟨_, zs.take len, rfl, arr_one (fun x => ⟨_, rfl, rfl⟩) (by simp; omega) hl hb fun i hi u hu => ?_⟩
    have hi2 : i < zs.length := by simp at hi; omega
    rw [hcell i hi2]
    simp only [encI, List.cons.injEq, and_true] at hu
    rw [← hu]
    simp [List.getD_eq_getElem?_getD, hi2]
theorem arr_bools {t e : TypeId} {fuel : Nat} {cs : List Value} {x : DataW H × List MemPlace} (ht : P.underlying t = some (.slice e)) (he : P.underlying e = some .bool) (hc : P.cellsOf e = 1)
    (h : DataW.trod enc P w 0 (fun _ => true) held fuel t cs = some x) (hw : ∀ elems spare, x.1 = .slice elems spare → elems.length + spare.length ≤ 140737488355328) : ∃ v xs, cs = [v] ∧ Arr v encB 1 (heapOf w) xs := by
  rcases open_bools ht he hc h with ⟨rfl, _⟩ | ⟨a, len, cap, B, rfl, _, hl, hm, hx, hcell⟩
  · exact ⟨_, [], rfl, Arr.nil (fun _ => rfl)⟩
  · have hb : len ≤ 140737488355328 := by
      rcases open_slice ht h with ⟨h1, _⟩ | ⟨a', len', cap', m, n, D, Pl, h1, _, hl', _, hmm, hx', _⟩
      · cases h1
      · simp only [List.cons.injEq, Value.slice.injEq, Option.some.injEq, and_true] at h1
        obtain ⟨rfl, rfl, rfl⟩ := h1
        have := hw _ _ (by rw [hx'])
        simp at this
        omega
    refine ⟨_, (List.range len).map B, rfl, arr_one (fun x => ⟨_, rfl, rfl⟩) (by simp) hl hb fun i hi u hu => ?_⟩
    have hi2 : i < len := by simpa using hi
    rw [hcell i (by omega)]
    simp only [encB, List.cons.injEq, and_true] at hu
    rw [← hu]
    simp
end
end Go.X

/- Arguments of rows opened: small numbers, slices of bytes. No condition. -/
set_option linter.unusedSimpArgs false
set_option linter.unusedVariables false
namespace Go.X
open Go.ChangeShapes Go.WideShapes Go.Deep
section
variable {H : Type} {enc : TypeId × Value → H} {P : Program} {W : World} {base : Nat} {v : Value} {d : DataW H} {ps : List MemPlace}
theorem open_u8 {t : TypeId} (ht : P.underlying t = some (.int .u8)) (hv : Value.okWide P W .any base t v) (h : DataW.Trod enc P W 0 (fun _ => true) true t v d ps) :
    ∃ n : Nat, n < 256 ∧ v = .int .u8 (n : Nat) ∧ d = .lit (.int .u8 (n : Nat)) ∧ ps = [] ∧ (Lit.int .u8 (n : Nat)).wf = true := by
  obtain ⟨m, rfl, rfl, rfl, hw⟩ := open_int ht hv h
  have := bounds_u8 hw
  obtain ⟨n, rfl⟩ := Int.eq_ofNat_of_zero_le this.1
  exact ⟨n, by omega, rfl, rfl, rfl, hw⟩
theorem open_u16 {t : TypeId} (ht : P.underlying t = some (.int .u16)) (hv : Value.okWide P W .any base t v) (h : DataW.Trod enc P W 0 (fun _ => true) true t v d ps) :
    ∃ n : Nat, n < 65536 ∧ v = .int .u16 (n : Nat) ∧ d = .lit (.int .u16 (n : Nat)) ∧ ps = [] ∧ (Lit.int .u16 (n : Nat)).wf = true := by
  obtain ⟨m, rfl, rfl, rfl, hw⟩ := open_int ht hv h
  have := bounds_u16 hw
  obtain ⟨n, rfl⟩ := Int.eq_ofNat_of_zero_le this.1
  exact ⟨n, by omega, rfl, rfl, rfl, hw⟩
theorem bounds_i64 {n : Int} (h : (Lit.int .i64 n).wf = true) : in64 n := by
  simp [Lit.wf, IntKind.min, IntKind.max, IntKind.signed, IntKind.bits] at h
  exact ⟨by omega, by omega⟩
theorem open_i64 {t : TypeId} (ht : P.underlying t = some (.int .i64)) (hv : Value.okWide P W .any base t v) (h : DataW.Trod enc P W 0 (fun _ => true) true t v d ps) :
    ∃ n : Int, in64 n ∧ v = .int .i64 n ∧ d = .lit (.int .i64 n) ∧ ps = [] ∧ (Lit.int .i64 n).wf = true := by
  obtain ⟨m, rfl, rfl, rfl, hw⟩ := open_int ht hv h
  exact ⟨m, bounds_i64 hw, rfl, rfl, rfl, hw⟩
theorem arr_u8s {held : Bool} {t e : TypeId} {fuel : Nat} {cs : List Value} {x : DataW H × List MemPlace} (ht : P.underlying t = some (.slice e)) (he : P.underlying e = some (.int .u8)) (hc : P.cellsOf e = 1)
    (h : DataW.trod enc P W 0 (fun _ => true) held fuel t cs = some x) (hw : ∀ elems spare, x.1 = .slice elems spare → elems.length + spare.length ≤ 140737488355328) : ∃ v xs, cs = [v] ∧ Arr v encU8 1 (heapOf W) xs := by
  rcases open_ints ht he hc h with ⟨rfl, _⟩ | ⟨a, len, cap, zs, rfl, _, hl, hm, hz, hx, hcell, hwz⟩
  · exact ⟨_, [], rfl, Arr.nil (fun _ => rfl)⟩
  · have hz' : zs.length = cap := by simpa using hz
    have hb : len ≤ 140737488355328 := by
      have := hw _ _ (by rw [hx])
      simp [lits] at this
      omega
    refine ⟨_, (zs.take len).map fun n => UInt8.ofNat n.toNat, rfl, arr_one (fun x => ⟨_, rfl, rfl⟩) (by simp; omega) hl hb fun i hi u hu => ?_⟩
    have hi2 : i < zs.length := by simp at hi; omega
    rw [hcell i hi2]
    simp only [encU8, List.cons.injEq, and_true] at hu
    rw [← hu]
    have hb := range_u8 hwz i
    have e : zs[i]?.getD 0 = zs[i] := by simp [hi2]
    rw [e] at hb
    simp only [List.getElem_map, List.getElem_take, List.getD_eq_getElem?_getD, e, UInt8.toNat_ofNat']
    congr 2
    omega
theorem slice_weight {t e : TypeId} (ht : P.underlying t = some (.slice e)) (hb : 0 < P.bytesOf e) (hw : ∀ n ∈ d.weights P t, n ≤ reachBytes) : ∀ elems spare, d = .slice elems spare → elems.length + spare.length ≤ 140737488355328 := by
  rintro elems spare rfl
  have h := hw ((elems.length + spare.length) * P.bytesOf e) (by simp [DataW.weights, ht])
  have h1 : (elems.length + spare.length) * 1 ≤ (elems.length + spare.length) * P.bytesOf e := Nat.mul_le_mul_left _ hb
  have h2 : reachBytes = 140737488351232 := rfl
  omega
theorem slice_cells {t e : TypeId} (ht : P.underlying t = some (.slice e)) (hv : Value.okWide P W .any base t v) : v.cells.toList = [v] := by
  obtain ⟨a, len, cap, rfl⟩ := okWide_slice ht hv
  rfl
theorem open_u8s {t e : TypeId} (ht : P.underlying t = some (.slice e)) (he : P.underlying e = some (.int .u8)) (hc : P.cellsOf e = 1) (hb : 0 < P.bytesOf e) (hv : Value.okWide P W .any base t v)
    (h : DataW.Trod enc P W 0 (fun _ => true) true t v d ps) (hw : ∀ n ∈ d.weights P t, n ≤ reachBytes) : ∃ xs : List UInt8, Arr v encU8 1 (heapOf W) xs := by
  obtain ⟨fuel, hf⟩ := h
  rw [slice_cells ht hv] at hf
  obtain ⟨v', xs, hcs, hA⟩ := arr_u8s ht he hc hf (slice_weight ht hb hw)
  simp only [List.cons.injEq, and_true] at hcs
  subst hcs
  exact ⟨xs, hA⟩
theorem open_i64s {t e : TypeId} (ht : P.underlying t = some (.slice e)) (he : P.underlying e = some (.int .i64)) (hc : P.cellsOf e = 1) (hb : 0 < P.bytesOf e) (hv : Value.okWide P W .any base t v)
    (h : DataW.Trod enc P W 0 (fun _ => true) true t v d ps) (hw : ∀ n ∈ d.weights P t, n ≤ reachBytes) : ∃ xs : List Int, Arr v encI 1 (heapOf W) xs := by
  obtain ⟨fuel, hf⟩ := h
  rw [slice_cells ht hv] at hf
  obtain ⟨v', xs, hcs, hA⟩ := arr_ints ht he hc hf (slice_weight ht hb hw)
  simp only [List.cons.injEq, and_true] at hcs
  subst hcs
  exact ⟨xs, hA⟩
end
end Go.X

/- An argument that is a list of lists of bytes, opened. No condition. -/
set_option linter.unusedSimpArgs false
set_option linter.unusedVariables false
namespace Go.X
open Go.ChangeShapes Go.WideShapes Go.Deep
theorem arr_vals {W : World} {a : Addr} {len cap : Nat} {xs : List Value} (hone : ∀ x ∈ xs, one x = true) (hlen : xs.length = len) (hc : len ≤ cap) (h47 : len ≤ 140737488355328)
    (hcell : ∀ i (hi : i < xs.length), W.cell? (a.add i) = some xs[i]) : Arr (.slice (some a) len cap) encV 1 (heapOf W) xs := by
  subst hlen
  refine ⟨fun x => rfl, ⟨h47, fun x hx c hc => by simp only [encV, List.mem_singleton] at hc; subst hc; exact hone _ hx⟩, some a, cap, rfl, hc, (fun h => by cases h), fun hp => ?_⟩
  have h0 := hcell 0 hp
  obtain ⟨b, k, sp⟩ := a
  obtain ⟨cs, T, fr, hsp, hb, _⟩ := cell_heap h0
  have hsp' : sp = none := by simpa [Addr.add] using hsp
  subst hsp'
  have hb' : W.heap[b]? = some (.cells cs T fr) := by simpa [Addr.add] using hb
  refine ⟨b, k, cs, T, fr, rfl, hb', fun i j hi hj => ?_⟩
  have hi' := hcell i hi
  rw [add_none] at hi'
  obtain ⟨cs2, T2, fr2, _, hb2, hc2⟩ := cell_heap hi'
  have hb2' : W.heap[b]? = some (.cells cs2 T2 fr2) := hb2
  rw [hb'] at hb2'
  simp only [Option.some.injEq, Obj.cells.injEq] at hb2'
  obtain ⟨rfl, rfl, rfl⟩ := hb2'
  have hj0 : j = 0 := by omega
  subst hj0
  rw [List.getElem?_eq_getElem hi, Option.bind_some]
  simpa [encV] using hc2
section
variable {H : Type} {enc : TypeId × Value → H} {P : Program} {W : World} {base : Nat} {v : Value} {d : DataW H} {ps : List MemPlace}
theorem weights_all {e : TypeId} : ∀ {l : List (DataW H)} {d : DataW H}, d ∈ l → ∀ n ∈ d.weights P e, n ∈ DataW.weightsAll P e l
  | x :: l, d, hd, n, hn => by
    rw [DataW.weightsAll, List.mem_append]
    rcases List.mem_cons.1 hd with rfl | hd
    · exact .inl hn
    · exact .inr (weights_all hd n hn)
theorem open_u8ss {t e q : TypeId} (ht : P.underlying t = some (.slice e)) (he : P.underlying e = some (.slice q)) (hq : P.underlying q = some (.int .u8)) (ce : P.cellsOf e = 1) (be : 0 < P.bytesOf e) (cq : P.cellsOf q = 1) (bq : 0 < P.bytesOf q)
    (hv : Value.okWide P W .any base t v) (h : DataW.Trod enc P W 0 (fun _ => true) true t v d ps) (hw : ∀ n ∈ d.weights P t, n ≤ reachBytes) :
    ∃ us : List Value, Arr v encV 1 (heapOf W) us ∧ ∀ u ∈ us, ∃ x, Arr u encU8 1 (heapOf W) x := by
  obtain ⟨fuel, hf⟩ := h
  rw [slice_cells ht hv] at hf
  have hwt := slice_weight ht be hw
  rcases open_slice1 ht ce hf with ⟨h1, h2⟩ | ⟨a, len, cap, m, n, V, D, Pl, h1, _, hl, hm, hmm, hx, hr⟩
  · simp only [List.cons.injEq, and_true] at h1
    subst h1
    exact ⟨[], Arr.nil (fun _ => rfl), fun i hi => by cases hi⟩
  · simp only [List.cons.injEq, and_true] at h1
    subst h1
    simp only [if_true] at hmm
    subst hmm
    simp only [Prod.mk.injEq] at hx
    obtain ⟨rfl, _⟩ := hx
    have hb : len ≤ 140737488355328 := by
      have := hwt _ _ rfl
      simp at this
      omega
    have hrow : ∀ r, r < len → ∃ x, Arr (V r) encU8 1 (heapOf W) x := fun r hr2 => by
      obtain ⟨_, h3⟩ := hr r (by omega)
      obtain ⟨v', xs, hcs, hA⟩ := arr_u8s he hq cq h3 (slice_weight he bq fun n hn => hw n (by
        simp only [DataW.weights, ht]
        refine List.mem_cons_of_mem _ (List.mem_append_left _ (weights_all (d := D r) (List.mem_map.2 ⟨r, List.mem_range.2 hr2, rfl⟩) n hn))))
      simp only [List.cons.injEq, and_true] at hcs
      subst hcs
      exact ⟨xs, hA⟩
    refine ⟨(List.range len).map V, arr_vals (fun x hx => ?_) (by simp) hl hb (fun i hi => ?_), fun i hi => ?_⟩
    · obtain ⟨r, hr2, rfl⟩ := List.mem_map.1 hx
      obtain ⟨x, hA⟩ := hrow r (List.mem_range.1 hr2)
      exact (Arr.one (s := hA)).pf.2
    · simp only [List.length_map, List.length_range] at hi
      simp only [List.getElem_map, List.getElem_range]
      exact (hr i (by omega)).1
    · obtain ⟨r, hr2, rfl⟩ := List.mem_map.1 hi
      exact hrow r (List.mem_range.1 hr2)
end
end Go.X

/- Guards within guards. No condition. -/
set_option linter.unusedSimpArgs false
set_option linter.unusedVariables false
namespace Go.X
theorem bpT {b : Bool} {p : Prop} [t : BoolP b p] (h : b = true) : p := t.pf.1 h
theorem bpF {b : Bool} {p : Prop} [t : BoolP b p] (h : b = false) : ¬ p := fun hp => by rw [t.pf.2 hp] at h; cases h
theorem wanted_val {ops : Array Oper} {d : Option Tmp} {op : Op} {ty : TypeId} {pos : String} {aft : Array Edge} {j : Nat} {want : Bool} {g : Nat} {a : Array Value} {v : Value} (hj : (ops[j]?).bind (·.dst) = some g) (hv : a.getD g undef = v) (hn : v ≠ .bool want) :
    Region.wanted ⟨d, op, ty, pos, aft, some (j, want)⟩ (yielded ops a) = false := by
  have hy : yielded ops a j ≠ some want := by
    unfold yielded
    rw [hj]
    simp only [Option.bind_some]
    rcases Nat.lt_or_ge g a.size with hlt | hge
    · have e1 : a[g]? = some a[g] := Array.getElem?_eq_getElem hlt
      have e2 : a[g] = v := by simpa [hlt] using hv
      rw [e1, e2]
      intro h
      cases v <;> simp_all
    · rw [Array.getElem?_eq_none hge]
      simp
  simp only [Region.wanted]
  simpa using hy
/-- What the value at g tells: φ, or not. -/
def Tells (e : Env) (g : Nat) (want : Bool) (φ : Prop) : Prop := ∃ v, find e g = some v ∧ (φ → v = .bool want) ∧ (¬ φ → v ≠ .bool want)
theorem undef_ne {b : Bool} : undef ≠ .bool b := by simp [undef]
theorem Tells.d1 {e : Env} {g : Nat} {want b : Bool} (h : find e g = some (.bool b)) : Tells e g want (b = want) :=
  ⟨_, h, fun hb => by rw [hb], fun hb hv => hb (by simpa using hv)⟩
theorem Tells.d2 {e : Env} {g : Nat} {want b b1 w1 : Bool} (h : find e g = some (lz b1 w1 (.bool b))) : Tells e g want (b1 = w1 ∧ b = want) :=
  ⟨_, h, fun ⟨h1, h2⟩ => by simp [lz, h1, h2], fun hn hv => by
    unfold lz at hv
    split at hv
    · exact hn ⟨‹_›, by simpa using hv⟩
    · exact undef_ne hv⟩
theorem Tells.d3 {e : Env} {g : Nat} {want b b1 w1 b2 w2 : Bool} (h : find e g = some (lz b1 w1 (lz b2 w2 (.bool b)))) : Tells e g want (b1 = w1 ∧ b2 = w2 ∧ b = want) :=
  ⟨_, h, fun ⟨h1, h2, h3⟩ => by simp [lz, h1, h2, h3], fun hn hv => by
    unfold lz at hv
    split at hv
    · split at hv
      · exact hn ⟨‹_›, ‹_›, by simpa using hv⟩
      · exact undef_ne hv
    · exact undef_ne hv⟩
section
variable {P : Program} {ops : Array Oper} {e : Env} {o r : List PHeap} {d : Option Tmp} {ty : TypeId} {pos : String} {aft : Array Edge}
theorem Tells.no {φ : Prop} {j : Nat} {want : Bool} {g : Nat} {op : Op} {a : Array Value} (hj : (ops[j]?).bind (·.dst) = some g) (t : Tells e g want φ) (he : ERel e a) (hn : ¬ φ) :
    Region.wanted ⟨d, op, ty, pos, aft, some (j, want)⟩ (yielded ops a) = false := by
  obtain ⟨v, h1, _, h3⟩ := t
  exact wanted_val hj (he _ _ h1) (h3 hn)
theorem Tells.yes {φ : Prop} {j : Nat} {want : Bool} {g : Nat} {op : Op} {a : Array Value} (hj : (ops[j]?).bind (·.dst) = some g) (t : Tells e g want φ) (he : ERel e a) (hn : φ) :
    Region.wanted ⟨d, op, ty, pos, aft, some (j, want)⟩ (yielded ops a) = true := by
  obtain ⟨v, h1, h2, _⟩ := t
  have := he _ _ h1
  rw [h2 hn] at this
  rw [wanted_guard hj this]
  simp
theorem Quiet.tells {φ : Prop} {op : Op} {v v' : Value} {j : Nat} {want : Bool} {g : Nat} (hj : (ops[j]?).bind (·.dst) = some g) (t : Tells e g want φ) (h1 : φ → v' = v) (h2 : ¬ φ → v' = undef)
    (h : φ → Quiet P ops ⟨d, op, ty, pos, aft, none⟩ e o r v) : Quiet P ops ⟨d, op, ty, pos, aft, some (j, want)⟩ e o r v' := by
  intro a w he hr
  by_cases hp : φ
  · rcases h hp a w he hr with ⟨_, h3⟩ | ⟨h3, _⟩
    · left
      refine ⟨t.yes hj he hp, ?_⟩
      rw [h1 hp]
      exact h3
    · simp [Region.wanted] at h3
  · exact .inr ⟨t.no hj he hp, h2 hp⟩
theorem Quiet.guard2 {op : Op} {v : Value} {j : Nat} {want b b1 w1 : Bool} {g : Nat} (hj : (ops[j]?).bind (·.dst) = some g) (hg : find e g = some (lz b1 w1 (.bool b)))
    (h : b1 = w1 → b = want → Quiet P ops ⟨d, op, ty, pos, aft, none⟩ e o r v) : Quiet P ops ⟨d, op, ty, pos, aft, some (j, want)⟩ e o r (lz b1 w1 (lz b want v)) :=
  Quiet.tells hj (.d2 hg) (fun ⟨h1, h2⟩ => by simp [lz, h1, h2]) (fun hn => by
    unfold lz
    split
    · split
      · exact absurd ⟨‹_›, ‹_›⟩ hn
      · rfl
    · rfl) (fun ⟨h1, h2⟩ => h h1 h2)
theorem Quiet.guard3 {op : Op} {v : Value} {j : Nat} {want b b1 w1 b2 w2 : Bool} {g : Nat} (hj : (ops[j]?).bind (·.dst) = some g) (hg : find e g = some (lz b1 w1 (lz b2 w2 (.bool b))))
    (h : b1 = w1 → b2 = w2 → b = want → Quiet P ops ⟨d, op, ty, pos, aft, none⟩ e o r v) : Quiet P ops ⟨d, op, ty, pos, aft, some (j, want)⟩ e o r (lz b1 w1 (lz b2 w2 (lz b want v))) :=
  Quiet.tells hj (.d3 hg) (fun ⟨h1, h2, h3⟩ => by simp [lz, h1, h2, h3]) (fun hn => by
    unfold lz
    split
    · split
      · split
        · exact absurd ⟨‹_›, ‹_›, ‹_›⟩ hn
        · rfl
      · rfl
    · rfl) (fun ⟨h1, h2, h3⟩ => h h1 h2 h3)
/-- A call of a function value that only computes, under guards. -/
theorem Stp.vtells {φ : Prop} {x : Operand} {l : List Operand} {tys : Array TypeId} {y : Value} {vs : List Value} {Hr : List PHeap} {u u' : Value} {j : Nat} {want : Bool} {g : Nat}
    (hj : (ops[j]?).bind (·.dst) = some g) (t : Tells e g want φ) (h1 : φ → u' = u) (h2 : ¬ φ → u' = undef) (hx : φ → ev e x = some y) (hl : φ → EvL e l vs) (hS : φ → VSpec P y vs [] Hr (fun v hs => v = u ∧ hs = [])) [al : AllIn Hr o r] :
    Stp P ops ⟨d, .call ⟨.value x, l.toArray, tys⟩, ty, pos, aft, some (j, want)⟩ e o r (fun v o2 => v = u' ∧ o2 = o) := fun D a w he hs => by
  by_cases hp : φ
  · have hw := t.yes (d := d) (ty := ty) (pos := pos) (aft := aft) (op := .call ⟨.value x, l.toArray, tys⟩) hj he hp
    have hx' : (execOp (evA a) (⟨d, .call ⟨.value x, l.toArray, tys⟩, ty, pos, aft, some (j, want)⟩ : Oper)) = callv y vs.toArray := by
      simp only [execOp, resolve, ev_rel he (hx hp), List.map_toArray, (hl hp).rel he, callv]
    have h := hS hp (D :: o) r w hs (al.more D).pf
    unfold Does
    rw [hw, if_pos rfl, hx']
    unfold NDoes at h
    split at h <;> rename_i heq
    · rw [heq]
      refine h.mono ?_
      rintro e' w' ⟨v, rfl, hs', ⟨rfl, rfl⟩, hS'⟩
      exact ⟨v, rfl, D :: o, ⟨o, ⟨(h1 hp).symm, rfl⟩, List.Perm.refl _⟩, hS'⟩
    · rw [heq]
      intro c0 cs
      obtain ⟨v, w', ⟨hs', ⟨rfl, rfl⟩, hS'⟩, st⟩ := h c0 cs
      exact ⟨v, w', ⟨D :: o, ⟨o, ⟨(h1 hp).symm, rfl⟩, List.Perm.refl _⟩, hS'⟩, st⟩
    · exact h.elim
  · unfold Does
    rw [t.no hj he hp]
    exact ⟨D :: o, ⟨o, ⟨(h2 hp).symm, rfl⟩, List.Perm.refl _⟩, hs⟩
end
section
variable {c : Cx} {ops : Array Oper} {rest : List Oper} {k : List Item} {e : Env} {o r : List PHeap} {d : Nat} {ty : TypeId} {pos : String} {aft : Array Edge}
variable {fl : List Nat} {f : List PHeap} {i0 : Nat} {bb : Bool} {tt uu : Plan}
section
variable {x : Operand} {l : List Operand} {tys : Array TypeId} {y : Value} {vs : List Value} {Hr : List PHeap} {u : Value} {j g : Nat} {want b b1 w1 b2 w2 : Bool}
theorem XO.vg1 (hj : (ops[j]?).bind (·.dst) = some g) (hg : find e g = some (.bool b)) (hx : b = want → ev e x = some y) (hl : b = want → EvL e l vs)
    (hS : b = want → VSpec c.P y vs [] Hr (fun v hs => v = u ∧ hs = [])) [al : AllIn Hr o (c.B :: r)] (h : XO c ops rest k ((d, some (lz b want u)) :: e) o r) :
    XO c ops (⟨some d, .call ⟨.value x, l.toArray, tys⟩, ty, pos, aft, some (j, want)⟩ :: rest) k e o r :=
  XO.s (Stp.vtells hj (.d1 hg) (u' := lz b want u) (fun h => by simp [lz, h]) (fun h => by simp [lz, h]) hx hl hS) fun v o2 ⟨h1, h2⟩ => by subst h1 h2; exact h
theorem XO.vg2 (hj : (ops[j]?).bind (·.dst) = some g) (hg : find e g = some (lz b1 w1 (.bool b))) (hx : b1 = w1 → b = want → ev e x = some y) (hl : b1 = w1 → b = want → EvL e l vs)
    (hS : b1 = w1 → b = want → VSpec c.P y vs [] Hr (fun v hs => v = u ∧ hs = [])) [al : AllIn Hr o (c.B :: r)] (h : XO c ops rest k ((d, some (lz b1 w1 (lz b want u))) :: e) o r) :
    XO c ops (⟨some d, .call ⟨.value x, l.toArray, tys⟩, ty, pos, aft, some (j, want)⟩ :: rest) k e o r :=
  XO.s (Stp.vtells hj (.d2 hg) (u' := lz b1 w1 (lz b want u)) (fun h => by simp [lz, h.1, h.2]) (fun h => by
    unfold lz
    split
    · split
      · exact absurd ⟨‹_›, ‹_›⟩ h
      · rfl
    · rfl) (fun h => hx h.1 h.2) (fun h => hl h.1 h.2) (fun h => hS h.1 h.2)) fun v o2 ⟨h1, h2⟩ => by subst h1 h2; exact h
theorem XT.vg1 (hi : ops[i0]? = some ⟨some d, .call ⟨.value x, l.toArray, tys⟩, ty, pos, aft, some (j, want)⟩) (hok : okOper c.N ⟨some d, .call ⟨.value x, l.toArray, tys⟩, ty, pos, aft, some (j, want)⟩ = true)
    (hj : (ops[j]?).bind (·.dst) = some g) (hg : find e g = some (.bool b)) (hx : b = want → ev e x = some y) (hl : b = want → EvL e l vs)
    (hS : b = want → VSpec c.P y vs [] Hr (fun v hs => v = u ∧ hs = [])) [al : AllIn Hr o (c.B :: r)] (h : Keeps bb f o ∧ XT c ops fl f k r tt ((d, some (lz b want u)) :: e) o) (hu : XT c ops fl f k r uu e o) :
    XT c ops fl f k r (.br i0 bb tt uu) e o :=
  XT.s hi hok (Stp.vtells hj (.d1 hg) (u' := lz b want u) (fun h => by simp [lz, h]) (fun h => by simp [lz, h]) hx hl hS) (fun v o2 ⟨h1, h2⟩ => by subst h1 h2; exact h) hu
theorem XT.vg2 (hi : ops[i0]? = some ⟨some d, .call ⟨.value x, l.toArray, tys⟩, ty, pos, aft, some (j, want)⟩) (hok : okOper c.N ⟨some d, .call ⟨.value x, l.toArray, tys⟩, ty, pos, aft, some (j, want)⟩ = true)
    (hj : (ops[j]?).bind (·.dst) = some g) (hg : find e g = some (lz b1 w1 (.bool b))) (hx : b1 = w1 → b = want → ev e x = some y) (hl : b1 = w1 → b = want → EvL e l vs)
    (hS : b1 = w1 → b = want → VSpec c.P y vs [] Hr (fun v hs => v = u ∧ hs = [])) [al : AllIn Hr o (c.B :: r)] (h : Keeps bb f o ∧ XT c ops fl f k r tt ((d, some (lz b1 w1 (lz b want u))) :: e) o) (hu : XT c ops fl f k r uu e o) :
    XT c ops fl f k r (.br i0 bb tt uu) e o :=
  XT.s hi hok (Stp.vtells hj (.d2 hg) (u' := lz b1 w1 (lz b want u)) (fun h => by simp [lz, h.1, h.2]) (fun h => by
    unfold lz
    split
    · split
      · exact absurd ⟨‹_›, ‹_›⟩ h
      · rfl
    · rfl) (fun h => hx h.1 h.2) (fun h => hl h.1 h.2) (fun h => hS h.1 h.2)) (fun v o2 ⟨h1, h2⟩ => by subst h1 h2; exact h) hu
end
end
end Go.X

/- Shifts and bits, whatever they give. No condition. -/
set_option linter.unusedSimpArgs false
set_option linter.unusedVariables false
namespace Go.X
def andI (k : IntKind) (m n : Int) : Int := k.wrap ((BitVec.ofInt k.bits m &&& BitVec.ofInt k.bits n).toNat : Int)
def shrI (k : IntKind) (m n : Int) : Int := m.fdiv (2 ^ min n.toNat k.bits)
section
variable {P : Program} {ops : Array Oper} {e : Env} {o r : List PHeap} {d : Option Tmp} {ty : TypeId} {pos : String} {aft : Array Edge}
theorem Q.shrW {t t2 : TypeId} {x y : Operand} {k k' : IntKind} {m n : Int} (hx : ev e x = some (.int k m)) (hy : ev e y = some (.int k' n)) (h : 0 ≤ n) :
    Quiet P ops ⟨d, .binOp .shr t x y t2, ty, pos, aft, none⟩ e o r (.int k (shrI k m n)) := Q.bin hx hy fun w => by
  have e1 : binOp .shr t (.int k m) (.int k' n) = Op.shift .shr k m k' n := by simp [binOp]
  rw [e1]
  unfold Op.shift
  rw [if_neg (by omega)]
  rfl
theorem Q.andW {t t2 : TypeId} {x y : Operand} {k : IntKind} {m n : Int} (hx : ev e x = some (.int k m)) (hy : ev e y = some (.int k n)) :
    Quiet P ops ⟨d, .binOp .and t x y t2, ty, pos, aft, none⟩ e o r (.int k (andI k m n)) := Q.bin hx hy fun w => by
  have e1 : binOp .and t (.int k m) (.int k n) = Op.intBits .and k m n := by simp [binOp]
  rw [e1]
  rfl
end
end Go.X

/- Calls under a guard that is known to hold. No condition. -/
set_option linter.unusedSimpArgs false
set_option linter.unusedVariables false
namespace Go.X
section
variable {c : Cx} {ops : Array Oper} {rest : List Oper} {k : List Item} {e : Env} {o r : List PHeap} {d : Nat} {ty : TypeId} {pos : String} {aft : Array Edge}
variable {fl : List Nat} {f : List PHeap} {i0 : Nat} {bb : Bool} {tt uu : Plan}
theorem EvL.evs {e : Env} : ∀ {l : List Operand} {vs : List Value}, EvL e l vs → evs e l = some vs
  | [], _, .n => rfl
  | x :: l, _, .c h r => by simp only [X.evs, h, EvL.evs r]
theorem XO.callS {g : FuncId} {x : Operand} {l : List Operand} {tys : Array TypeId} {fst vs cap A : List Value} {Hm Hr : List PHeap} {R : Value → List PHeap → Prop} {o1 : List PHeap} {j gt : Nat} {want b : Bool}
    (hj : (ops[j]?).bind (·.dst) = some gt) (hg : find e gt = some (.bool b)) (hb : b = want)
    (hc : ∀ args w, (callFunc g args).run c.P w = .ok (.enter g args) w) (hx : ev e x = some (.func (.func g) fst.toArray cap.toArray)) (hl : EvL e l vs) (hA : fst ++ vs ++ cap = A)
    (hS : Spec c.P g A.toArray Hm Hr R) [t : Takes Hm o o1] [al : AllIn Hr o1 (c.B :: r)] (h : ∀ v hs, R v hs → XO c ops rest k ((d, some v) :: e) (hs ++ o1) r) :
    XO c ops (⟨some d, .call ⟨.value x, l.toArray, tys⟩, ty, pos, aft, some (j, want)⟩ :: rest) k e o r :=
  XO.s (Stp.want hj hg hb (Stp.call hc hx hl.evs hA hS)) fun v o2 ⟨hs, hR, h2⟩ => by subst h2; exact h v hs hR
theorem XT.callS {g : FuncId} {x : Operand} {l : List Operand} {tys : Array TypeId} {fst vs cap A : List Value} {Hm Hr : List PHeap} {R : Value → List PHeap → Prop} {o1 : List PHeap} {j gt : Nat} {want b : Bool}
    (hi : ops[i0]? = some ⟨some d, .call ⟨.value x, l.toArray, tys⟩, ty, pos, aft, some (j, want)⟩) (hok : okOper c.N ⟨some d, .call ⟨.value x, l.toArray, tys⟩, ty, pos, aft, some (j, want)⟩ = true)
    (hj : (ops[j]?).bind (·.dst) = some gt) (hg : find e gt = some (.bool b)) (hb : b = want)
    (hc : ∀ args w, (callFunc g args).run c.P w = .ok (.enter g args) w) (hx : ev e x = some (.func (.func g) fst.toArray cap.toArray)) (hl : EvL e l vs) (hA : fst ++ vs ++ cap = A)
    (hS : Spec c.P g A.toArray Hm Hr R) [tk : Takes Hm o o1] [al : AllIn Hr o1 (c.B :: r)] (h : ∀ v hs, R v hs → Keeps bb f (hs ++ o1) ∧ XT c ops fl f k r tt ((d, some v) :: e) (hs ++ o1)) (hu : XT c ops fl f k r uu e o) :
    XT c ops fl f k r (.br i0 bb tt uu) e o :=
  XT.s hi hok (Stp.want hj hg hb (Stp.call hc hx hl.evs hA hS)) (fun v o2 ⟨hs, hR, h2⟩ => by subst h2; exact h v hs hR) hu
end
end Go.X

/- The place of a field of an element. No condition. -/
namespace Go.X
variable {P : Program} {ops : Array Oper} {e : Env} {o r : List PHeap} {d : Option Tmp} {ty : TypeId} {pos : String} {aft : Array Edge}
variable {α : Type} {enc : α → List Value} {sz : Nat} {h : PHeap} {xs : List α} {v : Value}
theorem Q.fieldQ {s' f off : Nat} [fl : Fld P s' f off] {x : Operand} {i k : Nat} (hx : ev e x = some (pat v sz i k)) [s : Arr v enc sz h xs] (hi : i < xs.length) :
    Quiet P ops ⟨d, .fieldAddr s' x f, ty, pos, aft, none⟩ e o r (pat v sz i (k + off)) := Q.fieldP (n := 0) hx hi
end Go.X

/- An element of an array value: elements of one cell. No condition. -/
set_option linter.unusedVariables false
namespace Go.X
variable {P : Program} {ops : Array Oper} {e : Env} {o r : List PHeap} {d : Option Tmp} {ty : TypeId} {pos : String} {aft : Array Edge}
theorem Q.index1 {t el len : TypeId} [u : Und P t (.array len el)] [z : TySize P el 1] [g : IsAgg P el false] {x y : Operand} {k : IntKind} {n : Int} {cs : List Value} {v : Value} (hx : ev e x = some (.agg cs.toArray)) (hy : ev e y = some (.int k n))
    (h0 : 0 ≤ n) (h1 : n < (len : Int)) (hv : cs[n.toNat]? = some v) : Quiet P ops ⟨d, .index t x y, ty, pos, aft, none⟩ e o r v := .mk fun a w he _ => by
  simp only [execOp, ev_rel he hx, ev_rel he hy]
  refine run_val ?_
  unfold Instr.index
  have e1 : (asIntOf (.int k n)).run P w = .ok (k, n) w := rfl
  rw [bind_ok e1]
  simp only
  rw [bind_ok (u.pf w)]
  simp only
  rw [if_pos ⟨h0, h1⟩, bind_ok (z.pf w)]
  unfold part
  rw [bind_ok (g.pf w)]
  simp [hv, pure]
theorem Spec.wide {f : FuncId} {args : Array Value} {Hm Hr Hr' : List PHeap} {R : Value → List PHeap → Prop} (h : Spec P f args Hm Hr R) (hh : ∀ x ∈ Hr, x ∈ Hr') : Spec P f args Hm Hr' R :=
  fun o r w hs hr => h o r w hs (fun x hx => hr x (hh x hx))
end Go.X

/- A store to the first field. -/
namespace Go.X
instance (priority := high) Upd.first {b : Nat} {vs : List Value} {o o' : List PHeap} [t : Upd b 0 vs o o'] : Upd b (0 + 0) vs o o' := ⟨t.pf⟩
end Go.X

/- min and max of whole numbers of any width. -/
set_option linter.unusedVariables false
namespace Go.X
section
variable {P : Program} {ops : Array Oper} {e : Env} {o r : List PHeap} {d : Option Tmp} {ty : TypeId} {pos : String} {aft : Array Edge}
theorem run_minK {m n : Int} {k : IntKind} {ty' : Array TypeId} {w : World} {cs : Array Bool} (b : Bool) :
    (builtin (if b then .min else .max) ty' ty cs #[.int k m, .int k n]).run P w = .ok (.value (.int k (if b then min m n else max m n))) w := by
  cases b with
  | true =>
    simp only [if_true, builtin]
    refine run_val ?_
    have h1 : Builtin.min_ ty' ty #[.int k m, .int k n] = (pure (.int k (if n < m then n else m)) : Sem Value) := by
      simp [Builtin.min_, Builtin.min2]
    rw [h1]
    have h2 : (if n < m then n else m) = min m n := by omega
    rw [h2]; rfl
  | false =>
    simp only [Bool.false_eq_true, if_false, builtin]
    refine run_val ?_
    have h1 : ∃ z, Builtin.max_ ty' ty #[.int k m, .int k n] = (pure (.int k z) : Sem Value) ∧ z = max m n := by
      refine ⟨_, by simp [Builtin.max_, Builtin.max2]; rfl, ?_⟩
      omega
    obtain ⟨z, h1, rfl⟩ := h1
    rw [h1]; rfl
theorem Q.minK {x y : Operand} {tys : Array TypeId} {k : IntKind} {m n : Int} (hx : ev e x = some (.int k m)) (hy : ev e y = some (.int k n)) :
    Quiet P ops ⟨d, .call ⟨.builtin .min, #[x, y], tys⟩, ty, pos, aft, none⟩ e o r (.int k (Min.min m n)) := .mk fun a w he _ => by
  simp only [execOp, resolve, List.map_toArray, List.map_cons, List.map_nil, ev_rel he hx, ev_rel he hy]
  rw [bind_ok (a := _) (w1 := w) rfl]
  simp only [invoke]
  exact run_minK true
theorem Q.maxK {x y : Operand} {tys : Array TypeId} {k : IntKind} {m n : Int} (hx : ev e x = some (.int k m)) (hy : ev e y = some (.int k n)) :
    Quiet P ops ⟨d, .call ⟨.builtin .max, #[x, y], tys⟩, ty, pos, aft, none⟩ e o r (.int k (Max.max m n)) := .mk fun a w he _ => by
  simp only [execOp, resolve, List.map_toArray, List.map_cons, List.map_nil, ev_rel he hx, ev_rel he hy]
  rw [bind_ok (a := _) (w1 := w) rfl]
  simp only [invoke]
  exact run_minK false
end
end Go.X

/- Iterators that yield fresh values: what was yielded stays readable; loops over them. No condition. -/
set_option linter.unusedSimpArgs false
set_option linter.unusedVariables false
namespace Go.X

/-! ### two heaps as one -/
def cat (a b : PHeap) : PHeap := join [a, b]
theorem cat_left (a b : PHeap) : leH a (cat a b) := fun x ob h => by
  show ((a x).or _) = _
  rw [h]; rfl
theorem cat_right {a b : PHeap} (hd : Disj a b) : leH b (cat a b) := fun x ob h => by
  show ((a x).or ((b x).or none)) = _
  rcases hd x with h1 | h1
  · rw [h1, h]; rfl
  · rw [h] at h1; cases h1
theorem leH.trans {a b c : PHeap} (h1 : leH a b) (h2 : leH b c) : leH a c := fun x ob h => h2 x ob (h1 x ob h)
theorem leH.emp (h : PHeap) : leH emp h := fun x ob h => by cases h
section
variable {c : Cx} {ops : Array Oper} {rest : List Oper} {k : List Item} {e : Env} {o o1 o2 r : List PHeap} {fl : List Nat} {f : List PHeap} {t : Plan}
/-- Two owned heaps become one. -/
theorem XK.cat (a b : PHeap) [ta : Take a o o1] [tb : Take b o1 o2] (h : leH a (cat a b) → leH b (cat a b) → XK c k e (cat a b :: o2) r) : XK c k e o r := fun D ds w0 w cs ha he hD hm => by
  have hp : (D :: o).Perm ([a, b] ++ (D :: o2)) := ((ta.pf.trans (tb.pf.cons a)).cons D).trans (by
    show (D :: a :: b :: o2).Perm (a :: b :: D :: o2)
    exact (List.Perm.swap _ _ _).trans ((List.Perm.swap _ _ _).cons _))
  have hs := hm.perm hp
  have hd : Disj a b := (List.pairwise_cons.1 hs.pw).1 b (by simp)
  exact h (cat_left a b) (cat_right hd) D ds w0 w cs ha he hD ((Sep.join hs).perm (List.Perm.swap _ _ _))
theorem XO.cat (a b : PHeap) [ta : Take a o o1] [tb : Take b o1 o2] (h : leH a (cat a b) → leH b (cat a b) → XO c ops rest k e (cat a b :: o2) r) : XO c ops rest k e o r := fun j hj hok D ds w0 w cs ha he hD hm => by
  have hp : (D :: o).Perm ([a, b] ++ (D :: o2)) := ((ta.pf.trans (tb.pf.cons a)).cons D).trans (by
    show (D :: a :: b :: o2).Perm (a :: b :: D :: o2)
    exact (List.Perm.swap _ _ _).trans ((List.Perm.swap _ _ _).cons _))
  have hs := hm.perm hp
  have hd : Disj a b := (List.pairwise_cons.1 hs.pw).1 b (by simp)
  exact h (cat_left a b) (cat_right hd) j hj hok D ds w0 w cs ha he hD ((Sep.join hs).perm (List.Perm.swap _ _ _))
end
/-- Under a guard that is known not to hold, nothing is done. -/
theorem Quiet.off {P : Program} {ops : Array Oper} {e : Env} {o r : List PHeap} {d : Option Tmp} {ty : TypeId} {pos : String} {aft : Array Edge} {op : Op} {j g : Nat} {want b : Bool}
    (hj : (ops[j]?).bind (·.dst) = some g) (hg : find e g = some (.bool b)) (hb : b ≠ want) : Quiet P ops ⟨d, op, ty, pos, aft, some (j, want)⟩ e o r undef := fun a w he _ => by
  refine .inr ⟨?_, rfl⟩
  rw [wanted_guard hj (he g _ hg)]
  simp [hb]
theorem XT.vcall {c : Cx} {ops : Array Oper} {fl : List Nat} {f : List PHeap} {k : List Item} {e : Env} {o r : List PHeap} {i0 d : Nat} {ty : TypeId} {pos : String} {aft : Array Edge} {bb : Bool} {tt uu : Plan}
    {x : Operand} {l : List Operand} {tys : Array TypeId} {y : Value} {vs : List Value} {Hm Hr : List PHeap} {R : Value → List PHeap → Prop} {o1 : List PHeap}
    (hi : ops[i0]? = some ⟨some d, .call ⟨.value x, l.toArray, tys⟩, ty, pos, aft, none⟩) (hok : okOper c.N ⟨some d, .call ⟨.value x, l.toArray, tys⟩, ty, pos, aft, none⟩ = true)
    (hx : ev e x = some y) (hl : evs e l = some vs) (hS : VSpec c.P y vs Hm Hr R) [t : Takes Hm o o1] [al : AllIn Hr o1 (c.B :: r)]
    (h : ∀ v hs, R v hs → Keeps bb f (hs ++ o1) ∧ XT c ops fl f k r tt ((d, some v) :: e) (hs ++ o1)) (hu : XT c ops fl f k r uu e o) :
    XT c ops fl f k r (.br i0 bb tt uu) e o := XT.s hi hok (Stp.vcall hx hl hS) (fun v o2 ⟨hs, hR, h2⟩ => by subst h2; exact h v hs hR) hu

/-- A heap that is one of two that are read. -/
class Either (x : PHeap) (a b : outParam PHeap) : Prop where
  pf : x = a ∨ x = b
instance (priority := low) InM.either (x a b : PHeap) (o r : List PHeap) [t : Either x a b] [ia : InM a o r] [ib : InM b o r] : InM x o r := ⟨t.pf.elim (fun h => h ▸ ia.pf) (fun h => h ▸ ib.pf)⟩
/-! ### iterators with fresh values -/
/-- It yields n times; K: all that it has yielded, to be read in the rounds, owned at the end; Hs: what the iterator itself holds. -/
def ItK (P : Program) (y : Value) (n : Nat) (Y : Nat → PHeap → List Value → Prop) (Hs Hg : List PHeap) : Prop :=
  ∀ (f : Value) (Hr : List PHeap) (Q : Nat → PHeap → PHeap → Prop) (X : PHeap → PHeap → Prop),
    (∀ i K K' q, leH K K' → Q i K q → Q i K' q) →
    (∀ i, i < n → ∀ K vs q, Y i K vs → Q i K q → VSpec P f vs [q] (K :: Hr) (fun v hs => ∃ b q', v = .bool b ∧ hs = [q'] ∧ (b = true → Q (i + 1) K q') ∧ (b = false → X K q'))) →
    ∀ q, Q 0 emp q → VSpec P y [f] (q :: Hs) (Hg ++ Hr) (fun _ hs => ∃ q' K, hs = [q', K] ∧ (Q n K q' ∨ X K q'))
theorem XK.rangeK {P : Program} {f : FuncId} {N : Nat} {B : PHeap} {E : Frame → World → Prop} {X : Type} {k : List Item} {e : Env} {o o1 ok r : List PHeap} {x : Operand} {y : Value} {ps : List Tmp} {asn bd : Code} {Hs Hg : List PHeap} {n : Nat} {Y : Nat → PHeap → List Value → Prop}
    (oc : X → List PHeap) (I : Nat → X → PHeap → Prop) (J : Code → X → PHeap → Prop) (x0 : X) (o0 : List PHeap) (hx : ev e x = some y) (hit : ItK P y n Y Hs Hg)
    [rst : Rest o0 o o1] [tk : Takes Hs o1 ok] (ho0 : oc x0 = o0) (hmono : ∀ i x K K', leH K K' → I i x K → I i x K') (h0 : I 0 x0 emp)
    [al : AllIn Hg ok (B :: r)] (hps : ps.all (fun p => Nat.blt p N) = true) (hlen : ∀ i K vs, Y i K vs → vs.length = ps.length)
    (round : ∀ l rec B' i x K vs, i < n → Y i K vs → I i x K → XK (rcx P f N l rec B' (RoundR oc (fun x => I (i + 1) x K) (fun j x => J j x K))) [.code asn, .beginRound, .code bd] (pars ps vs e) (rdy l rec :: oc x) (K :: (ok ++ r)))
    (cont : ∀ x K, I n x K → XK ⟨P, f, none, N, B, E⟩ k e (oc x ++ K :: ok) r)
    (jump : ∀ j x K, J j x K → XK ⟨P, f, none, N, B, E⟩ (.code j :: k) e (oc x ++ K :: ok) r) :
    XK ⟨P, f, none, N, B, E⟩ (.code (.rangeFunc x ps.toArray asn bd) :: k) e o r := fun D ds a w cs ha he hD hm => by
  have hm0 : Sep (D :: (o0 ++ o1)) (B :: r) w := rst.wk.sepD hm
  have hm1 : Sep (D :: (o0 ++ (Hs ++ ok))) (B :: r) w := hm0.perm ((tk.pf.append_left o0).cons D)
  let rec' : Loop := { state := .ready, pending := none, fn := f, tmps := a, params := ps.toArray, assign := asn, body := bd, defers := w.heap.size }
  let l := w.heap.size + 1
  let w1 := (w.alloc (.deferred (some []))).alloc (.loop rec')
  have henter : (Instr.enterLoop f a ps.toArray asn bd none).run P w = .ok (l, [{ target := .collected w.heap.size, args := #[] }]) w1 := run_enterLoop_outer f a ps.toArray asn bd
  have hs1 : Sep (rdy l rec' :: sing w.heap.size (.deferred (some [])) :: D :: (o0 ++ (Hs ++ ok))) (B :: r) w1 := by
    have := (hm1.push (.deferred (some []))).push (.loop rec')
    simp only [Array.size_push] at this
    exact this
  let D' := Go.X.join [sing w.heap.size (.deferred (some [])), D]
  have hs2 : Sep (D' :: rdy l rec' :: (o0 ++ (Hs ++ ok))) (B :: r) w1 := by
    refine Sep.join (hs := [sing w.heap.size (.deferred (some [])), D]) (hs1.perm ?_)
    exact (List.Perm.swap _ _ _).trans ((List.Perm.swap _ _ _).cons _)
  have hD' : Marked D' (w.heap.size :: ds) := by
    refine ⟨List.nodup_cons.2 ⟨fun hmem => ?_, hD.1⟩, fun b => ?_⟩
    · have := sub_lt (hm.so D List.mem_cons_self) (b := w.heap.size) (o := .deferred (some [])) (by rw [hD.2, if_pos hmem])
      omega
    · simp only [D', Go.X.join, sing, emp, Option.or_none, hD.2 b, List.mem_cons]
      by_cases hb : b = w.heap.size
      · simp [hb]
      · simp [hb]
  have hs3 : Sep ((Go.X.join (rdy l rec' :: o0) :: Hs) ++ (D' :: ok)) (B :: r) w1 := by
    refine (Sep.join (hs := rdy l rec' :: o0) (o := D' :: (Hs ++ ok)) (hs2.perm ?_)).perm ?_
    · show (D' :: ((rdy l rec' :: o0) ++ (Hs ++ ok))).Perm ((rdy l rec' :: o0) ++ D' :: (Hs ++ ok))
      exact List.perm_middle.symm
    · show (_ :: D' :: (Hs ++ ok)).Perm (_ :: (Hs ++ D' :: ok))
      exact List.perm_middle.symm.cons _
  have hp0 : PD (rdy l rec' :: oc x0) := by
    rw [ho0]
    have hsub : (rdy l rec' :: o0).Sublist (rdy l rec' :: (o0 ++ (Hs ++ ok))) := List.Sublist.cons_cons _ (List.sublist_append_left _ _)
    exact ⟨hs2.tail.pw.sublist hsub, fun h hh => hs2.tail.no h (hsub.mem hh)⟩
  have hpsN : ∀ p ∈ ps, p < N := fun p hp => by
    have := List.all_eq_true.1 hps p hp
    rwa [Nat.blt_eq] at this
  have hyield : ∀ i, i < n → ∀ K vs q, Y i K vs → (∃ x, I i x K ∧ PD (rdy l rec' :: oc x) ∧ q = Go.X.join (rdy l rec' :: oc x)) →
      VSpec P (.func (.yield l) #[] #[]) vs [q] (K :: (ok ++ r)) (fun v hs => ∃ b q', v = .bool b ∧ hs = [q'] ∧
        (b = true → ∃ x, I (i + 1) x K ∧ PD (rdy l rec' :: oc x) ∧ q' = Go.X.join (rdy l rec' :: oc x)) ∧
        (b = false → ∃ j x, J j x K ∧ PD (ovr l rec' (some j) :: oc x) ∧ q' = Go.X.join (ovr l rec' (some j) :: oc x))) := by
    rintro i hi K vs q hY ⟨x, hI, hp, rfl⟩
    refine ((VSpec.round (rec := rec') (N := N) (e := e) rfl ha he hpsN (hlen i K vs hY) (fun B' => round l rec' B' i x K vs hi hY hI)).joined hp).mono ?_
    rintro v hs ⟨hs', ⟨j, hs'', rfl, rfl, hR⟩, hpw, rfl⟩
    refine ⟨_, _, rfl, rfl, ?_, ?_⟩
    · intro hj
      cases j with
      | some j => cases hj
      | none =>
        obtain ⟨x', h1, rfl⟩ := hR
        exact ⟨x', h1, hpw, rfl⟩
    · intro hj
      cases j with
      | none => cases hj
      | some j =>
        obtain ⟨x', h1, rfl⟩ := hR
        exact ⟨j, x', h1, hpw, rfl⟩
  have hN := hit _ (ok ++ r) (fun i K q => ∃ x, I i x K ∧ PD (rdy l rec' :: oc x) ∧ q = Go.X.join (rdy l rec' :: oc x)) _ (fun i K K' q hle ⟨x, hI, h1⟩ => ⟨x, hmono i x K K' hle hI, h1⟩) hyield (Go.X.join (rdy l rec' :: o0)) ⟨x0, h0, hp0, by rw [ho0]⟩ (D' :: ok) (B :: r) w1 hs3 (fun h hh => by
    rcases List.mem_append.1 hh with hh | hh
    · exact orMap (al.pf h hh) (List.mem_cons_of_mem _) id
    · rcases List.mem_append.1 hh with hh | hh
      · exact .inl (List.mem_cons_of_mem _ hh)
      · exact .inr (List.mem_cons_of_mem _ hh))
  obtain ⟨v, w', ⟨hs', ⟨q', K, rfl, hq⟩, hS⟩, st⟩ := step_range (ds := marks ds) (k := k) (cs := cs) henter (ev_rel he hx) hN
  have hperm : ∀ g : List PHeap, (g ++ ([K] ++ (D' :: ok))).Perm (D' :: (g ++ K :: ok)) := fun g => by
    refine ((List.Perm.swap D' K ok).append_left g).trans ?_
    exact List.perm_middle
  rcases hq with ⟨x', hI, hpw, rfl⟩ | ⟨j, x', hJ, hpw, rfl⟩
  · obtain ⟨hS2, hb⟩ := Sep.turn (y := .loop { rec' with state := .exhausted, pending := none }) (Sep.split hpw hS)
    obtain ⟨fr, w2, hE, st2⟩ := cont x' K hI D' (w.heap.size :: ds) a _ cs ha he hD' (hS2.tail.perm (hperm _))
    exact ⟨fr, w2, hE, Steps.trans st (.head (step_endRange (run_endLoop hb (by simp))) st2)⟩
  · obtain ⟨hS2, hb⟩ := Sep.turn (y := .loop { rec' with state := .exhausted, pending := some j }) (Sep.split hpw hS)
    obtain ⟨fr, w2, hE, st2⟩ := jump j x' K hJ D' (w.heap.size :: ds) a _ cs ha he hD' (hS2.tail.perm (hperm _))
    exact ⟨fr, w2, hE, Steps.trans st (.head (step_endRange (run_endLoop hb (by simp))) st2)⟩
end Go.X

/- Literals under guards: made, or not. No condition. -/
set_option linter.unusedSimpArgs false
set_option linter.unusedVariables false
namespace Go.X
section
variable {P : Program} {ops : Array Oper} {e : Env} {o r : List PHeap} {d : Option Tmp} {ty : TypeId} {pos : String} {aft : Array Edge}
theorem Stp.tells {op : Op} {φ : Prop} {j g : Nat} {want : Bool} {Ψ : Value → List PHeap → Prop} (hj : (ops[j]?).bind (·.dst) = some g) (t : Tells e g want φ) (hp : φ)
    (s : Stp P ops ⟨d, op, ty, pos, aft, none⟩ e o r Ψ) : Stp P ops ⟨d, op, ty, pos, aft, some (j, want)⟩ e o r Ψ := fun D a w he hs => by
  have h := s D a w he hs
  have hw := t.yes (d := d) (ty := ty) (pos := pos) (aft := aft) (op := op) hj he hp
  have hx : execOp (evA a) (⟨d, op, ty, pos, aft, some (j, want)⟩ : Oper) = execOp (evA a) (⟨d, op, ty, pos, aft, none⟩ : Oper) := rfl
  unfold Does at h ⊢
  rw [hw, hx, if_pos rfl]
  rwa [if_pos (by simp [Region.wanted])] at h
theorem Stp.mono {x : Oper} {Ψ Ψ' : Value → List PHeap → Prop} (s : Stp P ops x e o r Ψ) (m : ∀ v o', Ψ v o' → Ψ' v o') : Stp P ops x e o r Ψ' := fun D a w he hs =>
  (s D a w he hs).mono fun v w' ⟨o2, ⟨o', h1, h2⟩, h3⟩ => ⟨o2, ⟨o', m _ _ h1, h2⟩, h3⟩
theorem Stp.litT {α : Type} {sz : Nat} {φ : Prop} {j g : Nat} {want : Bool}
    {t el : TypeId} [u : Und P t (.slice el)] [z : TySize P el sz] {zs : List Value} [zz : Zero P el zs] {n : Nat} {l : List (Nat × Operand)} (zl cs : List Value) (xs : List α) (enc : α → List Value)
    (hj : (ops[j]?).bind (·.dst) = some g) (t2 : Tells e g want φ)
    (hzs : zs.length = sz) (hsz : Nat.blt 0 sz = true) (hn : Nat.ble (n * sz) 16777216 = true) (hzl : (List.replicate n zs).flatten = zl) (hf : φ → Fill e (fun i => some (i * sz, sz)) l zl cs)
    (henc : ∀ x, (enc x).length = sz) (hcs : xs.flatMap enc = cs) (hxn : xs.length = n) (ho : φ → Ones cs) (hle : Nat.ble n 16777216 = true) :
    Stp P ops ⟨d, .buildSlice t n l.toArray, ty, pos, aft, some (j, want)⟩ e o r (fun v o2 => ∃ h, o2 = h :: o ∧ (φ → OArr v enc sz el h xs) ∧ (¬ φ → v = undef)) := by
  by_cases hp : φ
  · exact (Stp.tells hj t2 hp ((Makes.lit (t := t) (el := el) (zs := zs) cs hzs hsz hn (by rw [hzl]; exact hf hp)).stp _ _)).mono fun v o' ⟨b, hv, ho'⟩ =>
      ⟨_, ho', fun _ => by subst hv; exact OArr.lit xs enc henc hcs hxn (ho hp) hle, fun hn => absurd hp hn⟩
  · intro D a w he hs
    unfold Does
    rw [t2.no hj he hp, if_neg (by decide)]
    exact ⟨emp :: D :: o, ⟨emp :: o, ⟨emp, rfl, fun h => absurd h hp, fun _ => rfl⟩, List.Perm.swap _ _ _⟩, hs.emp 1⟩
end
section
variable {c : Cx} {ops : Array Oper} {rest : List Oper} {k : List Item} {e : Env} {o r : List PHeap} {d : Nat} {ty : TypeId} {pos : String} {aft : Array Edge}
variable {fl : List Nat} {f : List PHeap} {i0 : Nat} {bb : Bool} {tt uu : Plan}
variable {α : Type} {sz : Nat} {j g : Nat} {want b b1 w1 : Bool} {t el : TypeId} [u : Und c.P t (.slice el)] [z : TySize c.P el sz] {zs : List Value} [zz : Zero c.P el zs] {n : Nat} {l : List (Nat × Operand)} (zl cs : List Value) (xs : List α) (enc : α → List Value)
theorem lz_of {b w : Bool} {v : Value} (h : ¬ b = w → v = undef) : v = lz b w v := by
  unfold lz
  split
  · rfl
  · exact h ‹_›
theorem lz_of2 {b1 w1 b w : Bool} {v : Value} (h : ¬ (b1 = w1 ∧ b = w) → v = undef) : v = lz b1 w1 (lz b w v) := by
  unfold lz
  split
  · split
    · rfl
    · exact h (fun hh => by rename_i h2; exact h2 hh.2)
  · exact h (fun hh => by rename_i h2; exact h2 hh.1)
theorem XO.lit1 (hj : (ops[j]?).bind (·.dst) = some g) (hg : find e g = some (.bool b))
    (hzs : zs.length = sz) (hsz : Nat.blt 0 sz = true) (hn : Nat.ble (n * sz) 16777216 = true) (hzl : (List.replicate n zs).flatten = zl) (hf : b = want → Fill e (fun i => some (i * sz, sz)) l zl cs)
    (henc : ∀ x, (enc x).length = sz) (hcs : xs.flatMap enc = cs) (hxn : xs.length = n) (ho : b = want → Ones cs) (hle : Nat.ble n 16777216 = true)
    (hnx : ∀ v' h', (b = want → OArr v' enc sz el h' xs) → XO c ops rest k ((d, some (lz b want v')) :: e) (h' :: o) r) :
    XO c ops (⟨some d, .buildSlice t n l.toArray, ty, pos, aft, some (j, want)⟩ :: rest) k e o r :=
  XO.s (Stp.litT zl cs xs enc hj (.d1 hg) hzs hsz hn hzl hf henc hcs hxn ho hle) fun v o2 ⟨h, h1, h2, h3⟩ => by
    subst h1
    have := hnx v h h2
    rwa [← lz_of h3] at this
theorem XO.lit2 (hj : (ops[j]?).bind (·.dst) = some g) (hg : find e g = some (lz b1 w1 (.bool b)))
    (hzs : zs.length = sz) (hsz : Nat.blt 0 sz = true) (hn : Nat.ble (n * sz) 16777216 = true) (hzl : (List.replicate n zs).flatten = zl) (hf : b1 = w1 → b = want → Fill e (fun i => some (i * sz, sz)) l zl cs)
    (henc : ∀ x, (enc x).length = sz) (hcs : xs.flatMap enc = cs) (hxn : xs.length = n) (ho : b1 = w1 → b = want → Ones cs) (hle : Nat.ble n 16777216 = true)
    (hnx : ∀ v' h', (b1 = w1 → b = want → OArr v' enc sz el h' xs) → XO c ops rest k ((d, some (lz b1 w1 (lz b want v'))) :: e) (h' :: o) r) :
    XO c ops (⟨some d, .buildSlice t n l.toArray, ty, pos, aft, some (j, want)⟩ :: rest) k e o r :=
  XO.s (Stp.litT zl cs xs enc hj (.d2 hg) hzs hsz hn hzl (fun h => hf h.1 h.2) henc hcs hxn (fun h => ho h.1 h.2) hle) fun v o2 ⟨h, h1, h2, h3⟩ => by
    subst h1
    have := hnx v h (fun a b => h2 ⟨a, b⟩)
    rwa [← lz_of2 h3] at this
theorem XT.lit1 (hi : ops[i0]? = some ⟨some d, .buildSlice t n l.toArray, ty, pos, aft, some (j, want)⟩) (hok : okOper c.N ⟨some d, .buildSlice t n l.toArray, ty, pos, aft, some (j, want)⟩ = true)
    (hj : (ops[j]?).bind (·.dst) = some g) (hg : find e g = some (.bool b))
    (hzs : zs.length = sz) (hsz : Nat.blt 0 sz = true) (hn : Nat.ble (n * sz) 16777216 = true) (hzl : (List.replicate n zs).flatten = zl) (hf : b = want → Fill e (fun i => some (i * sz, sz)) l zl cs)
    (henc : ∀ x, (enc x).length = sz) (hcs : xs.flatMap enc = cs) (hxn : xs.length = n) (ho : b = want → Ones cs) (hle : Nat.ble n 16777216 = true)
    (hnx : ∀ v' h', (b = want → OArr v' enc sz el h' xs) → Keeps bb f (h' :: o) ∧ XT c ops fl f k r tt ((d, some (lz b want v')) :: e) (h' :: o)) (hu : XT c ops fl f k r uu e o) : XT c ops fl f k r (.br i0 bb tt uu) e o :=
  XT.s hi hok (Stp.litT zl cs xs enc hj (.d1 hg) hzs hsz hn hzl hf henc hcs hxn ho hle) (fun v o2 ⟨h, h1, h2, h3⟩ => by
    subst h1
    have := hnx v h h2
    rwa [← lz_of h3] at this) hu
theorem XT.lit2 (hi : ops[i0]? = some ⟨some d, .buildSlice t n l.toArray, ty, pos, aft, some (j, want)⟩) (hok : okOper c.N ⟨some d, .buildSlice t n l.toArray, ty, pos, aft, some (j, want)⟩ = true)
    (hj : (ops[j]?).bind (·.dst) = some g) (hg : find e g = some (lz b1 w1 (.bool b)))
    (hzs : zs.length = sz) (hsz : Nat.blt 0 sz = true) (hn : Nat.ble (n * sz) 16777216 = true) (hzl : (List.replicate n zs).flatten = zl) (hf : b1 = w1 → b = want → Fill e (fun i => some (i * sz, sz)) l zl cs)
    (henc : ∀ x, (enc x).length = sz) (hcs : xs.flatMap enc = cs) (hxn : xs.length = n) (ho : b1 = w1 → b = want → Ones cs) (hle : Nat.ble n 16777216 = true)
    (hnx : ∀ v' h', (b1 = w1 → b = want → OArr v' enc sz el h' xs) → Keeps bb f (h' :: o) ∧ XT c ops fl f k r tt ((d, some (lz b1 w1 (lz b want v'))) :: e) (h' :: o)) (hu : XT c ops fl f k r uu e o) : XT c ops fl f k r (.br i0 bb tt uu) e o :=
  XT.s hi hok (Stp.litT zl cs xs enc hj (.d2 hg) hzs hsz hn hzl (fun h => hf h.1 h.2) henc hcs hxn (fun h => ho h.1 h.2) hle) (fun v o2 ⟨h, h1, h2, h3⟩ => by
    subst h1
    have := hnx v h (fun a b => h2 ⟨a, b⟩)
    rwa [← lz_of2 h3] at this) hu
end
end Go.X

/- Slices of slices in one heap. No condition. -/
set_option linter.unusedVariables false
namespace Go.X
/-- Slices that lie in one heap, a row each. -/
def RowsK (us : List Value) (K : PHeap) (rows : List (List Int)) : Prop := us.length = rows.length ∧ ∀ i, i < us.length → Arr (us.getD i default) encI 1 K (rows.getD i default)
theorem RowsK.nil {K : PHeap} : RowsK [] K [] := ⟨rfl, fun i hi => absurd hi (Nat.not_lt_zero i)⟩
theorem RowsK.mono {us : List Value} {K K' : PHeap} {rows : List (List Int)} (hl : leH K K') (r : RowsK us K rows) : RowsK us K' rows := ⟨r.1, fun i hi => Arr.le_heap (r.2 i hi) hl⟩
theorem rowsK_getD {α : Type} [Inhabited α] (l : List α) (x : α) (i : Nat) : (l ++ [x]).getD i default = if i < l.length then l.getD i default else if i = l.length then x else default := by
  rw [List.getD_eq_getElem?_getD, List.getElem?_append]
  split
  · rw [List.getD_eq_getElem?_getD]
  · split
    · rename_i h1 h2; subst h2; simp
    · rename_i h1 h2
      rw [List.getElem?_eq_none (by simp; omega)]; rfl
theorem RowsK.snoc {us : List Value} {K : PHeap} {rows : List (List Int)} {u : Value} {x : List Int} (r : RowsK us K rows) (a : Arr u encI 1 K x) : RowsK (us ++ [u]) K (rows ++ [x]) := ⟨by rw [List.length_append, List.length_append, r.1]; rfl, fun i hi => by
  rw [List.length_append] at hi
  rw [rowsK_getD, rowsK_getD, ← r.1]
  by_cases hc : i < us.length
  · rw [if_pos hc, if_pos hc]; exact r.2 i hc
  · rw [if_neg hc, if_neg hc, if_pos (by simp at hi; omega), if_pos (by simp at hi; omega)]; exact a⟩
end Go.X

/- x[:len(x):len(x)]. No condition. -/
set_option linter.unusedSimpArgs false
set_option linter.unusedVariables false
namespace Go.X
def clipv (v : Value) (sz : Nat) : Value := match v with
  | .slice ad n _ => .slice (if n = 0 then ad else ad.map (·.add (0 * sz))) (n - 0) (n - 0)
  | _ => v
section
variable {P : Program} {ops : Array Oper} {e : Env} {o r : List PHeap} {d : Option Tmp} {ty : TypeId} {pos : String} {aft : Array Edge}
variable {α : Type} {enc : α → List Value} {sz : Nat} {h : PHeap} {xs : List α} {v : Value}
theorem Arr.clip (s : Arr v enc sz h xs) : Arr (clipv v sz) enc sz h xs := ⟨by
  obtain ⟨henc, hm, ad, c, rfl, hle, hnn, hc⟩ := s.pf
  refine ⟨henc, hm, (if xs.length = 0 then ad else ad.map (·.add (0 * sz))), xs.length, rfl, Nat.le_refl _, ?_, fun hp => ?_⟩
  · intro hnone
    split at hnone
    · assumption
    · cases ad with
      | none => have := hnn rfl; omega
      | some a => simp at hnone
  · obtain ⟨b, k, cs, T, fr, rfl, hb, hcs⟩ := hc hp
    refine ⟨b, k, cs, T, fr, ?_, hb, hcs⟩
    rw [if_neg (by omega)]
    simp [add_none]⟩
theorem Q.clip {t el : TypeId} [u : Und P t (.slice el)] [z : TySize P el sz] {x y y' : Operand} {k k' : IntKind} (hx : ev e x = some v) [s : Arr v enc sz h xs] (hy : ev e y = some (.int k (xs.length : Nat))) (hy' : ev e y' = some (.int k' (xs.length : Nat))) :
    Quiet P ops ⟨d, .slice t x none (some y) (some y'), ty, pos, aft, none⟩ e o r (clipv v sz) := .mk fun a w he _ => by
  obtain ⟨henc, hm, ad, c, rfl, hle, hnn, hc⟩ := s.pf
  have hrun : (Instr.sliceAt t (.slice ad xs.length c) none (some (.int k (xs.length : Nat))) (some (.int k' (xs.length : Nat)))).run P w =
      .ok (clipv (.slice ad xs.length c) sz) w := by
    unfold Instr.sliceAt
    rw [bind_ok (u.pf w)]
    simp only
    unfold Instr.slice
    rw [bind_ok (u.pf w)]
    simp only
    have hsb : ∀ (kk : IntKind) (m : Nat) (code : BoundsCode), xs.length ≤ m → (Instr.sliceBound (.int kk ((xs.length : Nat) : Int)) m code).run P w = .ok xs.length w := fun kk m code hm2 => by
      have h0 : (0 : Int) ≤ (xs.length : Nat) := by omega
      unfold Instr.sliceBound
      rw [bind_ok (a := (kk, ((xs.length : Nat) : Int))) (w1 := w) rfl]
      simp only
      rw [if_pos ⟨h0, by omega⟩]
      rfl
    have hb : (Instr.sliceBounds true xs.length c none (some (.int k (xs.length : Nat))) (some (.int k' (xs.length : Nat)))).run P w = .ok (0, xs.length, xs.length) w := by
      unfold Instr.sliceBounds
      simp only [if_true]
      rw [bind_ok (hsb k' c _ hle)]
      rw [bind_ok (hsb k xs.length _ (Nat.le_refl _))]
      rfl
    rw [bind_ok hb]
    simp only
    rw [bind_ok (z.pf w)]
    rfl
  simp only [execOp, ev_rel he hx, Option.map_none, Option.map_some, ev_rel he hy, ev_rel he hy', run_val hrun]
end
end Go.X

/- Structs of numbers, compared. No condition. -/
set_option linter.unusedSimpArgs false
set_option linter.unusedVariables false
namespace Go.X
theorem run_eqInt {P : Program} {t : TypeId} {k' k : IntKind} [u : Und P t (.int k')] {m n : Int} {d : Nat} (w : World) : (Op.equalIn (d + 1) t (.int k m) (.int k n)).run P w = .ok (m == n) w := by
  unfold Op.equalIn
  rw [bind_ok (u.pf w)]
  simp only [if_true]
  rfl
/-- The fields of a struct, each with the values that are compared, and what comes of it. -/
inductive EqF (P : Program) (d : Nat) (xs ys : Array Value) : List Field → Bool → Prop
  | n : EqF P d xs ys [] true
  | c {f : Field} {fs : List Field} {k k' : IntKind} {m n : Int} {r : Bool} (hn : (f.name == "_") = false) (ht : IsAgg P f.type false) (u : Und P f.type (.int k')) (hx : xs[f.offset]? = some (.int k m)) (hy : ys[f.offset]? = some (.int k n)) (hr : EqF P d xs ys fs r) : EqF P d xs ys (f :: fs) (decide (m = n) && r)
theorem run_part {P : Program} {t : TypeId} [ht : IsAgg P t false] {xs : Array Value} {i : Nat} {v : Value} (h : xs[i]? = some v) (w : World) : (part t xs i).run P w = .ok v w := by
  unfold part
  rw [bind_ok (ht.pf w)]
  simp only [Bool.false_eq_true, if_false, h]
  rfl
theorem eq_loop {P : Program} {d : Nat} {xs ys : Array Value} {fs : List Field} {r : Bool} (h : EqF P (d + 1) xs ys fs r) (w : World) :
    (forIn (m := Sem) fs ((none, ()) : Option Bool × Unit) fun f __s =>
                  if f.name ≠ "_" then do
                    let __do_lift ← part f.type xs f.offset
                    let __do_lift_1 ← part f.type ys f.offset
                    let __do_lift ← Op.equalIn (d + 1) f.type __do_lift __do_lift_1
                    if (!__do_lift) = true then pure (ForInStep.done (some false, ()))
                      else pure (ForInStep.yield (none, ()))
                  else pure (ForInStep.yield (none, ()))).run P w = .ok (if r = true then (none, ()) else (some false, ())) w := by
  induction h with
  | n => rfl
  | @c f fs k k' m n r hn ht u hx hy hr ih =>
    rw [List.forIn_cons, if_pos (by intro h; rw [h] at hn; simp at hn)]
    by_cases hmn : m = n
    · subst hmn
      rw [bind_ok (a := ForInStep.yield (none, ())) (w1 := w)]
      · simp only
        rw [ih]; simp
      · rw [bind_ok (run_part (ht := ht) hx w), bind_ok (run_part (ht := ht) hy w), bind_ok (run_eqInt (u := u) w)]
        simp only [beq_self_eq_true, Bool.not_true, Bool.false_eq_true, if_false]
        rfl
    · rw [bind_ok (a := ForInStep.done (some false, ())) (w1 := w)]
      · simp only [hmn, decide_false, Bool.false_and, Bool.false_eq_true, if_false]
        rfl
      · rw [bind_ok (run_part (ht := ht) hx w), bind_ok (run_part (ht := ht) hy w), bind_ok (run_eqInt (u := u) w)]
        have : (m == n) = false := by simp [hmn]
        simp only [this, Bool.not_false, if_true]
        rfl
theorem run_eqStruct {P : Program} {t : TypeId} {fs : List Field} (u : Und P t (.struct fs.toArray)) (hs : P.stoodInHeld t = false) {xs ys : Array Value} {d : Nat} {r : Bool} (h : EqF P (d + 1) xs ys fs r) (w : World) :
    (Op.equalIn (d + 2) t (.agg xs) (.agg ys)).run P w = .ok r w := by
  unfold Op.equalIn
  rw [bind_ok (u.pf w)]
  simp only
  have hp : (program).run P w = .ok P w := rfl
  rw [bind_ok hp, if_neg (by rw [hs]; decide)]
  have hl := eq_loop h w
  rw [bind_ok (a := (if r = true then (none, ()) else (some false, ()))) (w1 := w)]
  · cases r <;> rfl
  · simp only [List.forIn_toArray]
    exact hl
section
variable {P : Program} {ops : Array Oper} {e : Env} {o r : List PHeap} {d : Option Tmp} {ty : TypeId} {pos : String} {aft : Array Edge}
theorem run_guardAgg {t : TypeId} {x y : Operand} {xs ys : Array Value} {op : BinOp} (hg : P.eqGuardType P.depth t = false) (hop : op = .eql ∨ op = .neq) (w : World) : (eqGuard op t x y (.agg xs) (.agg ys)).run P w = .ok () w := by
  have hp : (program).run P w = .ok P w := rfl
  rcases hop with rfl | rfl
  · unfold eqGuard
    simp only [Bool.not_true, Bool.false_eq_true, if_false]
    rw [bind_ok hp, bind_ok hp]
    simp only [hg, Bool.not_false, if_true]
    rfl
  · unfold eqGuard
    simp only [Bool.not_true, Bool.false_eq_true, if_false]
    rw [bind_ok hp, bind_ok hp]
    simp only [hg, Bool.not_false, if_true]
    rfl
theorem Q.eqlS {t t2 : TypeId} {x y : Operand} {fs : List Field} {us vs : List Value} {b : Bool} (hx : ev e x = some (.agg us.toArray)) (hy : ev e y = some (.agg vs.toArray)) (u : Und P t (.struct fs.toArray)) (hs : P.stoodInHeld t = false) (hg : P.eqGuardType P.depth t = false)
    (h : EqF P 9999 us.toArray vs.toArray fs b) : Quiet P ops ⟨d, .binOp .eql t x y t2, ty, pos, aft, none⟩ e o r (.bool b) := .mk fun a w he _ => by
  simp only [execOp, ev_rel he hx, ev_rel he hy]
  refine run_val ?_
  rw [bind_ok (run_guardAgg hg (.inl rfl) w)]
  unfold binOp
  simp only
  have h1 : (Op.equal t (.agg us.toArray) (.agg vs.toArray)).run P w = .ok b w := run_eqStruct (d := 9998) u hs h w
  rw [bind_ok h1]
  rfl
theorem Q.neqS {t t2 : TypeId} {x y : Operand} {fs : List Field} {us vs : List Value} {b : Bool} (hx : ev e x = some (.agg us.toArray)) (hy : ev e y = some (.agg vs.toArray)) (u : Und P t (.struct fs.toArray)) (hs : P.stoodInHeld t = false) (hg : P.eqGuardType P.depth t = false)
    (h : EqF P 9999 us.toArray vs.toArray fs b) : Quiet P ops ⟨d, .binOp .neq t x y t2, ty, pos, aft, none⟩ e o r (.bool (!b)) := .mk fun a w he _ => by
  simp only [execOp, ev_rel he hx, ev_rel he hy]
  refine run_val ?_
  rw [bind_ok (run_guardAgg hg (.inr rfl) w)]
  unfold binOp
  simp only
  have h1 : (Op.equal t (.agg us.toArray) (.agg vs.toArray)).run P w = .ok b w := run_eqStruct (d := 9998) u hs h w
  rw [bind_ok h1]
  rfl
end
end Go.X

/- copy into a part of a slice. No condition. -/
set_option linter.unusedSimpArgs false
set_option linter.unusedVariables false
namespace Go.X
section
variable {P : Program} {ops : Array Oper} {e : Env} {o r : List PHeap} {d : Option Tmp} {ty : TypeId} {pos : String} {aft : Array Edge}
variable {α : Type} {enc : α → List Value} {sz : Nat} {h : PHeap} {xs : List α} {v : Value}
theorem Stp0.copyC {t0 t1 el T : TypeId} [u : Und P t0 (.slice el)] [z : TySize P el sz] {x y : Operand} {vd v2 : Value} {h2 : PHeap} {ys : List α} {i j : Nat} {o1 : List PHeap} (hx : ev e x = some vd) (hd : vd = cutv v sz i j) (hy : ev e y = some v2)
    [s : OArr v enc sz T h xs] [tk : Take h o o1] [s2 : Arr v2 enc sz h2 ys] [m : InM h2 o r] (hij : i ≤ j) (hi : j ≤ xs.length) :
    Stp0 P ops ⟨d, .call ⟨.builtin .copy, #[x, y], #[t0, t1]⟩, ty, pos, aft, none⟩ e o r (fun v' o2 => ∃ h', v' = .int .i64 ((min ys.length (j - i) : Nat) : Int) ∧ OArr v enc sz T h' (splice xs (ys.take (j - i)) i) ∧ o2 = h' :: o1) := fun a w he hs => by
  subst hd
  have hs1 := hs.perm tk.pf
  have hsub2 : sub h2 w := m.pf.elim (hs.so _) (hs.sr _)
  have hx' := ev_rel he hx
  have hy' := ev_rel he hy
  obtain ⟨henc2, hm2, a2, c2, hv2, hle2, hnn2, hc2⟩ := s2.pf
  have hexec : ∀ w', (Builtin.copy_ #[t0, t1] ty #[cutv v sz i j, v2]).run P w = .ok (.int .i64 ((min ys.length (j - i) : Nat) : Int)) w' →
      (execOp (evA a) (⟨d, .call ⟨.builtin .copy, #[x, y], #[t0, t1]⟩, ty, pos, aft, none⟩ : Oper)).run P w = .ok (.value (.int .i64 ((min ys.length (j - i) : Nat) : Int))) w' := by
    intro w' hw'
    simp only [execOp, resolve, List.map_toArray, List.map_cons, List.map_nil, hx', hy']
    exact run_val hw'
  obtain ⟨henc, hm, ⟨rfl, rfl, rfl⟩ | ⟨b, c, cs, rfl, rfl, hle, hlen, ht⟩⟩ := s.pf
  · unfold Does
    rw [if_pos (by simp [Region.wanted]), hexec w (by
      have hj0 : j = 0 := by simpa using hi
      subst hj0
      have hi0 : i = 0 := by omega
      subst hi0
      have := run_copy (t0 := t0) (t1 := t1) (ty := ty) (el := el) (s2 := s2) (w := w) (w' := w) (P := P) hsub2 (ad := none) (m := 0) (c := 0) rfl
      simpa [cutv] using this)]
    refine ⟨emp :: o1, ⟨emp, rfl, ?_, rfl⟩, hs1⟩
    have hj0 : j = 0 := by simpa using hi
    subst hj0
    have hi0 : i = 0 := by omega
    subst hi0
    simp [splice]
    exact s
  · have hn' : min ys.length (j - i) ≤ j - i := Nat.min_le_right _ _
    have hsp : splice xs (ys.take (j - i)) i = xs.take i ++ ys.take (min ys.length (j - i)) ++ xs.drop (i + min ys.length (j - i)) := by
      unfold splice
      have e : min (ys.take (j - i)).length (xs.length - i) = min ys.length (j - i) := by rw [List.length_take]; omega
      rw [e, List.take_take, Nat.min_eq_left (by omega)]
    rw [hsp]
    have hny : min ys.length (j - i) ≤ ys.length := Nat.min_le_left _ _
    generalize hne : min ys.length (j - i) = n' at *
    have hZ : ((ys.take n').flatMap enc).length = n' * sz := by rw [flat_len henc, List.length_take, Nat.min_eq_left hny]
    have hmul1 : i * sz + n' * sz ≤ xs.length * sz := by rw [← Nat.add_mul]; exact Nat.mul_le_mul_right _ (by omega)
    have hmul2 : xs.length * sz ≤ c * sz := Nat.mul_le_mul_right _ hle
    have hh : w.heap[b]? = some (.cells cs.toArray T (0, 0)) := hs1.so _ List.mem_cons_self b _ (sing_self _ _)
    have hones : ∀ v ∈ (ys.take n').flatMap enc, one v = true := fun v hv => by
      obtain ⟨y, hy1, hy2⟩ := List.mem_flatMap.1 hv
      exact hm2.2 y (List.mem_of_mem_take hy1) v hy2
    obtain ⟨w', h1, h2, h3, h4⟩ := run_storeCells (P := P) (b := b) (k := i * sz) (T := T) ((ys.take n').flatMap enc) 0 w cs hones hh (by omega)
    have hst : ((match (if c = i then some (⟨b, 0, none⟩ : Addr) else (some (⟨b, 0, none⟩ : Addr)).map (·.add (i * sz))) with | some a => storeCells a ((ys.take n').flatMap enc) 0 | none => pure () : Sem Unit)).run P w = .ok () w' := by
      by_cases hci : c = i
      · rw [if_pos hci]
        have hn0 : n' = 0 := by omega
        subst hn0
        simp only [List.take_zero, List.flatMap_nil] at h1 ⊢
        exact h1
      · rw [if_neg hci]
        simp only [Option.map_some, add_none, Nat.zero_add]
        exact h1
    unfold Does
    rw [if_pos (by simp [Region.wanted]), hexec w' (by
      have := run_copy (t0 := t0) (t1 := t1) (ty := ty) (el := el) (s2 := s2) (w := w) (w' := w') (P := P) hsub2 (ad := (if c = i then some (⟨b, 0, none⟩ : Addr) else (some (⟨b, 0, none⟩ : Addr)).map (·.add (i * sz)))) (m := j - i) (c := c - i) (by rw [hne]; exact hst)
      rw [hne] at this
      exact this)]
    simp only [Nat.add_zero, hZ] at h2
    refine ⟨blk b (cs.take (i * sz) ++ (ys.take n').flatMap enc ++ cs.drop (i * sz + n' * sz)) T :: o1, ⟨_, rfl, ?_, rfl⟩, Sep.swap hs1 ?_ ?_ ?_ rfl h4⟩
    · have hlen' : (xs.take i ++ ys.take n' ++ xs.drop (i + n')).length = xs.length := by
        simp only [List.length_append, List.length_take, List.length_drop]; omega
      refine ⟨henc, ⟨by rw [hlen']; exact hm.1, fun y hy cc hcc => ?_⟩, .inr ⟨b, c, _, by rw [hlen'], rfl, by rw [hlen']; exact hle, ?_, ?_⟩⟩
      · rcases List.mem_append.1 hy with hy | hy
        · rcases List.mem_append.1 hy with hy | hy
          · exact hm.2 y (List.mem_of_mem_take hy) cc hcc
          · exact hm2.2 y (List.mem_of_mem_take hy) cc hcc
        · exact hm.2 y (List.mem_of_mem_drop hy) cc hcc
      · simp only [List.length_append, List.length_take, List.length_drop, hZ]; omega
      · rw [hlen']
        rw [List.flatMap_append, List.flatMap_append, flat_take henc xs, flat_drop henc xs, ← ht, Nat.add_mul]
        rw [List.take_append, List.take_append]
        simp only [List.length_append, List.length_take, hZ]
        rw [List.take_of_length_le (l := cs.take (i * sz)) (by rw [List.length_take]; omega), List.take_of_length_le (l := (ys.take n').flatMap enc) (by rw [hZ]; omega)]
        congr 1
        · congr 1
          rw [List.take_take, Nat.min_eq_left (by omega)]
        · rw [List.drop_take]
          congr 1
          omega
    · exact fun x hx => none_blk (blk_none hx)
    · intro x ob hb
      obtain ⟨rfl, rfl⟩ := sing_some hb
      exact h2
    · exact fun x hx => h3 x (blk_none hx)
theorem Stp.copyC {t0 t1 el T : TypeId} [u : Und P t0 (.slice el)] [z : TySize P el sz] {x y : Operand} {vd v2 : Value} {h2 : PHeap} {ys : List α} {i j : Nat} {o1 : List PHeap} (hx : ev e x = some vd) (hd : vd = cutv v sz i j) (hy : ev e y = some v2)
    [s : OArr v enc sz T h xs] [tk : Take h o o1] [s2 : Arr v2 enc sz h2 ys] [m : InM h2 o r] (hij : i ≤ j) (hi : j ≤ xs.length) :
    Stp P ops ⟨d, .call ⟨.builtin .copy, #[x, y], #[t0, t1]⟩, ty, pos, aft, none⟩ e o r (fun v' o2 => ∃ h', v' = .int .i64 ((min ys.length (j - i) : Nat) : Int) ∧ OArr v enc sz T h' (splice xs (ys.take (j - i)) i) ∧ o2 = h' :: o1) := fun D a w he hs =>
  (Stp0.copyC (tk := tk.more D) (m := m.more D) hx hd hy hij hi a w he hs).mono fun v w' ⟨o2, ⟨h', h1, h2, h3⟩, hs'⟩ => ⟨o2, ⟨h' :: o1, ⟨h', h1, h2, rfl⟩, by rw [h3]; exact List.Perm.swap _ _ _⟩, hs'⟩
end
section
variable {c : Cx} {ops : Array Oper} {rest : List Oper} {k : List Item} {e : Env} {o r : List PHeap} {d : Nat} {ty : TypeId} {pos : String} {aft : Array Edge}
variable {α : Type} {enc : α → List Value} {sz : Nat} {h : PHeap} {xs : List α} {v : Value}
theorem XO.copyC {t0 t1 el T : TypeId} [u : Und c.P t0 (.slice el)] [z : TySize c.P el sz] {x y : Operand} {vd v2 : Value} {h2 : PHeap} {ys : List α} {i j : Nat} {o1 : List PHeap} (hx : ev e x = some vd) (hd : vd = cutv v sz i j) (hy : ev e y = some v2)
    [s : OArr v enc sz T h xs] [tk : Take h o o1] [s2 : Arr v2 enc sz h2 ys] [m : InM h2 o (c.B :: r)] (hij : i ≤ j) (hi : j ≤ xs.length)
    (hn : ∀ h', OArr v enc sz T h' (splice xs (ys.take (j - i)) i) → XO c ops rest k ((d, some (.int .i64 ((min ys.length (j - i) : Nat) : Int))) :: e) (h' :: o1) r) :
    XO c ops (⟨some d, .call ⟨.builtin .copy, #[x, y], #[t0, t1]⟩, ty, pos, aft, none⟩ :: rest) k e o r :=
  XO.s (Stp.copyC hx hd hy hij hi) fun v' o2 ⟨h', h1, h2, h3⟩ => by subst h1 h3; exact hn h' h2
variable {fl : List Nat} {f : List PHeap} {i0 : Nat} {bb : Bool} {tt uu : Plan}
theorem XT.copyC {t0 t1 el T : TypeId} [u : Und c.P t0 (.slice el)] [z : TySize c.P el sz] {x y : Operand} {vd v2 : Value} {h2 : PHeap} {ys : List α} {i j : Nat} {o1 : List PHeap}
    (hi0 : ops[i0]? = some ⟨some d, .call ⟨.builtin .copy, #[x, y], #[t0, t1]⟩, ty, pos, aft, none⟩) (hok : okOper c.N ⟨some d, .call ⟨.builtin .copy, #[x, y], #[t0, t1]⟩, ty, pos, aft, none⟩ = true)
    (hx : ev e x = some vd) (hd : vd = cutv v sz i j) (hy : ev e y = some v2)
    [s : OArr v enc sz T h xs] [tk : Take h o o1] [s2 : Arr v2 enc sz h2 ys] [m : InM h2 o (c.B :: r)] (hij : i ≤ j) (hi : j ≤ xs.length)
    (hn : ∀ h', OArr v enc sz T h' (splice xs (ys.take (j - i)) i) → Keeps bb f (h' :: o1) ∧ XT c ops fl f k r tt ((d, some (.int .i64 ((min ys.length (j - i) : Nat) : Int))) :: e) (h' :: o1)) (hu : XT c ops fl f k r uu e o) :
    XT c ops fl f k r (.br i0 bb tt uu) e o :=
  XT.s hi0 hok (Stp.copyC hx hd hy hij hi) (fun v' o2 ⟨h', h1, h2, h3⟩ => by subst h1 h3; exact hn h' h2) hu
end
end Go.X

/- Slices of 16-bit numbers. No condition. -/
set_option linter.unusedSimpArgs false
set_option linter.unusedVariables false
namespace Go.X
open Go.ChangeShapes Go.WideShapes Go.Deep
def encU16 (n : UInt16) : List Value := [.int .u16 n.toNat]
section
variable {H : Type} {enc : TypeId × Value → H} {P : Program} {W : World} {base : Nat} {v : Value} {d : DataW H} {ps : List MemPlace}
theorem arr_u16s {held : Bool} {t e : TypeId} {fuel : Nat} {cs : List Value} {x : DataW H × List MemPlace} (ht : P.underlying t = some (.slice e)) (he : P.underlying e = some (.int .u16)) (hc : P.cellsOf e = 1)
    (h : DataW.trod enc P W 0 (fun _ => true) held fuel t cs = some x) (hw : ∀ elems spare, x.1 = .slice elems spare → elems.length + spare.length ≤ 140737488355328) : ∃ v xs, cs = [v] ∧ Arr v encU16 1 (heapOf W) xs := by
  rcases open_ints ht he hc h with ⟨rfl, _⟩ | ⟨a, len, cap, zs, rfl, _, hl, hm, hz, hx, hcell, hwz⟩
  · exact ⟨_, [], rfl, Arr.nil (fun _ => rfl)⟩
  · have hz' : zs.length = cap := by simpa using hz
    have hb : len ≤ 140737488355328 := by
      have := hw _ _ (by rw [hx])
      simp [lits] at this
      omega
    refine ⟨_, (zs.take len).map fun n => UInt16.ofNat n.toNat, rfl, arr_one (fun x => ⟨_, rfl, rfl⟩) (by simp; omega) hl hb fun i hi u hu => ?_⟩
    have hi2 : i < zs.length := by simp at hi; omega
    rw [hcell i hi2]
    simp only [encU16, List.cons.injEq, and_true] at hu
    rw [← hu]
    have hb := range_u16 hwz i
    have e : zs[i]?.getD 0 = zs[i] := by simp [hi2]
    rw [e] at hb
    simp only [List.getElem_map, List.getElem_take, List.getD_eq_getElem?_getD, e, UInt16.toNat_ofNat']
    congr 2
    omega
theorem open_u16s {t e : TypeId} (ht : P.underlying t = some (.slice e)) (he : P.underlying e = some (.int .u16)) (hc : P.cellsOf e = 1) (hb : 0 < P.bytesOf e) (hv : Value.okWide P W .any base t v)
    (h : DataW.Trod enc P W 0 (fun _ => true) true t v d ps) (hw : ∀ n ∈ d.weights P t, n ≤ reachBytes) : ∃ xs : List UInt16, Arr v encU16 1 (heapOf W) xs := by
  obtain ⟨fuel, hf⟩ := h
  rw [slice_cells ht hv] at hf
  obtain ⟨v', xs, hcs, hA⟩ := arr_u16s ht he hc hf (slice_weight ht hb hw)
  simp only [List.cons.injEq, and_true] at hcs
  subst hcs
  exact ⟨xs, hA⟩
end
end Go.X

/- min of three. No condition. -/
set_option linter.unusedVariables false
namespace Go.X
section
variable {P : Program} {ops : Array Oper} {e : Env} {o r : List PHeap} {d : Option Tmp} {ty : TypeId} {pos : String} {aft : Array Edge}
theorem run_min3 {l m n : Int} {k : IntKind} {ty' : Array TypeId} {w : World} {cs : Array Bool} :
    (builtin .min ty' ty cs #[.int k l, .int k m, .int k n]).run P w = .ok (.value (.int k (min (min l m) n))) w := by
  simp only [builtin]
  refine run_val ?_
  have h1 : Builtin.min_ ty' ty #[.int k l, .int k m, .int k n] = (pure (.int k (if n < (if m < l then m else l) then n else (if m < l then m else l))) : Sem Value) := by
    simp [Builtin.min_, Builtin.min2]
  rw [h1]
  have h2 : (if n < (if m < l then m else l) then n else (if m < l then m else l)) = min (min l m) n := by omega
  rw [h2]; rfl
theorem Q.min3 {x y z : Operand} {tys : Array TypeId} {k : IntKind} {l m n : Int} (hx : ev e x = some (.int k l)) (hy : ev e y = some (.int k m)) (hz : ev e z = some (.int k n)) :
    Quiet P ops ⟨d, .call ⟨.builtin .min, #[x, y, z], tys⟩, ty, pos, aft, none⟩ e o r (.int k (Min.min (Min.min l m) n)) := .mk fun a w he _ => by
  simp only [execOp, resolve, List.map_toArray, List.map_cons, List.map_nil, ev_rel he hx, ev_rel he hy, ev_rel he hz]
  rw [bind_ok (a := _) (w1 := w) rfl]
  simp only [invoke]
  exact run_min3
end
end Go.X

/- A byte of a string. No condition. -/
set_option linter.unusedVariables false
namespace Go.X
section
variable {P : Program} {ops : Array Oper} {e : Env} {o r : List PHeap} {d : Option Tmp} {ty : TypeId} {pos : String} {aft : Array Edge}
theorem Q.indexS {t : TypeId} [u : Und P t .string] {x y : Operand} {k : IntKind} {n : Int} {s : ByteArray} {b : UInt8} (hx : ev e x = some (.string s)) (hy : ev e y = some (.int k n))
    (h0 : 0 ≤ n) (hv : s[n.toNat]? = some b) : Quiet P ops ⟨d, .index t x y, ty, pos, aft, none⟩ e o r (.int .u8 b.toNat) := .mk fun a w he _ => by
  simp only [execOp, ev_rel he hx, ev_rel he hy]
  refine run_val ?_
  unfold Instr.index
  have e1 : (asIntOf (.int k n)).run P w = .ok (k, n) w := rfl
  rw [bind_ok e1]
  simp only
  rw [bind_ok (u.pf w)]
  simp only
  rw [if_pos h0, hv]
  rfl
end
end Go.X

/- Pointers to elements, functions compared with nil. No condition. -/
set_option linter.unusedVariables false
namespace Go.X
section
variable {α : Type} {P : Program} {ops : Array Oper} {e : Env} {o r : List PHeap} {d : Option Tmp} {ty : TypeId} {pos : String} {aft : Array Edge} {v : Value} {enc : α → List Value} {sz : Nat} {h : PHeap} {xs : List α}
theorem Q.nilCheckE {x : Operand} {i k : Nat} (hx : ev e x = some (pat v sz i k)) [s : Arr v enc sz h xs] (hi : i < xs.length) : Quiet P ops ⟨d, .nilCheck x, ty, pos, aft, none⟩ e o r (pat v sz i k) :=
  .mk fun a w he _ => by
    obtain ⟨b, kk, cs, T, fr, c, hv, hb, hp, hc⟩ := s.at' (i := i) hi
    have hx' := ev_rel he hx
    rw [hp] at hx' ⊢
    simp only [execOp, hx']; rfl
theorem run_neqFn {t : TypeId} {a : Bool} {x y : Value} {q : Array TypeId} {q2 : Array TypeId} {q3 : Bool} [u : Und P t (.func q q2 q3)] (hxy : (x = .nilFunc ∧ y = .nilFunc ∧ a = true) ∨ ((∃ f vs us, x = .func f vs us) ∧ y = .nilFunc ∧ a = false)) (w : World) :
    (Op.equal t x y).run P w = .ok a w := by
  unfold Op.equal Op.maxDepth
  unfold Op.equalIn
  rw [bind_ok (u.pf w)]
  rcases hxy with ⟨rfl, rfl, rfl⟩ | ⟨⟨f, vs, us, rfl⟩, rfl, rfl⟩ <;> rfl
theorem Q.neqNilF {t t' : TypeId} {q : Array TypeId} {q2 : Array TypeId} {q3 : Bool} [u : Und P t (.func q q2 q3)] {x : Operand} {f : Fn} {vs us : Array Value} (hx : ev e x = some (.func f vs us)) :
    Quiet P ops ⟨d, .binOp .neq t x (.const .nilFunc) t', ty, pos, aft, none⟩ e o r (.bool true) :=
  .mk fun a w he _ => by
    have e1 : evA a (.const .nilFunc) = .nilFunc := rfl
    simp only [execOp, ev_rel he hx, e1]
    refine run_val ?_
    have h1 : (eqGuard .neq t x (.const .nilFunc) (.func f vs us) .nilFunc).run P w = .ok () w := rfl
    rw [bind_ok h1]
    unfold binOp
    simp only
    rw [bind_ok (run_neqFn (a := false) (.inr ⟨⟨_, _, _, rfl⟩, rfl, rfl⟩) w)]
    rfl
theorem Q.neqNilN {t t' : TypeId} {q : Array TypeId} {q2 : Array TypeId} {q3 : Bool} [u : Und P t (.func q q2 q3)] {x : Operand} (hx : ev e x = some .nilFunc) :
    Quiet P ops ⟨d, .binOp .neq t x (.const .nilFunc) t', ty, pos, aft, none⟩ e o r (.bool false) :=
  .mk fun a w he _ => by
    have e1 : evA a (.const .nilFunc) = .nilFunc := rfl
    simp only [execOp, ev_rel he hx, e1]
    refine run_val ?_
    have h1 : (eqGuard .neq t x (.const .nilFunc) .nilFunc .nilFunc).run P w = .ok () w := rfl
    rw [bind_ok h1]
    unfold binOp
    simp only
    rw [bind_ok (run_neqFn (a := true) (.inl ⟨rfl, rfl, rfl⟩) w)]
    rfl
end
end Go.X

/- Maps. No condition. -/
set_option linter.unusedSimpArgs false
set_option linter.unusedVariables false
namespace Go.X
section
variable {κ : Type}
def entsK (enc : κ → Value) : Nat → List (κ × Value) → List MapEntry
  | _, [] => []
  | i, (k, v) :: r => { key := enc k, val := v, born := i } :: entsK enc (i + 1) r
def look [DecidableEq κ] (x : κ) : List (κ × Value) → Nat → Option (Nat × Value)
  | [], _ => none
  | (k, v) :: r, i => if x = k then some (i, v) else look x r (i + 1)
/-- What a map has at a key. -/
def getM [DecidableEq κ] (x : κ) : List (κ × Value) → Option Value
  | [] => none
  | (k, v) :: r => if x = k then some v else getM x r
def putM [DecidableEq κ] (x : κ) (u : Value) : List (κ × Value) → List (κ × Value)
  | [] => [(x, u)]
  | (k, v) :: r => if x = k then (x, u) :: r else (k, v) :: putM x u r
theorem look_get [DecidableEq κ] (x : κ) : ∀ (es : List (κ × Value)) (i : Nat), (look x es i).map Prod.snd = getM x es
  | [], _ => rfl
  | (k, v) :: r, i => by
    rw [look, getM]
    split
    · rfl
    · exact look_get x r (i + 1)
theorem look_none [DecidableEq κ] {x : κ} : ∀ {es : List (κ × Value)} {i : Nat} (u : Value), look x es i = none → putM x u es = es ++ [(x, u)]
  | [], _, _, _ => rfl
  | (k, v) :: r, i, u, h => by
    rw [look] at h
    split at h
    · cases h
    · rename_i hk
      rw [putM, if_neg hk, look_none u h, List.cons_append]
theorem look_some [DecidableEq κ] {x : κ} {enc : κ → Value} {u : Value} : ∀ {es : List (κ × Value)} {i b n : Nat} {v : Value}, look x es i = some (n, v) →
    ∃ j, n = i + j ∧ j < es.length ∧ ((entsK enc b es)[j]?).map (·.key) = some (enc x) ∧ (entsK enc b es).modify j (fun e => { e with key := enc x, val := u }) = entsK enc b (putM x u es) ∧ (putM x u es).length = es.length
  | [], _, _, _, _, h => by cases h
  | (k, v') :: r, i, b, n, v, h => by
    rw [look] at h
    split at h
    · rename_i hk
      simp only [Option.some.injEq, Prod.mk.injEq] at h
      subst hk
      refine ⟨0, by omega, by simp, rfl, ?_, by rw [putM, if_pos rfl]; rfl⟩
      rw [putM, if_pos rfl]
      rfl
    · rename_i hk
      obtain ⟨j, h1, h2, h3, h4, h5⟩ := look_some (enc := enc) (u := u) (b := b + 1) h
      refine ⟨j + 1, by omega, by simp; omega, by simpa [entsK] using h3, ?_, by rw [putM, if_neg hk]; simp [h5]⟩
      rw [putM, if_neg hk, entsK, entsK, List.modify_succ_cons, h4]
theorem entsK_len (enc : κ → Value) : ∀ (es : List (κ × Value)) (i : Nat), (entsK enc i es).length = es.length
  | [], _ => rfl
  | (k, v) :: r, i => by rw [entsK, List.length_cons, entsK_len enc r, List.length_cons]
theorem entsK_snoc (enc : κ → Value) (x : κ) (u : Value) : ∀ (es : List (κ × Value)) (i : Nat), entsK enc i (es ++ [(x, u)]) = entsK enc i es ++ [{ key := enc x, val := u, born := i + es.length }]
  | [], i => by simp [entsK]
  | (k, v) :: r, i => by
    rw [List.cons_append, entsK, entsK_snoc enc x u r, entsK, List.cons_append, List.length_cons, show i + 1 + r.length = i + (r.length + 1) by omega]
def mapO (enc : κ → Value) (es : List (κ × Value)) : Obj := .map (entsK enc 0 es).toArray es.length
def mapH (b : Nat) (enc : κ → Value) (es : List (κ × Value)) : PHeap := sing b (mapO enc es)
class KeyT [DecidableEq κ] (P : Program) (t : TypeId) (enc : κ → Value) : Prop where
  chk : ∀ (b : Bool) x w, (Instr.checkKey b 10000 t (enc x)).run P w = .ok () w
  fnd : ∀ x (es : List (κ × Value)) i w, (Instr.findKey t (enc x) (entsK enc i es)).run P w = .ok (look x es 0) w
  same : ∀ x, Instr.sameBits 10000 (enc x) (enc x) = true
end
/-! ### keys -/
def encK1 (x : Int) : Value := .int .i64 x
def encK2 (x : Int × Int) : Value := .agg #[.int .i64 x.1, .int .i64 x.2]
theorem findNow_int {x : Int} : ∀ (es : List (Int × Value)) (b i : Nat), Instr.findNow (.int .i64) (encK1 x) (entsK encK1 b es) i = some (look x es i)
  | [], _, _ => rfl
  | (k, v) :: r, b, i => by
    rw [entsK, Instr.findNow, look]
    simp only [encK1, Instr.sameNow, if_true]
    by_cases h : x = k
    · subst h
      simp
    · rw [if_neg h]
      have : (x == k) = false := by simp [h]
      simp only [this]
      exact findNow_int r (b + 1) (i + 1)
theorem KeyT.int {P : Program} {t : TypeId} (u : P.underlying t = some (.int .i64)) : KeyT P t encK1 where
  chk b x w := MapKept.run_checkKey u (by simp [encK1, MapKept.IsKey]) b 9999
  fnd x es i w := MapKept.run_findKey u (findNow_int es i 0)
  same x := by simp [encK1, Instr.sameBits]
section
variable {P : Program} {t el : TypeId} {ki : IntKind}
theorem for2 {β : Type} {f : Nat → β → Sem (ForInStep β)} {b0 b1 b2 : β} {w : World} (h0 : (f 0 b0).run P w = .ok (.yield b1) w) (h1 : (f 1 b1).run P w = .ok (.yield b2) w) : (forIn (m := Sem) [0, 1] b0 f).run P w = .ok b2 w := by
  rw [List.forIn_cons, bind_ok h0]
  simp only
  rw [List.forIn_cons, bind_ok h1]
  simp only
  rfl
theorem for2a {β : Type} {f : Nat → β → Sem (ForInStep β)} {b0 b1 : β} {w : World} (h0 : (f 0 b0).run P w = .ok (.done b1) w) : (forIn (m := Sem) [0, 1] b0 f).run P w = .ok b1 w := by
  rw [List.forIn_cons, bind_ok h0]
  rfl
theorem for2b {β : Type} {f : Nat → β → Sem (ForInStep β)} {b0 b1 b2 : β} {w : World} (h0 : (f 0 b0).run P w = .ok (.yield b1) w) (h1 : (f 1 b1).run P w = .ok (.done b2) w) : (forIn (m := Sem) [0, 1] b0 f).run P w = .ok b2 w := by
  rw [List.forIn_cons, bind_ok h0]
  simp only
  rw [List.forIn_cons, bind_ok h1]
  rfl
theorem run_eqPair (u : Und P t (.array 2 el)) (ht : IsAgg P el false) (s : TySize P el 1) (ui : Und P el (.int ki)) (x y : Int × Int) (d : Nat) (w : World) :
    (Op.equalIn (d + 2) t (encK2 x) (encK2 y)).run P w = .ok (decide (x = y)) w := by
  unfold Op.equalIn encK2
  rw [bind_ok (u.pf w)]
  simp only
  rw [bind_ok (s.pf w)]
  simp only [Std.Legacy.Range.forIn_eq_forIn_range', Std.Legacy.Range.size, Nat.sub_zero, Nat.add_one_sub_one, Nat.div_one]
  obtain ⟨x1, x2⟩ := x
  obtain ⟨y1, y2⟩ := y
  show ((forIn (m := Sem) [0, 1] _ _) >>= _).run P w = _
  have p0 : ∀ (a b : Int), (part el #[Value.int .i64 a, .int .i64 b] (0 * 1)).run P w = .ok (.int .i64 a) w := fun a b => run_part (ht := ht) rfl w
  have p1 : ∀ (a b : Int), (part el #[Value.int .i64 a, .int .i64 b] (1 * 1)).run P w = .ok (.int .i64 b) w := fun a b => run_part (ht := ht) rfl w
  by_cases h1 : x1 = y1
  · subst h1
    by_cases h2 : x2 = y2
    · subst h2
      rw [bind_ok (a := (none, ())) (w1 := w) (for2 (b1 := (none, ())) ?_ ?_)]
      · simp only [decide_true]; rfl
      · rw [bind_ok (p0 _ _), bind_ok (p0 _ _), bind_ok (run_eqInt (u := ui) w)]
        simp only [beq_self_eq_true, Bool.not_true, Bool.false_eq_true, if_false]; rfl
      · rw [bind_ok (p1 _ _), bind_ok (p1 _ _), bind_ok (run_eqInt (u := ui) w)]
        simp only [beq_self_eq_true, Bool.not_true, Bool.false_eq_true, if_false]; rfl
    · rw [bind_ok (a := (some false, ())) (w1 := w) (for2b (b1 := (none, ())) ?_ ?_)]
      · simp only [Prod.mk.injEq, h2, and_false, decide_false]; rfl
      · rw [bind_ok (p0 _ _), bind_ok (p0 _ _), bind_ok (run_eqInt (u := ui) w)]
        simp only [beq_self_eq_true, Bool.not_true, Bool.false_eq_true, if_false]; rfl
      · rw [bind_ok (p1 _ _), bind_ok (p1 _ _), bind_ok (run_eqInt (u := ui) w)]
        have : (x2 == y2) = false := by simp [h2]
        simp only [this, Bool.not_false, if_true]; rfl
  · rw [bind_ok (a := (some false, ())) (w1 := w) (for2a ?_)]
    · simp only [Prod.mk.injEq, h1, false_and, decide_false]; rfl
    · rw [bind_ok (p0 _ _), bind_ok (p0 _ _), bind_ok (run_eqInt (u := ui) w)]
      have : (x1 == y1) = false := by simp [h1]
      simp only [this, Bool.not_false, if_true]; rfl
theorem run_chkPair (u : Und P t (.array 2 el)) (ht : IsAgg P el false) (s : TySize P el 1) (ui : Und P el (.int ki)) (x : Int × Int) (b : Bool) (d : Nat) (w : World) :
    (Instr.checkKey b (d + 2) t (encK2 x)).run P w = .ok () w := by
  have ci : ∀ m : Int, (Instr.checkKey b (d + 1) el (.int .i64 m)).run P w = .ok () w := fun m => by
    unfold Instr.checkKey
    rw [bind_ok (ui.pf w)]
    rfl
  unfold Instr.checkKey encK2
  rw [bind_ok (u.pf w)]
  simp only [Std.Legacy.Range.forIn_eq_forIn_range', Std.Legacy.Range.size, Nat.sub_zero, Nat.add_one_sub_one, Nat.div_one]
  obtain ⟨x1, x2⟩ := x
  have p0 : ∀ (a b : Int), (part el #[Value.int .i64 a, .int .i64 b] (0 * 1)).run P w = .ok (.int .i64 a) w := fun a b => run_part (ht := ht) rfl w
  have p1 : ∀ (a b : Int), (part el #[Value.int .i64 a, .int .i64 b] (1 * 1)).run P w = .ok (.int .i64 b) w := fun a b => run_part (ht := ht) rfl w
  show ((forIn (m := Sem) [0, 1] _ _) >>= _).run P w = _
  rw [bind_ok (a := PUnit.unit) (w1 := w) (for2 (b1 := PUnit.unit) ?_ ?_)]
  · rfl
  · rw [bind_ok (s.pf w), bind_ok (p0 _ _), bind_ok (ci _)]; rfl
  · rw [bind_ok (s.pf w), bind_ok (p1 _ _), bind_ok (ci _)]; rfl
theorem ask_pair (u : Und P t (.array 2 el)) (ht : IsAgg P el false) (s : TySize P el 1) (ui : Und P el (.int ki)) (x : Int × Int) (w : World) : ∀ (es : List ((Int × Int) × Value)) (b i : Nat),
    (Instr.findAsking t (encK2 x) (entsK encK2 b es) i).run P w = .ok (look x es i) w
  | [], _, _ => rfl
  | (k, v) :: r, b, i => by
    rw [entsK, Instr.findAsking, look]
    have he : (Op.equal t (encK2 x) (encK2 k)).run P w = .ok (decide (x = k)) w := run_eqPair (d := 9998) u ht s ui x k w
    dsimp only
    rw [bind_ok he]
    by_cases h : x = k
    · rw [if_pos h, if_pos (by simpa using h)]; rfl
    · rw [if_neg h, if_neg (by simpa using h)]
      exact ask_pair u ht s ui x w r (b + 1) (i + 1)
theorem KeyT.pair (hu : P.underlying t = some (.array 2 el)) (u : Und P t (.array 2 el)) (ht : IsAgg P el false) (s : TySize P el 1) (ui : Und P el (.int ki)) : KeyT P t encK2 where
  chk b x w := run_chkPair u ht s ui x b 9998 w
  fnd x es i w := by
    refine (run_findKey_eq (P := P) w (k := t) (by rw [hu]) (encK2 x) (entsK encK2 i es)).trans ?_
    exact ask_pair u ht s ui x w es i 0
  same x := by simp [encK2, Instr.sameBits]
end
/-! ### operations -/
section
variable {P : Program} {ops : Array Oper} {e : Env} {o r : List PHeap} {d : Option Tmp} {ty : TypeId} {pos : String} {aft : Array Edge} {κ : Type} {enc : κ → Value}
theorem Makes.map {t : TypeId} : Makes P ops ⟨d, .makeMap t none, ty, pos, aft, none⟩ e (mapO enc []) (fun b => .map (some b)) := fun a w _ => by
  refine ⟨rfl, ?_⟩
  simp only [execOp]
  refine run_val ?_
  rfl
class HasM (b : Nat) (o r : List PHeap) {κ : outParam Type} (enc : outParam (κ → Value)) (es : outParam (List (κ × Value))) : Prop where
  pf : InM (mapH b enc es) o r
instance (priority := high) HasM.head {b : Nat} {es : List (κ × Value)} {o r : List PHeap} : HasM b (mapH b enc es :: o) r enc es := ⟨⟨.inl List.mem_cons_self⟩⟩
instance HasM.tail {b : Nat} {κ' : Type} {enc' : κ' → Value} {es : List (κ' × Value)} {g : PHeap} {o r : List PHeap} [t : HasM b o r enc' es] : HasM b (g :: o) r enc' es := ⟨⟨orMap t.pf.pf (List.mem_cons_of_mem _) id⟩⟩
instance (priority := low) HasM.readH {b : Nat} {es : List (κ × Value)} {r : List PHeap} : HasM b [] (mapH b enc es :: r) enc es := ⟨⟨.inr List.mem_cons_self⟩⟩
instance (priority := low) HasM.readT {b : Nat} {κ' : Type} {enc' : κ' → Value} {es : List (κ' × Value)} {g : PHeap} {r : List PHeap} [t : HasM b [] r enc' es] : HasM b [] (g :: r) enc' es := ⟨⟨.inr (List.mem_cons_of_mem _ (t.pf.pf.resolve_left (fun h => by cases h)))⟩⟩
theorem HasM.heap {b : Nat} {es : List (κ × Value)} (h : HasM b o r enc es) {w : World} (hr : Rd o r w) : w.heap[b]? = some (mapO enc es) := by
  rcases h.pf.pf with h1 | h1
  · exact hr.1 _ h1 b _ (sing_self _ _)
  · exact hr.2 _ h1 b _ (sing_self _ _)
theorem run_lookup [DecidableEq κ] {t kt et : TypeId} (u : Und P t (.map kt et)) [k : KeyT P kt enc] {z : Value} (hz : ∀ w, (zeroValue et).run P w = .ok z w) {b : Nat} {es : List (κ × Value)} {w : World} (hb : w.heap[b]? = some (mapO enc es)) (x : κ) (c : Bool) :
    (Instr.lookup t (.map (some b)) (enc x) c).run P w = .ok (if c = true then .tuple #[(getM x es).getD z, .bool (getM x es).isSome] else (getM x es).getD z) w := by
  unfold Instr.lookup
  rw [bind_ok (u.pf w)]
  simp only
  have e1 : (getObj b).run P w = .ok (.map (entsK enc 0 es).toArray es.length) w := MapKept.run_getObj_map hb
  rw [bind_ok e1]
  simp only
  rw [bind_ok (a := (entsK enc 0 es).toArray) (w1 := w) rfl]
  rw [bind_ok (k.chk _ x w)]
  have hf := k.fnd x es 0 w
  have hg := look_get x es 0
  rw [bind_ok hf]
  cases hl : look x es 0 with
  | none =>
    rw [hl] at hg
    have hg : none = getM x es := hg
    simp only
    rw [bind_ok (hz w), bind_ok (a := (z, false)) (w1 := w) rfl, ← hg]
    cases c <;> rfl
  | some p =>
    obtain ⟨i, v⟩ := p
    rw [hl] at hg
    have hg : some v = getM x es := hg
    simp only
    rw [bind_ok (a := (v, true)) (w1 := w) rfl, ← hg]
    cases c <;> rfl
theorem Q.lookup [DecidableEq κ] {t kt et : TypeId} [u : Und P t (.map kt et)] [k : KeyT P kt enc] (z : Value) (hz : ∀ w, (zeroValue et).run P w = .ok z w) {b : Nat} {es : List (κ × Value)} {m i : Operand} (x : κ) (hm : ev e m = some (.map (some b))) (hi : ev e i = some (enc x)) [h : HasM b o r enc es] :
    Quiet P ops ⟨d, .lookup t m i false, ty, pos, aft, none⟩ e o r ((getM x es).getD z) := .mk fun a w he hr => by
  simp only [execOp, ev_rel he hm, ev_rel he hi]
  exact run_val (run_lookup (k := k) u hz (h.heap hr) x false)
theorem Q.lookup2 [DecidableEq κ] {t kt et : TypeId} [u : Und P t (.map kt et)] [k : KeyT P kt enc] (z : Value) (hz : ∀ w, (zeroValue et).run P w = .ok z w) {b : Nat} {es : List (κ × Value)} {m i : Operand} (x : κ) (hm : ev e m = some (.map (some b))) (hi : ev e i = some (enc x)) [h : HasM b o r enc es] :
    Quiet P ops ⟨d, .lookup t m i true, ty, pos, aft, none⟩ e o r (.tuple #[(getM x es).getD z, .bool (getM x es).isSome]) := .mk fun a w he hr => by
  simp only [execOp, ev_rel he hm, ev_rel he hi]
  exact run_val (run_lookup (k := k) u hz (h.heap hr) x true)
class TakeM (b : Nat) (o : List PHeap) {κ : outParam Type} (enc : outParam (κ → Value)) (es : outParam (List (κ × Value))) (o1 : outParam (List PHeap)) : Prop where
  pf : o.Perm (mapH b enc es :: o1)
instance (priority := high) TakeM.head {b : Nat} {es : List (κ × Value)} {o : List PHeap} : TakeM b (mapH b enc es :: o) enc es o := ⟨List.Perm.refl _⟩
instance TakeM.tail {b : Nat} {κ' : Type} {enc' : κ' → Value} {es : List (κ' × Value)} {g : PHeap} {o o1 : List PHeap} [t : TakeM b o enc' es o1] : TakeM b (g :: o) enc' es (g :: o1) := ⟨(t.pf.cons g).trans (List.Perm.swap _ _ _)⟩
theorem run_mapUpdate [DecidableEq κ] {t kt et : TypeId} (u : Und P t (.map kt et)) [k : KeyT P kt enc] {b : Nat} {es : List (κ × Value)} {w : World} (hb : w.heap[b]? = some (mapO enc es)) (x : κ) (v : Value) :
    (Instr.mapUpdate t (.map (some b)) (enc x) v).run P w = .ok () { w with heap := w.heap.setIfInBounds b (mapO enc (putM x v es)) } := by
  unfold Instr.mapUpdate
  rw [bind_ok (u.pf w)]
  simp only
  have e1 : (getObj b).run P w = .ok (.map (entsK enc 0 es).toArray es.length) w := MapKept.run_getObj_map hb
  rw [bind_ok e1]
  simp only
  rw [bind_ok (k.chk _ x w)]
  have hf := k.fnd x es 0 w
  rw [bind_ok hf]
  cases hl : look x es 0 with
  | none =>
    simp only
    rw [MapKept.run_setObj_map _ hb]
    simp only [List.push_toArray, mapO, look_none v hl, entsK_snoc, List.length_append, List.length_cons, List.length_nil, Nat.zero_add]
  | some p =>
    obtain ⟨i, v'⟩ := p
    obtain ⟨j, h1, h2, h3, h4, h5⟩ := look_some (enc := enc) (u := v) (b := 0) hl
    obtain rfl : i = j := by omega
    simp only
    have hks : (Instr.keyThatStays ((((entsK enc 0 es).toArray[i]?).map (·.key)).getD (enc x)) (enc x)).run P w = .ok (enc x) w := by
      rw [List.getElem?_toArray, h3]
      unfold Instr.keyThatStays
      rw [Option.getD_some, if_pos (k.same x)]
      rfl
    rw [bind_ok hks, MapKept.run_setObj_map _ hb]
    simp only [List.modify_toArray, h4, mapO, h5]
theorem mapH_none {b x : Nat} {es : List (κ × Value)} (h : mapH b enc es x = none) : x ≠ b := by
  rintro rfl
  simp [mapH, sing] at h
theorem none_mapH {b x : Nat} {es : List (κ × Value)} (h : x ≠ b) : mapH b enc es x = none := by simp [mapH, sing, h]
theorem Stp0.mapUpdate [DecidableEq κ] {t kt et : TypeId} [u : Und P t (.map kt et)] [k : KeyT P kt enc] {b : Nat} {es : List (κ × Value)} {m i y : Operand} {v : Value} {o1 : List PHeap} (x : κ) (hm : ev e m = some (.map (some b))) (hi : ev e i = some (enc x)) (hy : ev e y = some v) [tk : TakeM b o enc es o1] :
    Stp0 P ops ⟨d, .mapUpdate t m i y, ty, pos, aft, none⟩ e o r (fun v' o2 => v' = undef ∧ o2 = mapH b enc (putM x v es) :: o1) := fun a w he hs => by
  have hs1 := hs.perm tk.pf
  have hh : w.heap[b]? = some (mapO enc es) := hs1.so _ List.mem_cons_self b _ (sing_self _ _)
  have hlt : b < w.heap.size := (Array.getElem?_eq_some_iff.1 hh).1
  unfold Does
  simp only [Region.wanted, if_true, execOp, ev_rel he hm, ev_rel he hi, ev_rel he hy, run_unit (run_mapUpdate (k := k) u hh x v)]
  refine ⟨_, ⟨trivial, rfl⟩, Sep.swap hs1 ?_ ?_ ?_ rfl rfl⟩
  · exact fun x hx => none_mapH (mapH_none hx)
  · intro x' ob hb
    obtain ⟨rfl, rfl⟩ := sing_some hb
    simp [hlt]
  · intro x' hx
    have := mapH_none hx
    simp [Ne.symm this]
theorem Stp.mapUpdate [DecidableEq κ] {t kt et : TypeId} [u : Und P t (.map kt et)] [k : KeyT P kt enc] {b : Nat} {es : List (κ × Value)} {m i y : Operand} {v : Value} {o1 : List PHeap} (x : κ) (hm : ev e m = some (.map (some b))) (hi : ev e i = some (enc x)) (hy : ev e y = some v) [tk : TakeM b o enc es o1] :
    Stp P ops ⟨d, .mapUpdate t m i y, ty, pos, aft, none⟩ e o r (fun v' o2 => v' = undef ∧ o2 = mapH b enc (putM x v es) :: o1) := fun D a w he hs =>
  (Stp0.mapUpdate (tk := ⟨(tk.pf.cons D).trans (List.Perm.swap _ _ _)⟩) x hm hi hy a w he hs).mono fun v' w' ⟨o2, ⟨h1, h2⟩, hs'⟩ => ⟨o2, ⟨mapH b enc (putM x v es) :: o1, ⟨h1, rfl⟩, by rw [h2]; exact List.Perm.swap _ _ _⟩, hs'⟩
end
section
variable {c : Cx} {ops : Array Oper} {rest : List Oper} {k : List Item} {e : Env} {o r : List PHeap} {d : Nat} {ty : TypeId} {pos : String} {aft : Array Edge} {κ : Type}
theorem XO.map {t : TypeId} (enc : κ → Value) (h : ∀ b, XO c ops rest k ((d, some (.map (some b))) :: e) (mapH b enc [] :: o) r) :
    XO c ops (⟨some d, .makeMap t none, ty, pos, aft, none⟩ :: rest) k e o r := XO.m (Makes.map (enc := enc)) h
theorem XO.mapUpdate [DecidableEq κ] {enc : κ → Value} {t kt et : TypeId} [u : Und c.P t (.map kt et)] [ky : KeyT c.P kt enc] {b : Nat} {es : List (κ × Value)} {m i y : Operand} {v : Value} {o1 : List PHeap} (x : κ) (hm : ev e m = some (.map (some b))) (hi : ev e i = some (enc x)) (hy : ev e y = some v) [tk : TakeM b o enc es o1]
    (h : XO c ops rest k e (mapH b enc (putM x v es) :: o1) r) : XO c ops (⟨none, .mapUpdate t m i y, ty, pos, aft, none⟩ :: rest) k e o r :=
  XO.s0 (Stp.mapUpdate (k := ky) (tk := tk) x hm hi hy) fun _ _ ⟨_, h2⟩ => by subst h2; exact h
variable {fl : List Nat} {f : List PHeap} {i0 : Nat} {bb : Bool} {tt uu : Plan}
theorem XT.mapUpdate [DecidableEq κ] {enc : κ → Value} {t kt et : TypeId} [u : Und c.P t (.map kt et)] [ky : KeyT c.P kt enc] {b : Nat} {es : List (κ × Value)} {m i y : Operand} {v : Value} {o1 : List PHeap} (hi0 : ops[i0]? = some ⟨none, .mapUpdate t m i y, ty, pos, aft, none⟩) (hok : okOper c.N ⟨none, .mapUpdate t m i y, ty, pos, aft, none⟩ = true)
    (x : κ) (hm : ev e m = some (.map (some b))) (hi : ev e i = some (enc x)) (hy : ev e y = some v) [tk : TakeM b o enc es o1]
    (hn : Keeps bb f (mapH b enc (putM x v es) :: o1) ∧ XT c ops fl f k r tt e (mapH b enc (putM x v es) :: o1)) (hu : XT c ops fl f k r uu e o) : XT c ops fl f k r (.br i0 bb tt uu) e o :=
  XT.s0 hi0 hok (Stp.mapUpdate (k := ky) (tk := tk) x hm hi hy) (fun _ _ ⟨_, h2⟩ => by subst h2; exact hn) hu
end
end Go.X

/- Exclusive or; pairs of numbers compared. No condition. -/
set_option linter.unusedSimpArgs false
set_option linter.unusedVariables false
namespace Go.X
def xorI (k : IntKind) (m n : Int) : Int := k.wrap ((BitVec.ofInt k.bits m ^^^ BitVec.ofInt k.bits n).toNat : Int)
def u64 (n : Int) : Int := IntKind.wrap .u64 n
instance One.map {m : Option Nat} : One (.map m) := ⟨rfl, rfl⟩
def encP (x : Int × Int) : List Value := [.int .i64 x.1, .int .i64 x.2]
section
variable {P : Program} {ops : Array Oper} {e : Env} {o r : List PHeap} {d : Option Tmp} {ty : TypeId} {pos : String} {aft : Array Edge}
theorem Q.xorW {t t2 : TypeId} {x y : Operand} {k : IntKind} {m n : Int} (hx : ev e x = some (.int k m)) (hy : ev e y = some (.int k n)) :
    Quiet P ops ⟨d, .binOp .xor t x y t2, ty, pos, aft, none⟩ e o r (.int k (xorI k m n)) := Q.bin hx hy fun w => by
  have e1 : binOp .xor t (.int k m) (.int k n) = Op.intBits .xor k m n := by simp [binOp]
  rw [e1]
  rfl
theorem Q.eqlP {t t2 el : TypeId} {ki : IntKind} {x y : Operand} {a1 a2 b1 b2 : Int} (hx : ev e x = some (.agg #[.int .i64 a1, .int .i64 a2])) (hy : ev e y = some (.agg #[.int .i64 b1, .int .i64 b2])) (u : Und P t (.array 2 el)) (ht : IsAgg P el false) (s : TySize P el 1) (ui : Und P el (.int ki)) (hg : P.eqGuardType P.depth t = false) :
    Quiet P ops ⟨d, .binOp .eql t x y t2, ty, pos, aft, none⟩ e o r (.bool (decide ((a1, a2) = (b1, b2)))) := .mk fun s' w he _ => by
  simp only [execOp, ev_rel he hx, ev_rel he hy]
  refine run_val ?_
  rw [bind_ok (run_guardAgg hg (.inl rfl) w)]
  unfold binOp
  simp only
  have h1 : (Op.equal t (.agg #[.int .i64 a1, .int .i64 a2]) (.agg #[.int .i64 b1, .int .i64 b2])).run P w = .ok (decide ((a1, a2) = (b1, b2))) w := run_eqPair (d := 9998) u ht s ui (a1, a2) (b1, b2) w
  rw [bind_ok h1]
  rfl
theorem Q.neqP {t t2 el : TypeId} {ki : IntKind} {x y : Operand} {a1 a2 b1 b2 : Int} (hx : ev e x = some (.agg #[.int .i64 a1, .int .i64 a2])) (hy : ev e y = some (.agg #[.int .i64 b1, .int .i64 b2])) (u : Und P t (.array 2 el)) (ht : IsAgg P el false) (s : TySize P el 1) (ui : Und P el (.int ki)) (hg : P.eqGuardType P.depth t = false) :
    Quiet P ops ⟨d, .binOp .neq t x y t2, ty, pos, aft, none⟩ e o r (.bool (!decide ((a1, a2) = (b1, b2)))) := .mk fun s' w he _ => by
  simp only [execOp, ev_rel he hx, ev_rel he hy]
  refine run_val ?_
  rw [bind_ok (run_guardAgg hg (.inr rfl) w)]
  unfold binOp
  simp only
  have h1 : (Op.equal t (.agg #[.int .i64 a1, .int .i64 a2]) (.agg #[.int .i64 b1, .int .i64 b2])).run P w = .ok (decide ((a1, a2) = (b1, b2))) w := run_eqPair (d := 9998) u ht s ui (a1, a2) (b1, b2) w
  rw [bind_ok h1]
  rfl
end
end Go.X

/- Structs that hold structs of numbers, compared. No condition. -/
set_option linter.unusedSimpArgs false
set_option linter.unusedVariables false
namespace Go.X
/-- The fields of a struct, some of which are structs of numbers. -/
inductive EqG (P : Program) (d : Nat) (xs ys : Array Value) : List Field → Bool → Prop
  | n : EqG P d xs ys [] true
  | c {f : Field} {fs : List Field} {k k' : IntKind} {m n : Int} {r : Bool} (hn : (f.name == "_") = false) (ht : IsAgg P f.type false) (u : Und P f.type (.int k')) (hx : xs[f.offset]? = some (.int k m)) (hy : ys[f.offset]? = some (.int k n)) (hr : EqG P d xs ys fs r) : EqG P d xs ys (f :: fs) (decide (m = n) && r)
  | s {f : Field} {fs gs : List Field} {n : Nat} {us vs : Array Value} {r q : Bool} (hn : (f.name == "_") = false) (ht : IsAgg P f.type true) (z : TySize P f.type n) (u : Und P f.type (.struct gs.toArray)) (hs : P.stoodInHeld f.type = false)
      (hx : xs.extract f.offset (f.offset + n) = us) (hy : ys.extract f.offset (f.offset + n) = vs) (hq : EqF P (d + 1) us vs gs q) (hr : EqG P d xs ys fs r) : EqG P d xs ys (f :: fs) (q && r)
theorem run_partA {P : Program} {t : TypeId} {n : Nat} [ht : IsAgg P t true] [z : TySize P t n] {xs us : Array Value} {i : Nat} (h : xs.extract i (i + n) = us) (w : World) : (part t xs i).run P w = .ok (.agg us) w := by
  unfold part
  rw [bind_ok (ht.pf w)]
  simp only [if_true]
  rw [bind_ok (z.pf w), h]
  rfl
theorem eqG_loop {P : Program} {d : Nat} {xs ys : Array Value} {fs : List Field} {r : Bool} (h : EqG P d xs ys fs r) (w : World) :
    (forIn (m := Sem) fs ((none, ()) : Option Bool × Unit) fun f __s =>
                  if f.name ≠ "_" then do
                    let __do_lift ← part f.type xs f.offset
                    let __do_lift_1 ← part f.type ys f.offset
                    let __do_lift ← Op.equalIn (d + 2) f.type __do_lift __do_lift_1
                    if (!__do_lift) = true then pure (ForInStep.done (some false, ()))
                      else pure (ForInStep.yield (none, ()))
                  else pure (ForInStep.yield (none, ()))).run P w = .ok (if r = true then (none, ()) else (some false, ())) w := by
  induction h with
  | n => rfl
  | @c f fs k k' m n r hn ht u hx hy hr ih =>
    rw [List.forIn_cons, if_pos (by intro h; rw [h] at hn; simp at hn)]
    by_cases hmn : m = n
    · subst hmn
      rw [bind_ok (a := ForInStep.yield (none, ())) (w1 := w)]
      · simp only
        rw [ih]; simp
      · rw [bind_ok (run_part (ht := ht) hx w), bind_ok (run_part (ht := ht) hy w), bind_ok (run_eqInt (u := u) w)]
        simp only [beq_self_eq_true, Bool.not_true, Bool.false_eq_true, if_false]
        rfl
    · rw [bind_ok (a := ForInStep.done (some false, ())) (w1 := w)]
      · simp only [hmn, decide_false, Bool.false_and, Bool.false_eq_true, if_false]
        rfl
      · rw [bind_ok (run_part (ht := ht) hx w), bind_ok (run_part (ht := ht) hy w), bind_ok (run_eqInt (u := u) w)]
        have : (m == n) = false := by simp [hmn]
        simp only [this, Bool.not_false, if_true]
        rfl
  | @s f fs gs n us vs r q hn ht z u hs hx hy hq hr ih =>
    rw [List.forIn_cons, if_pos (by intro h; rw [h] at hn; simp at hn)]
    have he := run_eqStruct (d := d) u hs hq w
    cases q with
    | true =>
      rw [bind_ok (a := ForInStep.yield (none, ())) (w1 := w)]
      · simp only
        rw [ih]; simp
      · rw [bind_ok (run_partA (ht := ht) (z := z) hx w), bind_ok (run_partA (ht := ht) (z := z) hy w), bind_ok he]
        simp only [Bool.not_true, Bool.false_eq_true, if_false]
        rfl
    | false =>
      rw [bind_ok (a := ForInStep.done (some false, ())) (w1 := w)]
      · simp only [Bool.false_and, Bool.false_eq_true, if_false]
        rfl
      · rw [bind_ok (run_partA (ht := ht) (z := z) hx w), bind_ok (run_partA (ht := ht) (z := z) hy w), bind_ok he]
        simp only [Bool.not_false, if_true]
        rfl
theorem run_eqStructG {P : Program} {t : TypeId} {fs : List Field} (u : Und P t (.struct fs.toArray)) (hs : P.stoodInHeld t = false) {xs ys : Array Value} {d : Nat} {r : Bool} (h : EqG P d xs ys fs r) (w : World) :
    (Op.equalIn (d + 3) t (.agg xs) (.agg ys)).run P w = .ok r w := by
  unfold Op.equalIn
  rw [bind_ok (u.pf w)]
  simp only
  have hp : (program).run P w = .ok P w := rfl
  rw [bind_ok hp, if_neg (by rw [hs]; decide)]
  have hl := eqG_loop h w
  rw [bind_ok (a := (if r = true then (none, ()) else (some false, ()))) (w1 := w)]
  · cases r <;> rfl
  · simp only [List.forIn_toArray]
    exact hl
section
variable {P : Program} {ops : Array Oper} {e : Env} {o r : List PHeap} {d : Option Tmp} {ty : TypeId} {pos : String} {aft : Array Edge}
theorem Q.eqlG {t t2 : TypeId} {x y : Operand} {fs : List Field} {us vs : List Value} {b : Bool} (hx : ev e x = some (.agg us.toArray)) (hy : ev e y = some (.agg vs.toArray)) (u : Und P t (.struct fs.toArray)) (hs : P.stoodInHeld t = false) (hg : P.eqGuardType P.depth t = false)
    (h : EqG P 9997 us.toArray vs.toArray fs b) : Quiet P ops ⟨d, .binOp .eql t x y t2, ty, pos, aft, none⟩ e o r (.bool b) := .mk fun a w he _ => by
  simp only [execOp, ev_rel he hx, ev_rel he hy]
  refine run_val ?_
  rw [bind_ok (run_guardAgg hg (.inl rfl) w)]
  unfold binOp
  simp only
  have h1 : (Op.equal t (.agg us.toArray) (.agg vs.toArray)).run P w = .ok b w := run_eqStructG (d := 9997) u hs h w
  rw [bind_ok h1]
  rfl
theorem Q.neqG {t t2 : TypeId} {x y : Operand} {fs : List Field} {us vs : List Value} {b : Bool} (hx : ev e x = some (.agg us.toArray)) (hy : ev e y = some (.agg vs.toArray)) (u : Und P t (.struct fs.toArray)) (hs : P.stoodInHeld t = false) (hg : P.eqGuardType P.depth t = false)
    (h : EqG P 9997 us.toArray vs.toArray fs b) : Quiet P ops ⟨d, .binOp .neq t x y t2, ty, pos, aft, none⟩ e o r (.bool (!b)) := .mk fun a w he _ => by
  simp only [execOp, ev_rel he hx, ev_rel he hy]
  refine run_val ?_
  rw [bind_ok (run_guardAgg hg (.inr rfl) w)]
  unfold binOp
  simp only
  have h1 : (Op.equal t (.agg us.toArray) (.agg vs.toArray)).run P w = .ok b w := run_eqStructG (d := 9997) u hs h w
  rw [bind_ok h1]
  rfl
end
end Go.X

/- A part of a slice that is taken out in place: append onto a cut of itself, and clear. No condition. -/
set_option linter.unusedSimpArgs false
set_option linter.unusedVariables false
namespace Go.X
section
variable {P : Program} {ops : Array Oper} {e : Env} {o r : List PHeap} {d : Option Tmp} {ty : TypeId} {pos : String} {aft : Array Edge}
variable {α : Type} {enc : α → List Value} {sz : Nat} {h : PHeap} {xs : List α} {v : Value}
/-- What stands in the array when 'ys' is laid at 'i'. -/
theorem lay {b c i : Nat} {cs : List Value} {T : TypeId} {ys : List α} (henc : ∀ x, (enc x).length = sz) (hm : xs.length ≤ 140737488355328 ∧ ∀ x ∈ xs, ∀ cc ∈ enc x, one cc = true) (hy : ∀ y ∈ ys, ∀ cc ∈ enc y, one cc = true) (hle : xs.length ≤ c) (hlen : cs.length = c * sz) (ht : cs.take (xs.length * sz) = xs.flatMap enc) (hi : i + ys.length ≤ xs.length) :
    OArr (.slice (some ⟨b, 0, none⟩) xs.length c) enc sz T (blk b (cs.take (i * sz) ++ ys.flatMap enc ++ cs.drop (i * sz + ys.length * sz)) T) (xs.take i ++ ys ++ xs.drop (i + ys.length)) := by
  have hZ : (ys.flatMap enc).length = ys.length * sz := flat_len henc ys
  have hmul1 : i * sz + ys.length * sz ≤ xs.length * sz := by rw [← Nat.add_mul]; exact Nat.mul_le_mul_right _ (by omega)
  have hmul2 : xs.length * sz ≤ c * sz := Nat.mul_le_mul_right _ hle
  have hlen' : (xs.take i ++ ys ++ xs.drop (i + ys.length)).length = xs.length := by
    simp only [List.length_append, List.length_take, List.length_drop]; omega
  refine ⟨henc, ⟨by rw [hlen']; exact hm.1, fun y hy' cc hcc => ?_⟩, .inr ⟨b, c, _, by rw [hlen'], rfl, by rw [hlen']; exact hle, ?_, ?_⟩⟩
  · rcases List.mem_append.1 hy' with h1 | h1
    · rcases List.mem_append.1 h1 with h2 | h2
      · exact hm.2 y (List.mem_of_mem_take h2) cc hcc
      · exact hy y h2 cc hcc
    · exact hm.2 y (List.mem_of_mem_drop h1) cc hcc
  · simp only [List.length_append, List.length_take, List.length_drop, hZ]; omega
  · rw [hlen']
    rw [List.flatMap_append, List.flatMap_append, flat_take henc xs, flat_drop henc xs, ← ht, Nat.add_mul]
    rw [List.take_append, List.take_append]
    simp only [List.length_append, List.length_take, hZ]
    rw [List.take_of_length_le (l := cs.take (i * sz)) (by rw [List.length_take]; omega), List.take_of_length_le (l := ys.flatMap enc) (by rw [hZ]; omega)]
    congr 1
    · congr 1
      rw [List.take_take, Nat.min_eq_left (by omega)]
    · rw [List.drop_take]
      congr 1
      omega
theorem Stp0.appendC {t0 t1 el el1 T : TypeId} [u : Und P t0 (.slice el)] [u1 : Und P t1 (.slice el1)] [z : TySize P el sz] {by' : Nat} [tb : TyBytes P el by'] {x y : Operand} {vd v2 : Value} {i j : Nat} {o1 : List PHeap} (hx : ev e x = some vd) (hd : vd = cutv v sz 0 i) (hy : ev e y = some v2) (hd2 : v2 = cutv v sz j xs.length)
    [s : OArr v enc sz T h xs] [tk : Take h o o1] (hij : i ≤ j) (hj : j ≤ xs.length) (hp : 0 < xs.length) (hby : Nat.ble by' 128 = true) (hn : xs.length ≤ 68719476736) :
    Stp0 P ops ⟨d, .call ⟨.builtin .append, #[x, y], #[t0, t1]⟩, ty, pos, aft, none⟩ e o r (fun v' o2 => ∃ h', v' = cutv v sz 0 (i + (xs.length - j)) ∧ OArr v enc sz T h' (xs.take i ++ xs.drop j ++ xs.drop (i + (xs.length - j))) ∧ o2 = h' :: o1) := fun a w he hs => by
  subst hd hd2
  have hs1 := hs.perm tk.pf
  have hb := Nat.le_of_ble_eq_true hby
  have hx' := ev_rel he hx
  have hy' := ev_rel he hy
  have sA : Arr v enc sz h xs := OArr.arr (s := s)
  have sC := Arr.cut sA (i := j) (j := xs.length) hj (Nat.le_refl _)
  have hall : (xs.drop j).take (xs.length - j) = xs.drop j := List.take_of_length_le (by rw [List.length_drop]; omega)
  rw [hall] at sC
  have hl2 : (xs.drop j).length = xs.length - j := List.length_drop ..
  have hcells := Arr.cells (P := P) sC (hs1.so h List.mem_cons_self) (xs.length - j) (by omega)
  rw [List.take_of_length_le (by omega)] at hcells
  obtain ⟨henc, hm, ⟨rfl, rfl, rfl⟩ | ⟨b, c, cs, rfl, rfl, hle, hlen, ht⟩⟩ := s.pf
  · simp at hp
  · have hc0 : ¬ c = 0 := by omega
    have e1 : cutv (.slice (some ⟨b, 0, none⟩) xs.length c) sz 0 i = .slice (some ⟨b, 0, none⟩) i c := by
      simp only [cutv, if_neg hc0, Option.map_some, Nat.zero_mul, Nat.sub_zero]; rfl
    have e3 : cutv (.slice (some ⟨b, 0, none⟩) xs.length c) sz 0 (i + (xs.length - j)) = .slice (some ⟨b, 0, none⟩) (i + (xs.length - j)) c := by
      simp only [cutv, if_neg hc0, Option.map_some, Nat.zero_mul, Nat.sub_zero]; rfl
    obtain ⟨b2, c2, e2⟩ : ∃ b2 c2, cutv (.slice (some ⟨b, 0, none⟩) xs.length c) sz j xs.length = .slice b2 (xs.length - j) c2 := ⟨_, _, rfl⟩
    rw [e1] at hx'
    rw [e2] at hy' hcells
    rw [e3]
    have hh : w.heap[b]? = some (.cells cs.toArray T (0, 0)) := hs1.so _ List.mem_cons_self b _ (sing_self _ _)
    have hones : ∀ v ∈ (xs.drop j).flatMap enc, one v = true := fun v hv => by
      obtain ⟨y, hy1, hy2⟩ := List.mem_flatMap.1 hv
      exact hm.2 y (List.mem_of_mem_drop hy1) v hy2
    have hZ : ((xs.drop j).flatMap enc).length = (xs.length - j) * sz := by rw [flat_len henc, hl2]
    have hmul1 : i * sz + (xs.length - j) * sz ≤ xs.length * sz := by rw [← Nat.add_mul]; exact Nat.mul_le_mul_right _ (by omega)
    have hmul2 : xs.length * sz ≤ c * sz := Nat.mul_le_mul_right _ hle
    obtain ⟨w', h1, h2, h3, h4⟩ := run_storeCells (P := P) (b := b) (k := i * sz) (T := T) ((xs.drop j).flatMap enc) 0 w cs hones hh (by omega)
    have hrun : (Builtin.append_ #[t0, t1] ty #[.slice (some ⟨b, 0, none⟩) i c, .slice b2 (xs.length - j) c2]).run P w = .ok (.slice (some ⟨b, 0, none⟩) (i + (xs.length - j)) c) w' := by
      rw [run_append (tb := tb) hb (by omega), if_pos (by omega), bind_ok hcells]
      simp only [add_none, Nat.zero_add]
      rw [bind_ok h1]
      rfl
    have hO := lay (b := b) (T := T) (i := i) (ys := xs.drop j) henc hm (fun y hy cc hcc => hm.2 y (List.mem_of_mem_drop hy) cc hcc) hle hlen ht (by omega)
    rw [hl2] at hO
    unfold Does
    simp only [Region.wanted, if_true, execOp, resolve, List.map_toArray, List.map_cons, List.map_nil, hx', hy']
    rw [bind_ok (a := _) (w1 := w) rfl]
    simp only [invoke, builtin]
    rw [run_val hrun]
    simp only [Nat.add_zero, hZ] at h2
    refine ⟨_ :: o1, ⟨_, rfl, hO, rfl⟩, Sep.swap hs1 ?_ ?_ ?_ rfl h4⟩
    · exact fun x hx => none_blk (blk_none hx)
    · intro x ob hb
      obtain ⟨rfl, rfl⟩ := sing_some hb
      exact h2
    · exact fun x hx => h3 x (blk_none hx)
theorem Stp.appendC {t0 t1 el el1 T : TypeId} [u : Und P t0 (.slice el)] [u1 : Und P t1 (.slice el1)] [z : TySize P el sz] {by' : Nat} [tb : TyBytes P el by'] {x y : Operand} {vd v2 : Value} {i j : Nat} {o1 : List PHeap} (hx : ev e x = some vd) (hd : vd = cutv v sz 0 i) (hy : ev e y = some v2) (hd2 : v2 = cutv v sz j xs.length)
    [s : OArr v enc sz T h xs] [tk : Take h o o1] (hij : i ≤ j) (hj : j ≤ xs.length) (hp : 0 < xs.length) (hby : Nat.ble by' 128 = true) (hn : xs.length ≤ 68719476736) :
    Stp P ops ⟨d, .call ⟨.builtin .append, #[x, y], #[t0, t1]⟩, ty, pos, aft, none⟩ e o r (fun v' o2 => ∃ h', v' = cutv v sz 0 (i + (xs.length - j)) ∧ OArr v enc sz T h' (xs.take i ++ xs.drop j ++ xs.drop (i + (xs.length - j))) ∧ o2 = h' :: o1) := fun D a w he hs =>
  (Stp0.appendC (tk := tk.more D) hx hd hy hd2 hij hj hp hby hn a w he hs).mono fun v w' ⟨o2, ⟨h', h1, h2, h3⟩, hs'⟩ => ⟨o2, ⟨h' :: o1, ⟨h', h1, h2, rfl⟩, by rw [h3]; exact List.Perm.swap _ _ _⟩, hs'⟩
theorem Stp0.clearC {t0 el T : TypeId} [u : Und P t0 (.slice el)] [z : TySize P el sz] {zs : List Value} [zz : Zero P el zs] {x : Operand} {vd : Value} {i j m : Nat} {o1 : List PHeap} (zx : α) (hx : ev e x = some vd) (hd : vd = cutv v sz i j)
    [s : OArr v enc sz T h xs] [tk : Take h o o1] (hm' : j - i = m + 1) (hj : j ≤ xs.length) (hz : (Builtin.zeroCells zs.toArray (m + 1)).toList = (List.replicate (m + 1) zx).flatMap enc) (hone : ∀ cc ∈ enc zx, one cc = true) :
    Stp0 P ops ⟨d, .call ⟨.builtin .clear, #[x], #[t0]⟩, ty, pos, aft, none⟩ e o r (fun v' o2 => ∃ h', OArr v enc sz T h' (xs.take i ++ List.replicate (m + 1) zx ++ xs.drop (i + (m + 1))) ∧ o2 = h' :: o1) := fun a w he hs => by
  subst hd
  have hs1 := hs.perm tk.pf
  have hx' := ev_rel he hx
  obtain ⟨zv, hz1, hz2⟩ := zz.pf
  obtain ⟨henc, hm, ⟨rfl, rfl, rfl⟩ | ⟨b, c, cs, rfl, rfl, hle, hlen, ht⟩⟩ := s.pf
  · simp at hj; omega
  · have hci : ¬ c = i := by omega
    have e1 : cutv (.slice (some ⟨b, 0, none⟩) xs.length c) sz i j = .slice (some ⟨b, i * sz, none⟩) (m + 1) (c - i) := by
      simp only [cutv, if_neg hci, Option.map_some, hm', add_none, Nat.zero_add]
    rw [e1] at hx'
    have hh : w.heap[b]? = some (.cells cs.toArray T (0, 0)) := hs1.so _ List.mem_cons_self b _ (sing_self _ _)
    have hyo : ∀ y ∈ List.replicate (m + 1) zx, ∀ cc ∈ enc y, one cc = true := fun y hy cc hcc => by
      rw [List.eq_of_mem_replicate hy] at hcc; exact hone cc hcc
    have hones : ∀ v ∈ (List.replicate (m + 1) zx).flatMap enc, one v = true := fun v hv => by
      obtain ⟨y, hy1, hy2⟩ := List.mem_flatMap.1 hv
      exact hyo y hy1 v hy2
    have hZ : ((List.replicate (m + 1) zx).flatMap enc).length = (m + 1) * sz := by rw [flat_len henc, List.length_replicate]
    have hmul1 : i * sz + (m + 1) * sz ≤ xs.length * sz := by rw [← Nat.add_mul]; exact Nat.mul_le_mul_right _ (by omega)
    have hmul2 : xs.length * sz ≤ c * sz := Nat.mul_le_mul_right _ hle
    obtain ⟨w', h1, h2, h3, h4⟩ := run_storeCells (P := P) (b := b) (k := i * sz) (T := T) ((List.replicate (m + 1) zx).flatMap enc) 0 w cs hones hh (by omega)
    have hrun : (Builtin.clear_ #[t0] ty #[.slice (some ⟨b, i * sz, none⟩) (m + 1) (c - i)]).run P w = .ok (.tuple #[]) w' := by
      unfold Builtin.clear_
      simp only [List.getElem?_toArray, List.getElem?_cons_zero]
      rw [bind_ok (u.pf w)]
      simp only
      rw [bind_ok (hz1 w), hz2, hz, bind_ok h1]
      rfl
    have hO := lay (b := b) (T := T) (i := i) (ys := List.replicate (m + 1) zx) henc hm hyo hle hlen ht (by rw [List.length_replicate]; omega)
    rw [List.length_replicate] at hO
    unfold Does
    simp only [Region.wanted, if_true, execOp, resolve, List.map_toArray, List.map_cons, List.map_nil, hx']
    rw [bind_ok (a := _) (w1 := w) rfl]
    simp only [invoke, builtin]
    rw [run_val hrun]
    simp only [Nat.add_zero, hZ] at h2
    refine ⟨_ :: o1, ⟨_, hO, rfl⟩, Sep.swap hs1 ?_ ?_ ?_ rfl h4⟩
    · exact fun x hx => none_blk (blk_none hx)
    · intro x ob hb
      obtain ⟨rfl, rfl⟩ := sing_some hb
      exact h2
    · exact fun x hx => h3 x (blk_none hx)
theorem Stp.clearC {t0 el T : TypeId} [u : Und P t0 (.slice el)] [z : TySize P el sz] {zs : List Value} [zz : Zero P el zs] {x : Operand} {vd : Value} {i j m : Nat} {o1 : List PHeap} (zx : α) (hx : ev e x = some vd) (hd : vd = cutv v sz i j)
    [s : OArr v enc sz T h xs] [tk : Take h o o1] (hm' : j - i = m + 1) (hj : j ≤ xs.length) (hz : (Builtin.zeroCells zs.toArray (m + 1)).toList = (List.replicate (m + 1) zx).flatMap enc) (hone : ∀ cc ∈ enc zx, one cc = true) :
    Stp P ops ⟨d, .call ⟨.builtin .clear, #[x], #[t0]⟩, ty, pos, aft, none⟩ e o r (fun v' o2 => ∃ h', OArr v enc sz T h' (xs.take i ++ List.replicate (m + 1) zx ++ xs.drop (i + (m + 1))) ∧ o2 = h' :: o1) := fun D a w he hs =>
  (Stp0.clearC (tk := tk.more D) zx hx hd hm' hj hz hone a w he hs).mono fun v w' ⟨o2, ⟨h', h2, h3⟩, hs'⟩ => ⟨o2, ⟨h' :: o1, ⟨h', h2, rfl⟩, by rw [h3]; exact List.Perm.swap _ _ _⟩, hs'⟩
/-- s[:n][i:j], the end beyond the length. -/
theorem Q.cutW {t el T : TypeId} [u : Und P t (.slice el)] [z : TySize P el sz] {x lo hi : Operand} {kl kh : IntKind} {vd : Value} {n i j : Nat} {nl nh : Int} (hx : ev e x = some vd) (hd : vd = cutv v sz 0 n) [s : OArr v enc sz T h xs] (hlo : ev e lo = some (.int kl nl)) (hhi : ev e hi = some (.int kh nh)) (hnl : nl = (i : Int)) (hnh : nh = (j : Int)) (hij : i ≤ j) (hj : j ≤ xs.length) (hp : 0 < xs.length) :
    Quiet P ops ⟨d, .slice t x (some lo) (some hi) none, ty, pos, aft, none⟩ e o r (cutv v sz i j) := .mk fun a w he _ => by
  subst hd
  have hx' := ev_rel he hx
  obtain ⟨henc, hm, ⟨rfl, rfl, rfl⟩ | ⟨b, c, cs, rfl, rfl, hle, hlen, ht⟩⟩ := s.pf
  · simp at hp
  · have hc0 : ¬ c = 0 := by omega
    have e1 : cutv (.slice (some ⟨b, 0, none⟩) xs.length c) sz 0 n = .slice (some ⟨b, 0, none⟩) n c := by
      simp only [cutv, if_neg hc0, Option.map_some, Nat.zero_mul, Nat.sub_zero]; rfl
    rw [e1] at hx'
    have bd : ∀ {op : Operand} {k : IntKind} {m : Int} {q : Nat}, ev e op = some (.int k m) → m = (q : Int) → ∀ (y : Nat) (code : BoundsCode), q ≤ y → (Instr.sliceBound (evA a op) y code).run P w = .ok q w := by
      intro op k m q h1 h2 y code h3
      rw [ev_rel he h1]
      subst h2
      have h0 : (0 : Int) ≤ q := by omega
      unfold Instr.sliceBound
      rw [bind_ok (a := (k, (q : Int))) (w1 := w) rfl]
      simp only
      rw [if_pos ⟨h0, by omega⟩]
      rfl
    have hrun : (Instr.sliceAt t (.slice (some ⟨b, 0, none⟩) n c) (some (evA a lo)) (some (evA a hi)) none).run P w =
        .ok (.slice (if c = i then some ⟨b, 0, none⟩ else (some (⟨b, 0, none⟩ : Addr)).map (·.add (i * sz))) (j - i) (c - i)) w := by
      unfold Instr.sliceAt
      rw [bind_ok (u.pf w)]
      simp only
      unfold Instr.slice
      rw [bind_ok (u.pf w)]
      simp only
      have hb : (Instr.sliceBounds true n c (some (evA a lo)) (some (evA a hi)) none).run P w = .ok (i, j, c) w := by
        unfold Instr.sliceBounds
        simp only [pure_bind, if_true, Option.isSome_none, Bool.false_eq_true, if_false]
        rw [bind_ok (bd hhi hnh c .sliceAcap (by omega)), bind_ok (bd hlo hnl j .sliceB hij)]
        rfl
      rw [bind_ok hb]
      simp only
      rw [bind_ok (z.pf w)]
      rfl
    simp only [execOp, hx', Option.map_some, Option.map_none]
    exact run_val hrun
/-- s[i:j:m]; its value is of no use. -/
theorem Q.cut3 {t el T : TypeId} [u : Und P t (.slice el)] [z : TySize P el sz] {x lo hi mx : Operand} {kl kh km : IntKind} {i j m : Nat} {nl nh nm : Int} (hx : ev e x = some v) [s : OArr v enc sz T h xs] (hlo : ev e lo = some (.int kl nl)) (hhi : ev e hi = some (.int kh nh)) (hmx : ev e mx = some (.int km nm)) (hnl : nl = (i : Int)) (hnh : nh = (j : Int)) (hnm : nm = (m : Int)) (hij : i ≤ j) (hj : j ≤ m) (hjm : m ≤ xs.length) (hp : 0 < xs.length) :
    ∃ v', Quiet P ops ⟨d, .slice t x (some lo) (some hi) (some mx), ty, pos, aft, none⟩ e o r v' := by
  obtain ⟨henc, hm, ⟨rfl, rfl, rfl⟩ | ⟨b, c, cs, rfl, rfl, hle, hlen, ht⟩⟩ := s.pf
  · simp at hp
  · refine ⟨.slice (if m = i then some ⟨b, 0, none⟩ else (some (⟨b, 0, none⟩ : Addr)).map (·.add (i * sz))) (j - i) (m - i), .mk fun a w he _ => ?_⟩
    have hx' := ev_rel he hx
    have bd : ∀ {op : Operand} {k : IntKind} {m : Int} {q : Nat}, ev e op = some (.int k m) → m = (q : Int) → ∀ (y : Nat) (code : BoundsCode), q ≤ y → (Instr.sliceBound (evA a op) y code).run P w = .ok q w := by
      intro op k m q h1 h2 y code h3
      rw [ev_rel he h1]
      subst h2
      have h0 : (0 : Int) ≤ q := by omega
      unfold Instr.sliceBound
      rw [bind_ok (a := (k, (q : Int))) (w1 := w) rfl]
      simp only
      rw [if_pos ⟨h0, by omega⟩]
      rfl
    have hrun : (Instr.sliceAt t (.slice (some ⟨b, 0, none⟩) xs.length c) (some (evA a lo)) (some (evA a hi)) (some (evA a mx))).run P w =
        .ok (.slice (if m = i then some ⟨b, 0, none⟩ else (some (⟨b, 0, none⟩ : Addr)).map (·.add (i * sz))) (j - i) (m - i)) w := by
      unfold Instr.sliceAt
      rw [bind_ok (u.pf w)]
      simp only
      unfold Instr.slice
      rw [bind_ok (u.pf w)]
      simp only
      have hb : (Instr.sliceBounds true xs.length c (some (evA a lo)) (some (evA a hi)) (some (evA a mx))).run P w = .ok (i, j, m) w := by
        unfold Instr.sliceBounds
        simp only [if_true, Option.isSome_some]
        rw [bind_ok (bd hmx hnm c .slice3Acap (by omega)), bind_ok (bd hhi hnh m .slice3B hj), bind_ok (bd hlo hnl j .slice3C hij)]
        rfl
      rw [bind_ok hb]
      simp only
      rw [bind_ok (z.pf w)]
      rfl
    simp only [execOp, hx', Option.map_some]
    exact run_val hrun
end
section
variable {c : Cx} {ops : Array Oper} {rest : List Oper} {k : List Item} {e : Env} {o r : List PHeap} {d : Nat} {ty : TypeId} {pos : String} {aft : Array Edge}
variable {α : Type} {enc : α → List Value} {sz : Nat} {h : PHeap} {xs : List α} {v : Value}
theorem XO.cut3 {t el T : TypeId} [u : Und c.P t (.slice el)] [z : TySize c.P el sz] {x lo hi mx : Operand} {kl kh km : IntKind} {i j m : Nat} {nl nh nm : Int} (hx : ev e x = some v) [s : OArr v enc sz T h xs] (hlo : ev e lo = some (.int kl nl)) (hhi : ev e hi = some (.int kh nh)) (hmx : ev e mx = some (.int km nm)) (hnl : nl = (i : Int)) (hnh : nh = (j : Int)) (hnm : nm = (m : Int)) (hij : i ≤ j) (hj : j ≤ m) (hjm : m ≤ xs.length) (hp : 0 < xs.length)
    (hn : ∀ v', XO c ops rest k ((d, some v') :: e) o r) : XO c ops (⟨some d, .slice t x (some lo) (some hi) (some mx), ty, pos, aft, none⟩ :: rest) k e o r := by
  obtain ⟨v', q⟩ := Q.cut3 (P := c.P) (ops := ops) (e := e) (o := o) (r := c.B :: r) (d := some d) (ty := ty) (pos := pos) (aft := aft) (t := t) (z := z) (u := u) (s := s) hx hlo hhi hmx hnl hnh hnm hij hj hjm hp
  exact XO.q q (hn v')
theorem XO.clearC {t0 el T : TypeId} [u : Und c.P t0 (.slice el)] [z : TySize c.P el sz] {zs : List Value} [zz : Zero c.P el zs] {x : Operand} {vd : Value} {i j m : Nat} {o1 : List PHeap} (zx : α) (hx : ev e x = some vd) (hd : vd = cutv v sz i j)
    [s : OArr v enc sz T h xs] [tk : Take h o o1] (hm' : j - i = m + 1) (hj : j ≤ xs.length) (hz : (Builtin.zeroCells zs.toArray (m + 1)).toList = (List.replicate (m + 1) zx).flatMap enc) (hone : ∀ cc ∈ enc zx, one cc = true)
    (hn : ∀ h', OArr v enc sz T h' (xs.take i ++ List.replicate (m + 1) zx ++ xs.drop (i + (m + 1))) → XO c ops rest k e (h' :: o1) r) :
    XO c ops (⟨none, .call ⟨.builtin .clear, #[x], #[t0]⟩, ty, pos, aft, none⟩ :: rest) k e o r :=
  XO.s0 (Stp.clearC zx hx hd hm' hj hz hone) fun _ o2 ⟨h', h2, h3⟩ => by subst h3; exact hn h' h2
variable {fl : List Nat} {f : List PHeap} {i0 : Nat} {bb : Bool} {tt uu : Plan}
theorem XT.appendC {t0 t1 el el1 T : TypeId} [u : Und c.P t0 (.slice el)] [u1 : Und c.P t1 (.slice el1)] [z : TySize c.P el sz] {by' : Nat} [tb : TyBytes c.P el by'] {x y : Operand} {vd v2 : Value} {i j : Nat} {o1 : List PHeap}
    (hi0 : ops[i0]? = some ⟨some d, .call ⟨.builtin .append, #[x, y], #[t0, t1]⟩, ty, pos, aft, none⟩) (hok : okOper c.N ⟨some d, .call ⟨.builtin .append, #[x, y], #[t0, t1]⟩, ty, pos, aft, none⟩ = true)
    (hx : ev e x = some vd) (hd : vd = cutv v sz 0 i) (hy : ev e y = some v2) (hd2 : v2 = cutv v sz j xs.length)
    [s : OArr v enc sz T h xs] [tk : Take h o o1] (hij : i ≤ j) (hj : j ≤ xs.length) (hp : 0 < xs.length) (hby : Nat.ble by' 128 = true) (hn : xs.length ≤ 68719476736)
    (hnx : ∀ h', OArr v enc sz T h' (xs.take i ++ xs.drop j ++ xs.drop (i + (xs.length - j))) → Keeps bb f (h' :: o1) ∧ XT c ops fl f k r tt ((d, some (cutv v sz 0 (i + (xs.length - j)))) :: e) (h' :: o1)) (hu : XT c ops fl f k r uu e o) :
    XT c ops fl f k r (.br i0 bb tt uu) e o :=
  XT.s hi0 hok (Stp.appendC hx hd hy hd2 hij hj hp hby hn) (fun v' o2 ⟨h', h1, h2, h3⟩ => by subst h1 h3; exact hnx h' h2) hu
end
end Go.X

/- A contract whose heaps to read are parts of others. No condition. -/
set_option linter.unusedVariables false
namespace Go.X
theorem Spec.part {P : Program} {f : FuncId} {args : Array Value} {Hm Hr Hr' : List PHeap} {R : Value → List PHeap → Prop} (h : Spec P f args Hm Hr R) (hh : ∀ x ∈ Hr, x ∈ Hr' ∨ x.m = none ∧ ∃ y ∈ Hr', leH x y) : Spec P f args Hm Hr' R := fun o r w hs hr => by
  have hd : ∀ x ∈ Hr, ∀ a ∈ Hm, Disj a x := fun x hx a ha => by
    have key : ∀ y ∈ Hr', Disj a y := fun y hy => by
      rcases hr y hy with h1 | h1
      · exact (List.pairwise_append.1 hs.pw).2.2 a ha y h1
      · exact hs.dr a (List.mem_append_left _ ha) y h1
    rcases hh x hx with h1 | ⟨_, y, hy, hl⟩
    · exact key x h1
    · intro b
      rcases key y hy b with h2 | h2
      · exact .inl h2
      · right
        cases hx2 : x b with
        | none => rfl
        | some ob => rw [hl b ob hx2] at h2; cases h2
  have hsub : ∀ y ∈ Hr', sub y w := fun y hy => by
    rcases hr y hy with h1 | h1
    · exact hs.so y (List.mem_append_right _ h1)
    · exact hs.sr y h1
  have hS : Sep (Hm ++ []) (Hr ++ (o ++ r)) w := by
    rw [List.append_nil]
    refine ⟨hs.left.pw, ?_, hs.left.so, ?_, hs.left.no, ?_⟩
    · intro a ha x hx
      rcases List.mem_append.1 hx with hx | hx
      · exact hd x hx a ha
      · rcases List.mem_append.1 hx with hx | hx
        · exact (List.pairwise_append.1 hs.pw).2.2 a ha x hx
        · exact hs.dr a (List.mem_append_left _ ha) x hx
    · intro x hx
      rcases List.mem_append.1 hx with hx | hx
      · rcases hh x hx with h1 | ⟨_, y, hy, hl⟩
        · exact hsub x h1
        · exact fun b ob hb => hsub y hy b ob (hl b ob hb)
      · rcases List.mem_append.1 hx with hx | hx
        · exact hs.so x (List.mem_append_right _ hx)
        · exact hs.sr x hx
    · intro x hx m hm
      rcases List.mem_append.1 hx with hx | hx
      · rcases hh x hx with h1 | ⟨h1, _⟩
        · rcases hr x h1 with h2 | h2
          · rw [hs.no x (List.mem_append_right _ h2)] at hm; cases hm
          · exact hs.sm x h2 m hm
        · rw [h1] at hm; cases hm
      · rcases List.mem_append.1 hx with hx | hx
        · rw [hs.no x (List.mem_append_right _ hx)] at hm; cases hm
        · exact hs.sm x hx m hm
  refine (h [] (Hr ++ (o ++ r)) w hS (fun x hx => .inr (List.mem_append_left _ hx))).mono fun _ _ ⟨v, hs2, he, hR, hS2⟩ => ⟨v, hs2, he, hR, ?_⟩
  rw [List.append_nil] at hS2
  have ho : ∀ x ∈ o, x ∈ Hr ++ (o ++ r) := fun x hx => List.mem_append_right _ (List.mem_append_left _ hx)
  have hr2 : ∀ x ∈ r, x ∈ Hr ++ (o ++ r) := fun x hx => List.mem_append_right _ (List.mem_append_right _ hx)
  refine ⟨List.pairwise_append.2 ⟨hS2.pw, (List.pairwise_append.1 hs.pw).2.1, fun a ha x hx => hS2.dr a ha x (ho x hx)⟩, ?_, ?_, fun x hx => hS2.sr x (hr2 x hx), ?_, fun x hx => hS2.sm x (hr2 x hx)⟩
  · intro a ha x hx
    rcases List.mem_append.1 ha with ha | ha
    · exact hS2.dr a ha x (hr2 x hx)
    · exact hs.dr a (List.mem_append_right _ ha) x hx
  · intro a ha
    rcases List.mem_append.1 ha with ha | ha
    · exact hS2.so a ha
    · exact hS2.sr a (ho a ha)
  · intro a ha
    rcases List.mem_append.1 ha with ha | ha
    · exact hS2.no a ha
    · exact hs.no a (List.mem_append_right _ ha)
end Go.X
namespace Go.X
/-- A contract that changes nothing, with the empty heap carried. -/
theorem Spec.addEmp {P : Program} {f : FuncId} {args : Array Value} {Hr : List PHeap} {Q : Value → Prop} (h : Spec P f args [] Hr (fun v hs => Q v ∧ hs = [])) : Spec P f args [emp] Hr (fun v hs => Q v ∧ hs = [emp]) := fun o r w hs hr => by
  refine (h ([emp] ++ o) r w hs (fun x hx => orMap (hr x hx) (List.mem_append_right _) id)).mono fun _ _ ⟨v, hs2, he, hR, hS2⟩ => ?_
  obtain ⟨hQ, rfl⟩ := hR
  exact ⟨v, [emp], he, ⟨hQ, rfl⟩, hS2⟩
end Go.X

/- Plain facts on lists. No condition. -/
set_option linter.unusedVariables false
namespace Go.X
theorem take_step {α : Type} [Inhabited α] {xs ys : List α} {i : Nat} (h : xs.take i = ys.take i) (hx : i < xs.length) (hy : i < ys.length) (he : xs.getD i default = ys.getD i default) : xs.take (i + 1) = ys.take (i + 1) := by
  rw [List.take_succ_eq_append_getElem hx, List.take_succ_eq_append_getElem hy, h]
  simp [hx, hy] at he
  rw [he]
theorem take_all {α : Type} {xs ys : List α} {i : Nat} (h : xs.take i = ys.take i) (hx : ¬ (i : Int) < xs.length) (hl : xs.length = ys.length) : xs = ys := by
  rw [List.take_of_length_le (by omega), List.take_of_length_le (by omega)] at h
  exact h
theorem getD_mem {α : Type} [Inhabited α] {xs : List α} {i : Nat} (h : i < xs.length) : xs.getD i default ∈ xs := by
  simp [h]
/-- The first place that a test takes; -1 if there is none. -/
def findFirst {α : Type} (p : α → Bool) (xs : List α) : Int := match xs.findIdx? p with
  | some i => i
  | none => -1
theorem any_step {α : Type} [Inhabited α] {p : α → Bool} {xs : List α} {i : Nat} (h : (xs.take i).any p = false) (hx : i < xs.length) (hp : p (xs.getD i default) = false) : (xs.take (i + 1)).any p = false := by
  rw [List.take_succ_eq_append_getElem hx, List.any_append, h]
  simp [hx] at hp
  simp [hp]
theorem findFirst_here {α : Type} [Inhabited α] {p : α → Bool} {xs : List α} {i : Nat} (h : (xs.take i).any p = false) (hx : i < xs.length) (hp : p (xs.getD i default) = true) : findFirst p xs = i := by
  unfold findFirst
  have : xs.findIdx? p = some i := by
    rw [List.findIdx?_eq_some_iff_getElem]
    simp [hx] at hp
    refine ⟨hx, hp, fun j hj => ?_⟩
    have := List.any_eq_false.1 h xs[j] (by rw [List.mem_take_iff_getElem]; exact ⟨j, by omega, rfl⟩)
    simpa using this
  rw [this]
theorem findFirst_none {α : Type} {p : α → Bool} {xs : List α} {i : Nat} (h : (xs.take i).any p = false) (hx : ¬ (i : Int) < xs.length) : findFirst p xs = -1 := by
  rw [List.take_of_length_le (by omega)] at h
  unfold findFirst
  have : xs.findIdx? p = none := by
    rw [List.findIdx?_eq_none_iff]
    intro x hx
    have := List.any_eq_false.1 h x hx
    simpa using this
  rw [this]
theorem findFirst_any {α : Type} {p : α → Bool} {xs : List α} : decide ((0 : Int) ≤ findFirst p xs) = xs.any p := by
  unfold findFirst
  cases h : xs.findIdx? p with
  | none =>
    rw [List.findIdx?_eq_none_iff] at h
    have : xs.any p = false := List.any_eq_false.2 (fun x hx => by simp [h x hx])
    simp [this]
  | some i =>
    rw [List.findIdx?_eq_some_iff_getElem] at h
    obtain ⟨hi, hp, _⟩ := h
    have : xs.any p = true := List.any_eq_true.2 ⟨xs[i], List.getElem_mem hi, hp⟩
    simp only [this, decide_eq_true_eq]
    omega
end Go.X

/- Halls, in plain numbers and lists. No condition. -/
set_option linter.unusedVariables false
namespace Go.X
structure HRoom where
  store : Int
  limit : Int
structure HWall where
  a : Int
  b : Int
  pass : Int
structure HBranch where
  up : Int
  opn : Int
  leak : Int
structure HCooler where
  room : Int
  br : Int
  gain : Int
  carry : Int
  supply : Int
instance : Inhabited HRoom := ⟨⟨0, 0⟩⟩
instance : Inhabited HWall := ⟨⟨0, 0, 0⟩⟩
instance : Inhabited HBranch := ⟨⟨0, 0, 0⟩⟩
instance : Inhabited HCooler := ⟨⟨0, 0, 0, 0, 0⟩⟩
structure Hall where
  rooms : List HRoom
  walls : List HWall
  branches : List HBranch
  coolers : List HCooler
structure HCase where
  load : List Int
  out : Int
  pump : Int
def sumTo (f : Nat → Int) : Nat → Int
  | 0 => 0
  | n + 1 => sumTo f n + f n
def inP (n m : Int) : Bool := decide (0 ≤ n) && decide (n ≤ m)
def ixP (n : Int) (len : Nat) : Bool := decide (0 ≤ n) && decide (n < (len : Int))
def okRoom (x : HRoom) : Bool := (decide (1 ≤ x.store) && decide (x.store ≤ 1000000)) && inP x.limit 1000000
def okWall (n : Nat) (x : HWall) : Bool := ((ixP x.a n && (decide (x.b = -1) || ixP x.b n)) && decide (x.a ≠ x.b)) && inP x.pass 100000
def okBranch (i : Nat) (x : HBranch) : Bool := ((if i = 0 then decide (x.up = -1) else ixP x.up i) && inP x.opn 100) && inP x.leak 100000
def okCooler (n m : Nat) (x : HCooler) : Bool := (((ixP x.room n && ixP x.br m) && inP x.gain 100000) && inP x.carry 1000) && inP x.supply 1000000
/-- All of the first n. -/
def allTo (p : Nat → Bool) (n : Nat) : Bool := (List.range n).all p
theorem allTo_succ {p : Nat → Bool} {n : Nat} : allTo p (n + 1) = (allTo p n && p n) := by
  unfold allTo; rw [List.range_succ, List.all_append]; simp
theorem allTo_false {p : Nat → Bool} {n s : Nat} (hs : s < n) (h : p s = false) : allTo p n = false := by
  unfold allTo
  rw [List.all_eq_false]
  exact ⟨s, List.mem_range.2 hs, by simp [h]⟩
theorem allTo_at {p : Nat → Bool} {n s : Nat} (h : allTo p n = true) (hs : s < n) : p s = true := by
  unfold allTo at h
  rw [List.all_eq_true] at h
  exact h s (List.mem_range.2 hs)
def roomsOk (h : Hall) (n : Nat) : Bool := allTo (fun i => okRoom (h.rooms.getD i default)) n
def wallsOk (h : Hall) (n : Nat) : Bool := allTo (fun i => okWall h.rooms.length (h.walls.getD i default)) n
def branchesOk (h : Hall) (n : Nat) : Bool := allTo (fun i => okBranch i (h.branches.getD i default)) n
def coolersOk (h : Hall) (n : Nat) : Bool := allTo (fun i => okCooler h.rooms.length h.branches.length (h.coolers.getD i default)) n
def allowedP (h : Hall) : Bool := ((roomsOk h h.rooms.length && wallsOk h h.walls.length) && branchesOk h h.branches.length) && coolersOk h h.coolers.length
def wslope (h : Hall) (i : Nat) (k : Nat) : Int := if (h.walls.getD k default).a = i ∨ (h.walls.getD k default).b = i then (h.walls.getD k default).pass else 0
def cslope (h : Hall) (i : Nat) (k : Nat) : Int := if (h.coolers.getD k default).room = i then (h.coolers.getD k default).gain else 0
def slope (h : Hall) (i : Nat) : Int := sumTo (wslope h i) h.walls.length + sumTo (cslope h i) h.coolers.length
def hcheck (h : Hall) : Int :=
  if (((((h.rooms.length : Int) < 1 ∨ 8 < (h.rooms.length : Int)) ∨ 16 < (h.walls.length : Int)) ∨ 16 < (h.branches.length : Int)) ∨ 16 < (h.coolers.length : Int)) then 2
  else if allowedP h = false then 6
  else if allTo (fun i => decide (slope h i ≤ (h.rooms.getD i default).store)) h.rooms.length = true then 0 else 70
/-- What is known of a valid hall. -/
structure HOk (h : Hall) : Prop where
  r1 : 1 ≤ h.rooms.length
  r2 : h.rooms.length ≤ 8
  w2 : h.walls.length ≤ 16
  b2 : h.branches.length ≤ 16
  c2 : h.coolers.length ≤ 16
  room : ∀ i, i < h.rooms.length → 1 ≤ (h.rooms.getD i default).store ∧ (h.rooms.getD i default).store ≤ 1000000 ∧ 0 ≤ (h.rooms.getD i default).limit ∧ (h.rooms.getD i default).limit ≤ 1000000
  wall : ∀ i, i < h.walls.length → (0 ≤ (h.walls.getD i default).a ∧ (h.walls.getD i default).a < h.rooms.length) ∧ ((h.walls.getD i default).b = -1 ∨ (0 ≤ (h.walls.getD i default).b ∧ (h.walls.getD i default).b < h.rooms.length)) ∧
    (h.walls.getD i default).a ≠ (h.walls.getD i default).b ∧ 0 ≤ (h.walls.getD i default).pass ∧ (h.walls.getD i default).pass ≤ 100000
  branch : ∀ i, i < h.branches.length → (if i = 0 then (h.branches.getD i default).up = -1 else 0 ≤ (h.branches.getD i default).up ∧ (h.branches.getD i default).up < i) ∧ (0 ≤ (h.branches.getD i default).opn ∧ (h.branches.getD i default).opn ≤ 100) ∧
    0 ≤ (h.branches.getD i default).leak ∧ (h.branches.getD i default).leak ≤ 100000
  cooler : ∀ i, i < h.coolers.length → (0 ≤ (h.coolers.getD i default).room ∧ (h.coolers.getD i default).room < h.rooms.length) ∧ (0 ≤ (h.coolers.getD i default).br ∧ (h.coolers.getD i default).br < h.branches.length) ∧
    (0 ≤ (h.coolers.getD i default).gain ∧ (h.coolers.getD i default).gain ≤ 100000) ∧ (0 ≤ (h.coolers.getD i default).carry ∧ (h.coolers.getD i default).carry ≤ 1000) ∧ 0 ≤ (h.coolers.getD i default).supply ∧ (h.coolers.getD i default).supply ≤ 1000000
  slope : ∀ i, i < h.rooms.length → X.slope h i ≤ (h.rooms.getD i default).store
theorem hcheck_ok {h : Hall} (hc : hcheck h = 0) : HOk h := by
  unfold hcheck at hc
  split at hc
  · omega
  · rename_i h1
    split at hc
    · omega
    · rename_i h2
      split at hc
      · rename_i h3
        simp only [Bool.not_eq_false, allowedP, Bool.and_eq_true] at h2
        obtain ⟨⟨⟨a1, a2⟩, a3⟩, a4⟩ := h2
        refine ⟨by omega, by omega, by omega, by omega, by omega, fun i hi => ?_, fun i hi => ?_, fun i hi => ?_, fun i hi => ?_, fun i hi => ?_⟩
        · have := allTo_at a1 hi
          simp only [okRoom, inP, Bool.and_eq_true, decide_eq_true_eq] at this
          omega
        · have := allTo_at a2 hi
          simp only [okWall, inP, ixP, Bool.and_eq_true, Bool.or_eq_true, decide_eq_true_eq] at this
          omega
        · have := allTo_at a3 hi
          simp only [okBranch, inP, ixP, Bool.and_eq_true, decide_eq_true_eq] at this
          by_cases h0 : i = 0
          · subst h0; simp only [if_true, decide_eq_true_eq] at this ⊢; omega
          · rw [if_neg h0] at this ⊢
            simp only [Bool.and_eq_true, decide_eq_true_eq] at this
            omega
        · have := allTo_at a4 hi
          simp only [okCooler, inP, ixP, Bool.and_eq_true, decide_eq_true_eq] at this
          omega
        · have := allTo_at h3 hi
          simpa using this
      · omega
/-- The sum of what is open below a branch. -/
def sumOpen (h : Hall) (u : Int) (n : Nat) : Int := sumTo (fun k => if (h.branches.getD k default).up = u then (h.branches.getD k default).opn else 0) n
def feedOf (h : Hall) (pump : Int) (out : List Int) (n : Nat) : Int :=
  if n = 0 then pump
  else if 0 < sumOpen h (h.branches.getD n default).up h.branches.length then
    out.getD (h.branches.getD n default).up.toNat 0 * (h.branches.getD n default).opn / sumOpen h (h.branches.getD n default).up h.branches.length
  else 0
def flowsTo (h : Hall) (pump : Int) : Nat → List Int
  | 0 => []
  | n + 1 => flowsTo h pump n ++ [max (feedOf h pump (flowsTo h pump n) n - (h.branches.getD n default).leak) 0]
def flowsL (h : Hall) (pump : Int) : List Int := flowsTo h pump h.branches.length
def onBr (h : Hall) (b : Int) (n : Nat) : Int := sumTo (fun k => if (h.coolers.getD k default).br = b then 1 else 0) n
def takenAt (h : Hall) (t f : List Int) (k : Nat) : Int :=
  min (max ((h.coolers.getD k default).gain * (t.getD (h.coolers.getD k default).room.toNat 0 - (h.coolers.getD k default).supply)) 0)
    ((h.coolers.getD k default).carry * f.getD (h.coolers.getD k default).br.toNat 0 / onBr h (h.coolers.getD k default).br h.coolers.length)
def takenL (h : Hall) (t : List Int) (pump : Int) : List Int := (List.range h.coolers.length).map (takenAt h t (flowsL h pump))
def wheat (h : Hall) (t : List Int) (out : Int) (i : Nat) (k : Nat) : Int :=
  if (h.walls.getD k default).a = i then (h.walls.getD k default).pass * ((if 0 ≤ (h.walls.getD k default).b then t.getD (h.walls.getD k default).b.toNat 0 else out) - t.getD i 0)
  else if (h.walls.getD k default).b = i then (h.walls.getD k default).pass * (t.getD (h.walls.getD k default).a.toNat 0 - t.getD i 0)
  else 0
def cheat (h : Hall) (taken : List Int) (i : Nat) (k : Nat) : Int := if (h.coolers.getD k default).room = i then - taken.getD k 0 else 0
def heatOf (h : Hall) (t : List Int) (c : HCase) (i : Nat) : Int :=
  (h.rooms.getD i default).store * t.getD i 0 + c.load.getD i 0 + sumTo (wheat h t c.out i) h.walls.length + sumTo (cheat h (takenL h t c.pump) i) h.coolers.length
def nextAt (h : Hall) (t : List Int) (c : HCase) (i : Nat) : Int := min (heatOf h t c i / (h.rooms.getD i default).store) 1000000
def nextL (h : Hall) (t : List Int) (c : HCase) : List Int := (List.range h.rooms.length).map (nextAt h t c)
def warmP (h : Hall) (t : List Int) : Int := if (t.length : Int) ≠ h.rooms.length then 1 else if t.any (fun n => !inP n 1000000) = true then 6 else 0
def casedP (h : Hall) (c : HCase) : Int := if (c.load.length : Int) ≠ h.rooms.length then 1 else if (c.load.any (fun n => !inP n 10000000) = true ∨ ¬ inP c.out 1000000 = true) ∨ ¬ inP c.pump 100000 = true then 6 else 0
def bothP (l : List Int) : Int := if 1 ∈ l then 1 else if 6 ∈ l then 6 else 0
def nextG (h : Hall) (t : List Int) (c : HCase) : List Int × Int :=
  if hcheck h ≠ 0 then ([], hcheck h) else if bothP [warmP h t, casedP h c] ≠ 0 then ([], bothP [warmP h t, casedP h c]) else (nextL h t c, 0)
def flowsG (h : Hall) (pump : Int) : List Int × Int := if hcheck h ≠ 0 then ([], hcheck h) else if ¬ inP pump 100000 = true then ([], 6) else (flowsL h pump, 0)
structure TOk (h : Hall) (t : List Int) : Prop where
  len : t.length = h.rooms.length
  rng : ∀ i, i < t.length → 0 ≤ t.getD i 0 ∧ t.getD i 0 ≤ 1000000
structure COk (h : Hall) (c : HCase) : Prop where
  len : c.load.length = h.rooms.length
  rng : ∀ i, i < c.load.length → 0 ≤ c.load.getD i 0 ∧ c.load.getD i 0 ≤ 10000000
  out : 0 ≤ c.out ∧ c.out ≤ 1000000
  pump : 0 ≤ c.pump ∧ c.pump ≤ 100000
theorem any_no {l : List Int} {m : Int} (h : ¬ l.any (fun n => !inP n m) = true) (i : Nat) (hi : i < l.length) : 0 ≤ l.getD i 0 ∧ l.getD i 0 ≤ m := by
  have h1 : l.any (fun n => !inP n m) = false := by simpa using h
  have := List.any_eq_false.1 h1 (l.getD i 0) (getD_mem hi)
  simp only [inP, Bool.not_eq_true', Bool.and_eq_false_iff, decide_eq_false_iff_not] at this
  omega
theorem warm_ok {h : Hall} {t : List Int} (hw : warmP h t = 0) : TOk h t := by
  unfold warmP at hw
  split at hw
  · omega
  · split at hw
    · omega
    · rename_i h1 h2
      exact ⟨by omega, any_no h2⟩
theorem cased_ok {h : Hall} {c : HCase} (hw : casedP h c = 0) : COk h c := by
  unfold casedP at hw
  split at hw
  · omega
  · split at hw
    · omega
    · rename_i h1 h2
      simp only [not_or, Classical.not_not] at h2
      obtain ⟨⟨a, b⟩, d⟩ := h2
      simp only [inP, Bool.and_eq_true, decide_eq_true_eq] at b d
      exact ⟨by omega, any_no a, b, d⟩
theorem warm_vals (h : Hall) (t : List Int) : warmP h t = 0 ∨ warmP h t = 1 ∨ warmP h t = 6 := by
  unfold warmP; split
  · simp
  · split <;> simp
theorem cased_vals (h : Hall) (c : HCase) : casedP h c = 0 ∨ casedP h c = 1 ∨ casedP h c = 6 := by
  unfold casedP; split
  · simp
  · split <;> simp
theorem both_ok {h : Hall} {t : List Int} {c : HCase} (hb : bothP [warmP h t, casedP h c] = 0) : TOk h t ∧ COk h c := by
  have h1 := warm_vals h t
  have h2 := cased_vals h c
  unfold bothP at hb
  split at hb
  · omega
  · split at hb
    · omega
    · rename_i h3 h4
      simp only [List.mem_cons, List.not_mem_nil, or_false, not_or] at h3 h4
      exact ⟨warm_ok (by omega), cased_ok (by omega)⟩
end Go.X

/- Flows: what a branch has; below which branch it hangs. No condition. -/
set_option linter.unusedVariables false
namespace Go.X
theorem sum_zero {f : Nat → Int} : ∀ {n : Nat}, (∀ k, k < n → f k = 0) → sumTo f n = 0
  | 0, _ => rfl
  | n + 1, h => by rw [sumTo, sum_zero fun k hk => h k (by omega), h n (by omega)]; rfl
theorem sum_nonneg {f : Nat → Int} : ∀ {n : Nat}, (∀ k, k < n → 0 ≤ f k) → 0 ≤ sumTo f n
  | 0, _ => Int.le_refl _
  | n + 1, h => by
    have h1 := sum_nonneg (f := f) (n := n) fun k hk => h k (by omega)
    have h2 := h n (by omega)
    rw [sumTo]; omega
theorem sum_mono {f g : Nat → Int} : ∀ {n : Nat}, (∀ k, k < n → f k ≤ g k) → sumTo f n ≤ sumTo g n
  | 0, _ => Int.le_refl _
  | n + 1, h => by
    have h1 := sum_mono (f := f) (g := g) (n := n) fun k hk => h k (by omega)
    have h2 := h n (by omega)
    rw [sumTo, sumTo]; omega
theorem sum_add {f g : Nat → Int} : ∀ {n : Nat}, sumTo (fun k => f k + g k) n = sumTo f n + sumTo g n
  | 0 => rfl
  | n + 1 => by rw [sumTo, sumTo, sumTo, sum_add]; omega
theorem sum_mul {f : Nat → Int} {c : Int} : ∀ {n : Nat}, sumTo (fun k => c * f k) n = c * sumTo f n
  | 0 => by simp [sumTo]
  | n + 1 => by rw [sumTo, sumTo, sum_mul, Int.mul_add]
theorem sum_congr {f g : Nat → Int} : ∀ {n : Nat}, (∀ k, k < n → f k = g k) → sumTo f n = sumTo g n
  | 0, _ => rfl
  | n + 1, h => by rw [sumTo, sumTo, sum_congr fun k hk => h k (by omega), h n (by omega)]
theorem sum_le {f : Nat → Int} {M : Int} : ∀ {n : Nat}, (∀ k, k < n → f k ≤ M) → sumTo f n ≤ n * M
  | 0, _ => by simp [sumTo]
  | n + 1, h => by
    have h1 := sum_le (f := f) (n := n) (M := M) fun k hk => h k (by omega)
    have h2 := h n (by omega)
    have h3 : ((n + 1 : Nat) : Int) * M = n * M + M := by rw [Int.natCast_add, Int.add_mul]; simp
    rw [sumTo, h3]; omega
theorem sum_part {f : Nat → Int} {n m : Nat} (h : m ≤ n) (hf : ∀ k, k < n → 0 ≤ f k) : sumTo f m ≤ sumTo f n := by
  induction n with
  | zero => rw [show m = 0 by omega]; exact Int.le_refl _
  | succ n ih =>
    rcases Nat.lt_or_ge m (n + 1) with h1 | h1
    · have h2 := ih (by omega) fun k hk => hf k (by omega)
      have h3 := hf n (by omega)
      rw [sumTo]; omega
    · rw [show m = n + 1 by omega]; exact Int.le_refl _
theorem sum_one {f : Nat → Int} {n k : Nat} (h : k < n) (hf : ∀ k, k < n → 0 ≤ f k) : f k ≤ sumTo f n := by
  have h1 := sum_part (f := f) (n := n) (m := k + 1) (by omega) hf
  have h2 := sum_nonneg (f := f) (n := k) fun j hj => hf j (by omega)
  rw [sumTo] at h1; omega
theorem flowsTo_len (h : Hall) (pump : Int) : ∀ n, (flowsTo h pump n).length = n
  | 0 => rfl
  | n + 1 => by rw [flowsTo, List.length_append, flowsTo_len]; rfl
theorem flowsTo_getD (h : Hall) (pump : Int) {n i : Nat} (hi : i < n) : (flowsTo h pump n).getD i 0 = max (feedOf h pump (flowsTo h pump i) i - (h.branches.getD i default).leak) 0 := by
  induction n with
  | zero => omega
  | succ n ih =>
    rw [flowsTo]
    rcases Nat.lt_or_ge i n with h1 | h1
    · rw [List.getD_eq_getElem?_getD, List.getElem?_append_left (by rw [flowsTo_len]; exact h1), ← List.getD_eq_getElem?_getD]
      exact ih h1
    · have h2 : i = n := by omega
      subst h2
      rw [List.getD_eq_getElem?_getD, List.getElem?_append_right (by rw [flowsTo_len]; exact Nat.le_refl _), flowsTo_len, Nat.sub_self]
      rfl
theorem flows_len (h : Hall) (pump : Int) : (flowsL h pump).length = h.branches.length := flowsTo_len ..
section
variable {h : Hall} (ok : HOk h)
include ok
theorem up_of {i : Nat} (hi : i < h.branches.length) (h0 : i ≠ 0) : 0 ≤ (h.branches.getD i default).up ∧ (h.branches.getD i default).up < i := by
  have := (ok.branch i hi).1
  rw [if_neg h0] at this
  exact this
theorem up_zero (hi : 0 < h.branches.length) : (h.branches.getD 0 default).up = -1 := by
  have := (ok.branch 0 hi).1
  rw [if_pos rfl] at this
  exact this
theorem feed_same {pump : Int} {i : Nat} (hi : i < h.branches.length) : feedOf h pump (flowsTo h pump i) i = feedOf h pump (flowsL h pump) i := by
  unfold feedOf
  by_cases h0 : i = 0
  · rw [if_pos h0, if_pos h0]
  · rw [if_neg h0, if_neg h0]
    obtain ⟨h1, h2⟩ := up_of ok hi h0
    have e : (flowsTo h pump i).getD (h.branches.getD i default).up.toNat 0 = (flowsL h pump).getD (h.branches.getD i default).up.toNat 0 := by
      unfold flowsL
      rw [flowsTo_getD h pump (by omega), flowsTo_getD h pump (by omega)]
    rw [e]
theorem flows_at {pump : Int} {i : Nat} (hi : i < h.branches.length) : (flowsL h pump).getD i 0 = max (feedOf h pump (flowsL h pump) i - (h.branches.getD i default).leak) 0 := by
  rw [← feed_same ok hi]
  exact flowsTo_getD h pump hi
theorem open_nonneg (u : Int) {n : Nat} (hn : n ≤ h.branches.length) : 0 ≤ sumOpen h u n := sum_nonneg fun k hk => by
  have := (ok.branch k (by omega)).2.1
  split <;> omega
theorem open_le (u : Int) {n : Nat} (hn : n ≤ h.branches.length) : sumOpen h u n ≤ 1600 := by
  have h1 := sum_le (f := fun k => if (h.branches.getD k default).up = u then (h.branches.getD k default).opn else 0) (n := n) (M := 100) fun k hk => by
    have := (ok.branch k (by omega)).2.1
    split <;> omega
  have h2 := ok.b2
  change sumOpen h u n ≤ _ at h1
  omega
theorem open_one {k : Nat} (hk : k < h.branches.length) : (h.branches.getD k default).opn ≤ sumOpen h (h.branches.getD k default).up h.branches.length := by
  have := sum_one (f := fun j => if (h.branches.getD j default).up = (h.branches.getD k default).up then (h.branches.getD j default).opn else 0) hk fun j hj => by
    have := (ok.branch j hj).2.1
    split <;> omega
  rw [if_pos rfl] at this
  exact this
omit ok in
theorem share_le {x o s : Int} (hx : 0 ≤ x) (ho : 0 ≤ o) (hos : o ≤ s) (hs : 0 < s) : 0 ≤ x * o / s ∧ x * o / s ≤ x := by
  constructor
  · exact Int.ediv_nonneg (Int.mul_nonneg hx ho) (by omega)
  · have h1 : x * o ≤ x * s := Int.mul_le_mul_of_nonneg_left hos hx
    have h2 := Int.ediv_le_ediv hs h1
    rwa [Int.mul_ediv_cancel _ (by omega)] at h2
theorem flows_rng {pump : Int} (hp : 0 ≤ pump) : ∀ i, i < h.branches.length → 0 ≤ (flowsL h pump).getD i 0 ∧ (flowsL h pump).getD i 0 ≤ pump := by
  intro i
  induction i using Nat.strongRecOn with
  | _ i ih =>
    intro hi
    rw [flows_at ok hi]
    have hlk := (ok.branch i hi).2.2
    have hfd : 0 ≤ feedOf h pump (flowsL h pump) i ∧ feedOf h pump (flowsL h pump) i ≤ pump := by
      unfold feedOf
      by_cases h0 : i = 0
      · rw [if_pos h0]; omega
      · rw [if_neg h0]
        obtain ⟨h1, h2⟩ := up_of ok hi h0
        split
        · rename_i hs
          have h3 := ih _ (show (h.branches.getD i default).up.toNat < i by omega) (by omega)
          have h4 := (ok.branch i hi).2.1
          have h5 := share_le h3.1 h4.1 (open_one ok hi) hs
          omega
        · omega
    omega
end
/-- i is j, or j hangs on it, directly or not. -/
inductive Sub (h : Hall) : Nat → Nat → Prop
  | self (i : Nat) : Sub h i i
  | step {i j : Nat} (hj : j < h.branches.length) (h0 : j ≠ 0) (s : Sub h i (h.branches.getD j default).up.toNat) : Sub h i j
section
variable {h : Hall} (ok : HOk h)
include ok
theorem Sub.le {i j : Nat} (s : Sub h i j) : i ≤ j := by
  induction s with
  | self => exact Nat.le_refl _
  | step hj h0 s ih =>
    have := up_of ok hj h0
    omega
omit ok in
theorem Sub.chain {a b j : Nat} (s : Sub h a j) : Sub h b j → Sub h a b ∨ Sub h b a := by
  induction s with
  | self => intro t; exact .inr t
  | step hj h0 s ih =>
    intro t
    cases t with
    | self => exact .inl (.step hj h0 s)
    | step hj' h0' t => exact ih t
theorem Sub.one {c d i j : Nat} (s : Sub h c j) (t : Sub h d j) (hc : c < h.branches.length) (hd : d < h.branches.length) (hc0 : c ≠ 0) (hd0 : d ≠ 0) (uc : (h.branches.getD c default).up = i) (ud : (h.branches.getD d default).up = i) : c = d := by
  have h1 := up_of ok hc hc0
  have h2 := up_of ok hd hd0
  rcases s.chain t with h3 | h3
  · cases h3 with
    | self => rfl
    | step hj h0 h4 =>
      have := h4.le ok
      omega
  · cases h3 with
    | self => rfl
    | step hj h0 h4 =>
      have := h4.le ok
      omega
theorem Sub.split {i j : Nat} (s : Sub h i j) : i = j ∨ ∃ c, c < h.branches.length ∧ c ≠ 0 ∧ (h.branches.getD c default).up = i ∧ Sub h c j := by
  induction s with
  | self => exact .inl rfl
  | @step j hj h0 s ih =>
    right
    have h1 := up_of ok hj h0
    rcases ih with h2 | ⟨c, a, b, d, e⟩
    · exact ⟨j, hj, h0, by omega, .self j⟩
    · exact ⟨c, a, b, d, .step hj h0 e⟩
omit ok in
theorem Sub.under {i c j : Nat} (hc : c < h.branches.length) (h0 : c ≠ 0) (u : (h.branches.getD c default).up = i) (s : Sub h c j) : Sub h i j := by
  induction s with
  | self => exact .step hc h0 (by rw [u]; simpa using Sub.self i)
  | step hj h0 s ih => exact .step hj h0 ih
theorem zero_below {pump : Int} {i j : Nat} (hs : ¬ 0 < sumOpen h i h.branches.length) (s : Sub h i j) : j ≠ i → (flowsL h pump).getD j 0 = 0 := by
  induction s with
  | self => intro hn; exact absurd rfl hn
  | @step j hj h0 s ih =>
    intro _
    have h1 := up_of ok hj h0
    have h2 := (ok.branch j hj).2.2
    rw [flows_at ok hj]
    have h3 : feedOf h pump (flowsL h pump) j = 0 := by
      unfold feedOf
      rw [if_neg h0]
      by_cases hu : (h.branches.getD j default).up.toNat = i
      · rw [if_neg]
        rw [show (h.branches.getD j default).up = (i : Int) by omega]
        exact hs
      · rw [ih hu]
        split
        · simp
        · rfl
    rw [h3]
    omega
end
end Go.X

/- Days on a market: what the functions compute. No condition. -/
set_option linter.unusedVariables false
namespace Go.X
structure KHour where
  buy : Int
  sell : Int
  sun : Int
  load : Int
  carbon : Int
  water : Int
deriving DecidableEq, Inhabited
structure KStore where
  energy : Int
  full : Int
  power : Int
  fin : Int
deriving DecidableEq, Inhabited
structure KJob where
  beg : Int
  fin : Int
  hours : Int
  power : Int
deriving DecidableEq, Inhabited
structure KDay where
  hours : List KHour
  store : KStore
  jobs : List KJob
  most : Int
  peak : Int
structure KPlan where
  starts : List Int
  charge : List Int
  cost : Int
structure KOffer where
  beg : Int
  fin : Int
  power : Int
  hours : Int
  calls : Int
  pause : Int
deriving DecidableEq
structure KRow where
  bought : Int
  sold : Int
  made : Int
  used : Int
  stored : Int
  carbon : Int
  water : Int
deriving DecidableEq, Inhabited
def kout (m n : Int) : Bool := decide (n < 0) || decide (m < n)
def kin (m : Int) (l : List Int) : Bool := !(l.any (kout m))
theorem kout_false {m n : Int} : kout m n = false ↔ 0 ≤ n ∧ n ≤ m := by
  unfold kout
  rw [Bool.or_eq_false_iff, decide_eq_false_iff_not, decide_eq_false_iff_not]; omega
theorem kin_one {m n : Int} : kin m [n] = true ↔ 0 ≤ n ∧ n ≤ m := by
  unfold kin
  rw [Bool.not_eq_true', List.any_cons, List.any_nil, Bool.or_false, kout_false]
theorem kin_two {m a b : Int} : kin m [a, b] = true ↔ (0 ≤ a ∧ a ≤ m) ∧ (0 ≤ b ∧ b ≤ m) := by
  unfold kin
  rw [Bool.not_eq_true', List.any_cons, List.any_cons, List.any_nil, Bool.or_false, Bool.or_eq_false_iff, kout_false, kout_false]
def hourR (h : KHour) : Bool := ((kin 1000 [h.buy, h.sell] && decide (h.sell ≤ h.buy)) && kin 40 [h.sun, h.load]) && kin 10000 [h.carbon, h.water]
def storeR (s : KStore) : Bool := kin 10 [s.full, s.power] && kin s.full [s.energy, s.fin]
def jobR (n : Int) (j : KJob) : Bool := ((kin n [j.beg, j.fin] && decide (1 ≤ j.hours)) && decide (j.hours ≤ j.fin - j.beg)) && kin 20 [j.power]
structure HourOk (h : KHour) : Prop where
  b0 : 0 ≤ h.buy
  b1 : h.buy ≤ 1000
  s0 : 0 ≤ h.sell
  s1 : h.sell ≤ h.buy
  u0 : 0 ≤ h.sun
  u1 : h.sun ≤ 40
  l0 : 0 ≤ h.load
  l1 : h.load ≤ 40
  c0 : 0 ≤ h.carbon
  c1 : h.carbon ≤ 10000
  w0 : 0 ≤ h.water
  w1 : h.water ≤ 10000
theorem hourR_iff {h : KHour} : hourR h = true ↔ HourOk h := by
  unfold hourR
  rw [Bool.and_eq_true, Bool.and_eq_true, Bool.and_eq_true, kin_two, kin_two, kin_two, decide_eq_true_eq]
  constructor
  · intro hh; exact ⟨by omega, by omega, by omega, by omega, by omega, by omega, by omega, by omega, by omega, by omega, by omega, by omega⟩
  · intro k
    have := k.b0; have := k.b1; have := k.s0; have := k.s1; have := k.u0; have := k.u1; have := k.l0; have := k.l1; have := k.c0; have := k.c1; have := k.w0; have := k.w1
    omega
structure StoreOk (s : KStore) : Prop where
  f0 : 0 ≤ s.full
  f1 : s.full ≤ 10
  p0 : 0 ≤ s.power
  p1 : s.power ≤ 10
  e0 : 0 ≤ s.energy
  e1 : s.energy ≤ s.full
  n0 : 0 ≤ s.fin
  n1 : s.fin ≤ s.full
theorem storeR_iff {s : KStore} : storeR s = true ↔ StoreOk s := by
  unfold storeR
  rw [Bool.and_eq_true, kin_two, kin_two]
  constructor
  · intro hh; exact ⟨by omega, by omega, by omega, by omega, by omega, by omega, by omega, by omega⟩
  · intro k
    have := k.f0; have := k.f1; have := k.p0; have := k.p1; have := k.e0; have := k.e1; have := k.n0; have := k.n1
    omega
structure JobOk (n : Int) (j : KJob) : Prop where
  b0 : 0 ≤ j.beg
  b1 : j.beg + j.hours ≤ j.fin
  t1 : j.fin ≤ n
  h0 : 1 ≤ j.hours
  p0 : 0 ≤ j.power
  p1 : j.power ≤ 20
theorem jobR_iff {n : Int} {j : KJob} : jobR n j = true ↔ JobOk n j := by
  unfold jobR
  rw [Bool.and_eq_true, Bool.and_eq_true, Bool.and_eq_true, kin_two, kin_one, decide_eq_true_eq, decide_eq_true_eq]
  constructor
  · intro hh; exact ⟨by omega, by omega, by omega, by omega, by omega, by omega⟩
  · intro k
    have := k.b0; have := k.b1; have := k.t1; have := k.h0; have := k.p0; have := k.p1
    omega
def spanS (j : KJob) : Int := j.fin - j.hours - j.beg + 1
def prodS (js : List KJob) : Nat → Int
  | 0 => 1
  | i + 1 => prodS js i * spanS (js.getD i default)
def kbad (d : KDay) : Bool := (((d.hours.any (fun h => !hourR h) || !storeR d.store) || d.jobs.any (fun j => !jobR d.hours.length j)) || !kin 40 [d.most]) || !kin 1000 [d.peak]
def kcheck (d : KDay) : Int :=
  if ((d.hours.length : Int) < 1 ∨ (24 : Int) < d.hours.length) ∨ (2 : Int) < d.jobs.length then 2 else if kbad d = true then 6 else if 8 < prodS d.jobs d.jobs.length then 8 else 0
structure DayOk (d : KDay) : Prop where
  h1 : 1 ≤ d.hours.length
  h2 : d.hours.length ≤ 24
  j2 : d.jobs.length ≤ 2
  hour : ∀ i, i < d.hours.length → HourOk (d.hours.getD i default)
  store : StoreOk d.store
  job : ∀ i, i < d.jobs.length → JobOk d.hours.length (d.jobs.getD i default)
  m0 : 0 ≤ d.most
  m1 : d.most ≤ 40
  p0 : 0 ≤ d.peak
  p1 : d.peak ≤ 1000
  few : prodS d.jobs d.jobs.length ≤ 8
theorem any_false_iff {α : Type} [Inhabited α] {p : α → Bool} {l : List α} : l.any p = false ↔ ∀ i, i < l.length → p (l.getD i default) = false := by
  rw [List.any_eq_false]
  constructor
  · intro h i hi
    have := h (l.getD i default) (getD_mem hi)
    simpa using this
  · intro h x hx
    obtain ⟨i, hi, rfl⟩ := List.mem_iff_getElem.1 hx
    have := h i hi
    rw [List.getD_eq_getElem?_getD, List.getElem?_eq_getElem hi] at this
    simpa using this
theorem kbad_false {d : KDay} : kbad d = false ↔ (∀ i, i < d.hours.length → HourOk (d.hours.getD i default)) ∧ StoreOk d.store ∧ (∀ i, i < d.jobs.length → JobOk d.hours.length (d.jobs.getD i default)) ∧ (0 ≤ d.most ∧ d.most ≤ 40) ∧ 0 ≤ d.peak ∧ d.peak ≤ 1000 := by
  unfold kbad
  simp only [Bool.or_eq_false_iff, any_false_iff, Bool.not_eq_false', hourR_iff, storeR_iff, jobR_iff, kin_one]
  constructor
  · rintro ⟨⟨⟨⟨a, b⟩, c⟩, e⟩, f⟩; exact ⟨a, b, c, e, f⟩
  · rintro ⟨a, b, c, e, f⟩; exact ⟨⟨⟨⟨a, b⟩, c⟩, e⟩, f⟩
theorem kcheck_iff {d : KDay} : kcheck d = 0 ↔ DayOk d := by
  unfold kcheck
  constructor
  · intro h
    split at h
    · cases h
    · rename_i h1
      split at h
      · cases h
      · rename_i h2
        split at h
        · cases h
        · rename_i h3
          obtain ⟨a, b, c, e, f⟩ := kbad_false.1 (Bool.eq_false_iff.2 h2)
          exact ⟨by omega, by omega, by omega, a, b, c, e.1, e.2, f.1, f.2, by omega⟩
  · intro k
    have := k.h1; have := k.h2; have := k.j2; have := k.few
    rw [if_neg (by omega), if_neg (Bool.eq_false_iff.1 (kbad_false.2 ⟨k.hour, k.store, k.job, ⟨k.m0, k.m1⟩, k.p0, k.p1⟩)), if_neg (by omega)]
/-! ### lists of starts -/
def begs (j : KJob) : List Int := (List.range (spanS j).toNat).map fun (k : Nat) => j.beg + (k : Int)
def addJob (out : List (List Int)) (j : KJob) : List (List Int) := out.flatMap fun l => (begs j).map fun t => l ++ [t]
def startsTo (js : List KJob) : Nat → List (List Int)
  | 0 => [[]]
  | i + 1 => addJob (startsTo js i) (js.getD i default)
def startsL (d : KDay) : List (List Int) := startsTo d.jobs d.jobs.length
/-! ### needs -/
def busy (j : KJob) (s : Int) (i : Nat) : Int := if s ≤ (i : Int) ∧ (i : Int) < s + j.hours then j.power else 0
def usedAt (d : KDay) (s : List Int) (i : Nat) : Nat → Int
  | 0 => (d.hours.getD i default).load
  | k + 1 => usedAt d s i k + busy (d.jobs.getD k default) (s.getD k default) i
def usedL (d : KDay) (s : List Int) : List Int := (List.range d.hours.length).map fun i => usedAt d s i d.jobs.length
def needsL (d : KDay) (s : List Int) : List Int := (List.range d.hours.length).map fun i => usedAt d s i d.jobs.length - (d.hours.getD i default).sun
def priceH (h : KHour) (n : Int) : Int := max n 0 * h.buy - max (-n) 0 * h.sell
/-! ### plans -/
def energyTo (d : KDay) (ch : List Int) : Nat → Int
  | 0 => d.store.energy
  | i + 1 => energyTo d ch i + ch.getD i default
def okAt (d : KDay) (base ch : List Int) (i : Nat) : Bool :=
  ((!decide (ch.getD i default < -d.store.power) && !decide (d.store.power < ch.getD i default)) && kin d.store.full [energyTo d ch i + ch.getD i default]) && !decide (d.most < base.getD i default + ch.getD i default)
def formG (d : KDay) (p : KPlan) : List Int × Int :=
  if kcheck d ≠ 0 then ([], kcheck d) else if ¬ (startsL d).any (fun l => decide (l = p.starts)) = true ∨ (p.charge.length : Int) ≠ d.hours.length then ([], 1)
  else if ¬ allTo (okAt d (needsL d p.starts) p.charge) p.charge.length = true then ([], 120) else if energyTo d p.charge p.charge.length < d.store.fin then ([], 120) else (needsL d p.starts, 0)
def costTo (d : KDay) (base ch : List Int) : Nat → Int
  | 0 => 0
  | i + 1 => costTo d base ch i + priceH (d.hours.getD i default) (base.getD i default + ch.getD i default)
def peakTo (base ch : List Int) : Nat → Int
  | 0 => 0
  | i + 1 => max (peakTo base ch i) (base.getD i default + ch.getD i default)
def costL (d : KDay) (base ch : List Int) : Int := costTo d base ch ch.length + d.peak * peakTo base ch ch.length
def costG (d : KDay) (p : KPlan) : Int × Int := if (formG d p).2 ≠ 0 then (0, (formG d p).2) else (costL d (formG d p).1 p.charge, 0)
/-! ### tables -/
def never : Int := 1000000000000000
def lowC (d : KDay) (e : Int) : Int := max (-d.store.power) (-e)
def highC (d : KDay) (n e : Int) : Int := min (min d.store.power (d.store.full - e)) (d.most - n)
def cntC (d : KDay) (n e : Int) : Nat := (highC d n e - lowC d e + 1).toNat
/-- One more charge is seen; 'v' says what follows the next states. -/
def seeC (h : KHour) (n e m : Int) (v : Int → Int → Int) (c acc : Int) : Int := if v (e + c) (max m (n + c)) < never then min acc (priceH h (n + c) + v (e + c) (max m (n + c))) else acc
def leastN (h : KHour) (n e m : Int) (v : Int → Int → Int) (low : Int) : Nat → Int
  | 0 => never
  | k + 1 => seeC h n e m v (low + (k : Int)) (leastN h n e m v low k)
/-- The least cost of what follows a state with k hours to come. -/
def valueT (d : KDay) (base : List Int) : Nat → Int → Int → Int
  | 0, e, m => if e < d.store.fin then never else d.peak * m
  | k + 1, e, m => leastN (d.hours.getD (d.hours.length - (k + 1)) default) (base.getD (d.hours.length - (k + 1)) default) e m (valueT d base k) (lowC d e) (cntC d (base.getD (d.hours.length - (k + 1)) default) e)
def valH (d : KDay) (base : List Int) (hour : Nat) (e m : Int) : Int := valueT d base (d.hours.length - hour) e m
def atK (d : KDay) (h e m : Int) : Int := (h * (d.store.full + 1) + e) * (d.most + 1) + m
/-- The first charge with which a state's value is met. -/
def hitC (h : KHour) (n e m : Int) (v : Int → Int → Int) (now c : Int) : Bool := decide (v (e + c) (max m (n + c)) < never) && decide (priceH h (n + c) + v (e + c) (max m (n + c)) = now)
def firstC (h : KHour) (n e m : Int) (v : Int → Int → Int) (now low : Int) : Nat → Option Int
  | 0 => none
  | k + 1 => match firstC h n e m v now low k with
    | some c => some c
    | none => if hitC h n e m v now (low + (k : Int)) = true then some (low + (k : Int)) else none
structure KSt where
  l : List Int
  e : Int
  m : Int
def planTo (d : KDay) (base : List Int) : Nat → KSt
  | 0 => ⟨[], d.store.energy, 0⟩
  | i + 1 => match firstC (d.hours.getD i default) (base.getD i default) (planTo d base i).e (planTo d base i).m (valH d base (i + 1)) (valH d base i (planTo d base i).e (planTo d base i).m) (lowC d (planTo d base i).e) (cntC d (base.getD i default) (planTo d base i).e) with
    | some c => ⟨(planTo d base i).l ++ [c], (planTo d base i).e + c, max (planTo d base i).m (base.getD i default + c)⟩
    | none => planTo d base i
def planL (d : KDay) (base : List Int) : List Int := (planTo d base d.hours.length).l
def bestTo (d : KDay) : Nat → KPlan
  | 0 => ⟨[], [], never⟩
  | i + 1 => if valH d (needsL d ((startsL d).getD i default)) 0 d.store.energy 0 < (bestTo d i).cost then ⟨(startsL d).getD i default, planL d (needsL d ((startsL d).getD i default)), valH d (needsL d ((startsL d).getD i default)) 0 d.store.energy 0⟩ else bestTo d i
def bestP (d : KDay) : KPlan := bestTo d (startsL d).length
def bestG (d : KDay) : KPlan × Int := if kcheck d ≠ 0 then (⟨[], [], 0⟩, kcheck d) else if (bestP d).cost = never then (⟨[], [], 0⟩, 4) else (bestP d, 0)
/-! ### offers -/
def offerR (o : KOffer) (n : Int) : Bool := ((((((kin n [o.beg, o.fin] && decide (o.beg ≤ o.fin)) && decide (1 ≤ o.power)) && decide (o.power ≤ 40)) && decide (1 ≤ o.hours)) && kin 4 [o.calls]) && kin 24 [o.pause])
/-! ### ledgers -/
def rowAt (d : KDay) (base use ch : List Int) (i : Nat) : KRow :=
  let n := base.getD i default + ch.getD i default
  ⟨max n 0, max (-n) 0, (d.hours.getD i default).sun, use.getD i default, ch.getD i default, max n 0 * (d.hours.getD i default).carbon, use.getD i default * (d.hours.getD i default).water⟩
def addRow (a b : KRow) : KRow := ⟨a.bought + b.bought, a.sold + b.sold, a.made + b.made, a.used + b.used, a.stored + b.stored, a.carbon + b.carbon, a.water + b.water⟩
def sumRow (f : Nat → KRow) : Nat → KRow
  | 0 => ⟨0, 0, 0, 0, 0, 0, 0⟩
  | n + 1 => addRow (sumRow f n) (f n)
def ledgerG (d : KDay) (p : KPlan) : List KRow × KRow × Int :=
  if (formG d p).2 ≠ 0 then ([], ⟨0, 0, 0, 0, 0, 0, 0⟩, (formG d p).2)
  else ((List.range d.hours.length).map (rowAt d (formG d p).1 (usedL d p.starts) p.charge), sumRow (rowAt d (formG d p).1 (usedL d p.starts) p.charge) d.hours.length, 0)
end Go.X
