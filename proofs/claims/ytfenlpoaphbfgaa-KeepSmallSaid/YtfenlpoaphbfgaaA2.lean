/- A part of the proof: a small program logic, plain laws and contracts of functions, each proved by a walk through its operations. No condition but those that stand in each theorem. -/
import Derived.Test.YtfenlpoaphbfgaaA1
import Derived.Carry
import Derived.Deep.Grids
import Derived.KernelRfl
import Derived.OpenShut
import Derived.ProofKit
import Derived.SizedLaws
import Derived.Test.YtfenlpoaphbfgaaProg
/- Loops over functions: the rounds, the loop, an iterator's contract. No condition. -/
set_option linter.unusedSimpArgs false
set_option linter.unusedVariables false
namespace Go.X

/-! ### a round -/
def rdy (l : Nat) (rec : Loop) : PHeap := sing l (.loop { rec with state := .ready, pending := none })
def bsy (l : Nat) (rec : Loop) : PHeap := sing l (.loop { rec with state := .busy, pending := none })
def ovr (l : Nat) (rec : Loop) (j : Option Code) : PHeap := sing l (.loop { rec with state := if j.isNone then .ready else .done, pending := j })
theorem ovr_none (l : Nat) (rec : Loop) : ovr l rec none = rdy l rec := rfl
def Leaves : Option Code → List Item → Prop
  | none, [] => True
  | some .ret, .code .ret :: _ => True
  | some (.exit id), .code (.exit id') :: k => id = id' ∧ exitTo id k = none
  | _, _ => False
/-- The frame of a round; at its end: the jump, the heaps. -/
abbrev rcx (P : Program) (f : FuncId) (N : Nat) (l : Nat) (rec : Loop) (B : PHeap) (R : Option Code → List PHeap → Prop) : Cx :=
  { P, f, rd := some l, N, B, E := fun fr w' => ∃ j k a ds hs, fr = mk f (some l) a (marks ds) k ∧ Leaves j k ∧ R j hs ∧ Sep (bsy l rec :: hs) [B] w' }
section
variable {P : Program} {f : FuncId} {N l : Nat} {rec : Loop} {B : PHeap} {R : Option Code → List PHeap → Prop} {k : List Item} {e : Env} {o o1 r : List PHeap}
theorem Sep.turn {b : Nat} {x y : Obj} {o r : List PHeap} {w : World} (s : Sep (sing b x :: o) r w) : Sep (sing b y :: o) r (w.putObj b y) ∧ w.heap[b]? = some x := by
  have hb : w.heap[b]? = some x := s.so _ List.mem_cons_self b x (sing_self b x)
  have hlt : b < w.heap.size := (Array.getElem?_eq_some_iff.1 hb).1
  refine ⟨s.swap (fun x' hx' => ?_) (fun x' ob hx' => ?_) (fun x' hx' => ?_) rfl rfl, hb⟩
  · unfold sing at *; dsimp only at hx' ⊢; split at hx'
    · cases hx'
    · simp [*]
  · obtain ⟨rfl, rfl⟩ := sing_some hx'
    exact World.putObj_heap_same hlt
  · refine World.putObj_heap_other ?_
    rintro rfl
    rw [sing_self] at hx'; cases hx'
theorem XK.beginRound [t : Take (rdy l rec) o o1] (h : XK (rcx P f N l rec B R) k e (bsy l rec :: o1) r) : XK (rcx P f N l rec B R) (.beginRound :: k) e o r := fun D ds a w cs ha he hD hm => by
  have hp : (D :: o).Perm (rdy l rec :: D :: o1) := (t.pf.cons D).trans (List.Perm.swap _ _ _)
  obtain ⟨h1, hb⟩ := Sep.turn (y := .loop { rec with state := .busy, pending := none }) (hm.perm hp)
  obtain ⟨fr, w', hE, st⟩ := h D ds a _ cs ha he hD (h1.perm (List.Perm.swap _ _ _))
  refine ⟨fr, w', hE, .head (step_lone_go ?_) st⟩
  have hr := run_beginRound (P := P) hb rfl
  simp [stepG, stepG.exec, stepG.apply, mk, Sem.runT_eq, hr, Result.andThen, Frame.finish]
theorem XK.leave {j : Option Code} (hs : List PHeap) [p : Wk o (bsy l rec :: hs)] (hj : Leaves j k) (hR : R j hs) : XK (rcx P f N l rec B R) k e o r := fun D ds a w cs ha he hD hm =>
  ⟨_, w, ⟨j, k, a, ds, hs, rfl, hj, hR, (p.sep hm.tail).reads (fun g hg => by simp at hg; subst hg; exact List.mem_cons_self)⟩, .refl _ _⟩
theorem step_leave {j : Option Code} {a : Array Value} {ds : List Deferred} {c0 : Frame} {cs : List Frame} {w w' : World} {v : Value} (hj : Leaves j k) (hr : (Instr.endRound l j).run P w = .ok v w') :
    step P (lone (mk f (some l) a ds k) (c0 :: cs) w) = .next (lone (c0.finish v) cs w') := by
  unfold Leaves at hj
  split at hj
  · exact step_lone_go (by simp [stepG, stepG.exec, mk, Sem.runT_eq, hr, doReturn])
  · exact step_lone_go (by simp [stepG, stepG.exec, mk, Sem.runT_eq, hr, doReturn])
  · obtain ⟨rfl, hx⟩ := hj
    exact step_lone_go (by simp [stepG, stepG.exec, mk, hx, Sem.runT_eq, hr, doReturn])
  · exact hj.elim
def pars : List Tmp → List Value → Env → Env
  | p :: ps, v :: vs, e => pars ps vs ((p, some v) :: e)
  | _, _, e => e
theorem pars_rel : ∀ (ps : List Tmp) (vs : List Value) (e : Env) (a : Array Value), (∀ p ∈ ps, p < a.size) → ERel e a →
    ERel (pars ps vs e) ((ps.zip vs).foldl (fun tmps (t, x) => tmps.setIfInBounds t x) a) ∧ ((ps.zip vs).foldl (fun tmps (t, x) => tmps.setIfInBounds t x) a).size = a.size
  | [], vs, e, a, _, he => by cases vs <;> exact ⟨he, rfl⟩
  | p :: ps, [], e, a, _, he => ⟨he, rfl⟩
  | p :: ps, v :: vs, e, a, hp, he => by
    have h1 : ERel ((p, some v) :: e) (a.setIfInBounds p v) := he.put (hp p List.mem_cons_self)
    obtain ⟨h2, h3⟩ := pars_rel ps vs _ (a.setIfInBounds p v) (fun q hq => by simp; exact hp q (List.mem_cons_of_mem _ hq)) h1
    exact ⟨h2, by rw [List.zip_cons_cons, List.foldl_cons]; rw [h3]; simp⟩
/-- A call of yield is a round. -/
theorem VSpec.round {Hr hs0 : List PHeap} {ps : List Tmp} {vs : List Value} {asn bd : Code} {L0 : Nat} {a : Array Value} (hrec : rec = { state := .ready, pending := none, fn := f, tmps := a, params := ps.toArray, assign := asn, body := bd, defers := L0 })
    (hN : a.size = N) (he : ERel e a) (hps : ∀ p ∈ ps, p < N) (hlen : vs.length = ps.length)
    (h : ∀ B, XK (rcx P f N l rec B R) [.code asn, .beginRound, .code bd] (pars ps vs e) (rdy l rec :: hs0) Hr) :
    VSpec P (.func (.yield l) #[] #[]) vs (rdy l rec :: hs0) Hr (fun v hs => ∃ j hs', v = .bool (Option.isNone j) ∧ hs = ovr l rec j :: hs' ∧ R j hs') := fun o r w hs hr => by
  have hb : w.heap[l]? = some (.loop { rec with state := .ready, pending := none }) := hs.so _ List.mem_cons_self l _ (sing_self _ _)
  have hrun : (callv (.func (.yield l) #[] #[]) vs.toArray).run P w =
      .ok (.round l f ((ps.zip vs).foldl (fun tmps (t, x) => tmps.setIfInBounds t x) a) asn bd) w := by
    unfold callv
    have e1 : (Deferred.ofValue (.func (.yield l) #[] #[]) vs.toArray).run P w = .ok { target := .fn (.yield l) #[], args := #[] ++ vs.toArray } w := rfl
    rw [bind_ok e1]
    simp only [invoke, Array.empty_append]
    rw [run_yield hb (by subst hrec; simp [hlen])]
    subst hrec
    simp [List.zip_toArray, List.foldl_toArray]
  unfold NDoes
  rw [hrun]
  intro c0 cs
  obtain ⟨hr1, hr2⟩ := pars_rel ps vs e a (fun p hp => hN ▸ hps p hp) he
  obtain ⟨fr, w', ⟨j, k, a', ds, hs', rfl, hj, hR, hS⟩, st⟩ := h (hole w (rdy l rec :: hs0)) emp [] _ w (c0 :: cs) (hr2.trans hN) hr1 ⟨List.nodup_nil, fun b => by simp [emp]⟩ (frame_in hs hr).empC
  obtain ⟨hS2, hb2⟩ := Sep.turn (y := .loop { rec with state := if j.isNone then .ready else .done, pending := j }) hS
  have hend := run_endRound (P := P) j hb2
  refine ⟨_, _, ⟨_, ⟨j, hs', rfl, rfl, hR⟩, frame_out hs hS2⟩, ?_⟩
  refine Steps.trans ?_ (.one (step_leave (f := f) (a := a') (ds := marks ds) (c0 := c0) (cs := cs) hj hend))
  exact st
end

/-! ### the loop -/
theorem NDoes.mono {P : Program} {s : Sem Next} {w : World} {Q R : Value → World → Prop} (h : NDoes P s w Q) (m : ∀ v w', Q v w' → R v w') : NDoes P s w R := by
  unfold NDoes at *
  split at h
  · exact h.mono fun e w'' ⟨v, he, hv⟩ => ⟨v, he, m _ _ hv⟩
  · exact fun c0 cs => let ⟨v, w', hv, hs⟩ := h c0 cs; ⟨v, w', m _ _ hv, hs⟩
  · exact h.elim
theorem VSpec.mono {P : Program} {y : Value} {vs : List Value} {Hm Hr : List PHeap} {R R' : Value → List PHeap → Prop} (h : VSpec P y vs Hm Hr R) (m : ∀ v hs, R v hs → R' v hs) : VSpec P y vs Hm Hr R' :=
  fun o r w hs hr => (h o r w hs hr).mono fun v _ ⟨hs', hR, hS⟩ => ⟨hs', m v hs' hR, hS⟩
theorem VSpec.joined {P : Program} {y : Value} {vs : List Value} {Hm Hr : List PHeap} {R : Value → List PHeap → Prop} (h : VSpec P y vs Hm Hr R) (hp : PD Hm) :
    VSpec P y vs [join Hm] Hr (fun v hs => ∃ hs', R v hs' ∧ PD hs' ∧ hs = [join hs']) := fun o r w hs hr =>
  (h o r w (Sep.split hp hs) hr).mono fun v _ ⟨hs', hR, hS⟩ => ⟨_, ⟨hs', hR, ⟨hS.left.pw, hS.left.no⟩, rfl⟩, hS.join⟩
/-- An iterator: it yields the items, one after the other, till a call of yield answers false. -/
def It (P : Program) (y : Value) (items : List (List Value)) (Hg : List PHeap) : Prop :=
  ∀ (f : Value) (Hr : List PHeap) (Q : Nat → PHeap → Prop) (X : PHeap → Prop),
    (∀ i, i < items.length → ∀ q, Q i q → VSpec P f (items.getD i []) [q] Hr (fun v hs => ∃ b q', v = .bool b ∧ hs = [q'] ∧ (b = true → Q (i + 1) q') ∧ (b = false → X q'))) →
    ∀ q, Q 0 q → VSpec P y [f] [q] (Hg ++ Hr) (fun _ hs => ∃ q', hs = [q'] ∧ (Q items.length q' ∨ X q'))
theorem step_range {P : Program} {f : FuncId} {a : Array Value} {ds mark : List Deferred} {k : List Item} {cs : List Frame} {w w1 : World} {l : Nat} {x : Operand} {y : Value} {ps : Array Tmp} {asn bd : Code}
    {Post : Value → World → Prop} (he : (Instr.enterLoop f a ps asn bd none).run P w = .ok (l, mark) w1) (hx : evA a x = y) (h : NDoes P (callv y #[.func (.yield l) #[] #[]]) w1 Post) :
    ∃ v w', Post v w' ∧ Steps P (lone (mk f none a ds (.code (.rangeFunc x ps asn bd) :: k)) cs w) (lone (mk f none a (mark ++ ds) (.endRangeFunc l :: k)) cs w') := by
  have hev : ∀ z, (mk f none a (mark ++ ds) (.inRangeFunc l :: k)).eval z = evA a z := fun z => eval_mk z
  have hcall : (do
      let d ← resolve (mk f none a (mark ++ ds) (.inRangeFunc l :: k)).eval { callee := .value x, args := #[.const (.func (.yield l) #[] #[])], argTypes := #[] } 0
      invoke d.target d.args : Sem Next) = callv y #[.func (.yield l) #[] #[]] := by
    simp only [resolve, hev, hx, callv]
    simp [eval_mk, evA]
  simp only [mk] at hcall
  have hfin : ∀ v, (mk f none a (mark ++ ds) (.inRangeFunc l :: k)).finish v = mk f none a (mark ++ ds) (.endRangeFunc l :: k) := fun v => by simp [Frame.finish, mk]
  unfold NDoes at h
  split at h
  · rename_i g args w' hr
    obtain ⟨e, w'', fr, ⟨v, rfl, hp⟩, hsteps, _, hleave⟩ := h (mk f none a (mark ++ ds) (.inRangeFunc l :: k) :: cs)
    have henter : step P (lone (mk f none a ds (.code (.rangeFunc x ps asn bd) :: k)) cs w) =
        .next (lone (Frame.enter P g args .normal) (mk f none a (mark ++ ds) (.inRangeFunc l :: k) :: cs) w') :=
      step_lone_go (by simp [stepG, stepG.exec, stepG.apply, mk, Sem.runT_eq, he, hcall, hr, GStep.bare_after])
    refine ⟨v, w'', hp, .head henter (Steps.trans hsteps ?_)⟩
    rw [← hfin v]; exact finish_returns hleave
  · rename_i l' g tmps asn' bd' w' hr
    obtain ⟨v, w'', hp, hs⟩ := h (mk f none a (mark ++ ds) (.inRangeFunc l :: k)) cs
    have henter : step P (lone (mk f none a ds (.code (.rangeFunc x ps asn bd) :: k)) cs w) =
        .next (lone (Frame.round l' g tmps asn' bd' .normal) (mk f none a (mark ++ ds) (.inRangeFunc l :: k) :: cs) w') :=
      step_lone_go (by simp [stepG, stepG.exec, stepG.apply, mk, Sem.runT_eq, he, hcall, hr, GStep.bare_after])
    refine ⟨v, w'', hp, .head henter ?_⟩
    rw [← hfin v]; exact hs
  · exact h.elim
theorem step_endRange {P : Program} {f : FuncId} {a : Array Value} {ds : List Deferred} {k : List Item} {cs : List Frame} {w w1 : World} {l : Nat} {j : Option Code}
    (h : (Instr.endLoop l).run P w = .ok j w1) : step P (lone (mk f none a ds (.endRangeFunc l :: k)) cs w) = .next (lone (mk f none a ds ((j.map Item.code).toList ++ k)) cs w1) :=
  step_lone_go (by simp [stepG, stepG.exec, mk, Sem.runT_eq, h, GStep.bare_after])
def RoundR {X : Type} (oc : X → List PHeap) (I : X → Prop) (J : Code → X → Prop) : Option Code → List PHeap → Prop
  | none, hs => ∃ x, I x ∧ hs = oc x
  | some j, hs => ∃ x, J j x ∧ hs = oc x
/-- A loop over a function in a frame that is no round. 'I i x': ahead of item i; 'J j x': a round has left the loop by the jump j. -/
theorem XK.range {P : Program} {f : FuncId} {N : Nat} {B : PHeap} {E : Frame → World → Prop} {X : Type} {k : List Item} {e : Env} {o ok r : List PHeap} {x : Operand} {y : Value} {ps : List Tmp} {asn bd : Code} {Hg : List PHeap} (items : List (List Value))
    (oc : X → List PHeap) (I : Nat → X → Prop) (J : Code → X → Prop) (x0 : X) (o0 : List PHeap) [rst : Rest o0 o ok] (ho0 : oc x0 = o0) (h0 : I 0 x0) (hx : ev e x = some y)
    (hit : It P y items Hg) [al : AllIn Hg ok (B :: r)] (hps : ps.all (fun p => Nat.blt p N) = true) (hlen : ∀ i, i < items.length → (items.getD i []).length = ps.length)
    (round : ∀ l rec B' i x, i < items.length → I i x → XK (rcx P f N l rec B' (RoundR oc (I (i + 1)) J)) [.code asn, .beginRound, .code bd] (pars ps (items.getD i []) e) (rdy l rec :: oc x) (ok ++ r))
    (cont : ∀ x, I items.length x → XK ⟨P, f, none, N, B, E⟩ k e (oc x ++ ok) r)
    (jump : ∀ j x, J j x → XK ⟨P, f, none, N, B, E⟩ (.code j :: k) e (oc x ++ ok) r) :
    XK ⟨P, f, none, N, B, E⟩ (.code (.rangeFunc x ps.toArray asn bd) :: k) e o r := fun D ds a w cs ha he hD hm => by
  have hm1 : Sep (D :: (o0 ++ ok)) (B :: r) w := rst.wk.sepD hm
  let rec' : Loop := { state := .ready, pending := none, fn := f, tmps := a, params := ps.toArray, assign := asn, body := bd, defers := w.heap.size }
  let l := w.heap.size + 1
  let w1 := (w.alloc (.deferred (some []))).alloc (.loop rec')
  have henter : (Instr.enterLoop f a ps.toArray asn bd none).run P w = .ok (l, [{ target := .collected w.heap.size, args := #[] }]) w1 := run_enterLoop_outer f a ps.toArray asn bd
  have hs1 : Sep (rdy l rec' :: sing w.heap.size (.deferred (some [])) :: D :: (o0 ++ ok)) (B :: r) w1 := by
    have := (hm1.push (.deferred (some []))).push (.loop rec')
    simp only [Array.size_push] at this
    exact this
  let D' := Go.X.join [sing w.heap.size (.deferred (some [])), D]
  have hs2 : Sep (D' :: rdy l rec' :: (o0 ++ ok)) (B :: r) w1 := by
    refine Sep.join (hs := [sing w.heap.size (.deferred (some [])), D]) (hs1.perm ?_)
    exact (List.Perm.swap _ _ _).trans ((List.Perm.swap _ _ _).cons _)
  have hD' : Marked D' (w.heap.size :: ds) := by
    refine ⟨List.nodup_cons.2 ⟨fun hmem => ?_, hD.1⟩, fun b => ?_⟩
    · have := sub_lt (hm.so D List.mem_cons_self) (b := w.heap.size) (o := .deferred (some [])) (by rw [hD.2, if_pos hmem])
      omega
    · simp only [D', Go.X.join, sing, emp, Option.or_none, hD.2 b, List.mem_cons]
      by_cases hb : b = w.heap.size
      · simp [hb]
      · simp [hb]
  have hs3 : Sep (Go.X.join (rdy l rec' :: o0) :: D' :: ok) (B :: r) w1 := Sep.join (hs := rdy l rec' :: o0) (hs2.perm (by
    simp only [List.cons_append]
    exact (List.Perm.swap _ _ _).trans (List.perm_middle.symm.cons _)))
  have hp0 : PD (rdy l rec' :: oc x0) := by
    rw [ho0]
    have hsub : (rdy l rec' :: o0).Sublist (rdy l rec' :: (o0 ++ ok)) := List.Sublist.cons_cons _ (List.sublist_append_left _ _)
    exact ⟨hs2.tail.pw.sublist hsub, fun h hh => hs2.tail.no h (hsub.mem hh)⟩
  have hpsN : ∀ p ∈ ps, p < N := fun p hp => by
    have := List.all_eq_true.1 hps p hp
    rwa [Nat.blt_eq] at this
  have hyield : ∀ i, i < items.length → ∀ q, (∃ x, I i x ∧ PD (rdy l rec' :: oc x) ∧ q = Go.X.join (rdy l rec' :: oc x)) →
      VSpec P (.func (.yield l) #[] #[]) (items.getD i []) [q] (ok ++ r) (fun v hs => ∃ b q', v = .bool b ∧ hs = [q'] ∧
        (b = true → ∃ x, I (i + 1) x ∧ PD (rdy l rec' :: oc x) ∧ q' = Go.X.join (rdy l rec' :: oc x)) ∧
        (b = false → ∃ j x, J j x ∧ PD (ovr l rec' (some j) :: oc x) ∧ q' = Go.X.join (ovr l rec' (some j) :: oc x))) := by
    rintro i hi q ⟨x, hI, hp, rfl⟩
    refine ((VSpec.round (rec := rec') (N := N) (e := e) rfl ha he hpsN (hlen i hi) (fun B' => round l rec' B' i x hi hI)).joined hp).mono ?_
    rintro v hs ⟨hs', ⟨j, hs'', rfl, rfl, hR⟩, hpw, rfl⟩
    refine ⟨_, _, rfl, rfl, ?_, ?_⟩
    · intro hj
      cases j with
      | some j => cases hj
      | none =>
        obtain ⟨x', h1, rfl⟩ := hR
        exact ⟨x', h1, hpw, rfl⟩
    · intro hj
      cases j with
      | none => cases hj
      | some j =>
        obtain ⟨x', h1, rfl⟩ := hR
        exact ⟨j, x', h1, hpw, rfl⟩
  have hN := hit _ (ok ++ r) _ _ hyield (Go.X.join (rdy l rec' :: o0)) ⟨x0, h0, hp0, by rw [ho0]⟩ (D' :: ok) (B :: r) w1 hs3 (fun h hh => by
    rcases List.mem_append.1 hh with hh | hh
    · exact orMap (al.pf h hh) (List.mem_cons_of_mem _) id
    · rcases List.mem_append.1 hh with hh | hh
      · exact .inl (List.mem_cons_of_mem _ hh)
      · exact .inr (List.mem_cons_of_mem _ hh))
  obtain ⟨v, w', ⟨hs', ⟨q', rfl, hq⟩, hS⟩, st⟩ := step_range (ds := marks ds) (k := k) (cs := cs) henter (ev_rel he hx) hN
  rcases hq with ⟨x', hI, hpw, rfl⟩ | ⟨j, x', hJ, hpw, rfl⟩
  · obtain ⟨hS2, hb⟩ := Sep.turn (y := .loop { rec' with state := .exhausted, pending := none }) (Sep.split hpw hS)
    obtain ⟨fr, w2, hE, st2⟩ := cont x' hI D' (w.heap.size :: ds) a _ cs ha he hD' (hS2.tail.perm List.perm_middle)
    exact ⟨fr, w2, hE, Steps.trans st (.head (step_endRange (run_endLoop hb (by simp))) st2)⟩
  · obtain ⟨hS2, hb⟩ := Sep.turn (y := .loop { rec' with state := .exhausted, pending := some j }) (Sep.split hpw hS)
    obtain ⟨fr, w2, hE, st2⟩ := jump j x' hJ D' (w.heap.size :: ds) a _ cs ha he hD' (hS2.tail.perm List.perm_middle)
    exact ⟨fr, w2, hE, Steps.trans st (.head (step_endRange (run_endLoop hb (by simp))) st2)⟩
end Go.X

/- Bits of unsigned numbers; copies between slices. No condition. -/
set_option linter.unusedSimpArgs false
set_option linter.unusedVariables false
namespace Go.X
section
variable {P : Program} {ops : Array Oper} {e : Env} {o r : List PHeap} {d : Option Tmp} {ty : TypeId} {pos : String} {aft : Array Edge}
theorem wrapu64 {n : Int} (h : 0 ≤ n ∧ n < 18446744073709551616) : IntKind.u64.wrap n = n := by
  have : IntKind.u64.wrap n = n % 18446744073709551616 := rfl
  rw [this]; omega
theorem Q.addU {t t2 : TypeId} {x y : Operand} {m n : Int} (hx : ev e x = some (.int .u64 m)) (hy : ev e y = some (.int .u64 n)) (h : 0 ≤ m + n ∧ m + n < 18446744073709551616) :
    Quiet P ops ⟨d, .binOp .add t x y t2, ty, pos, aft, none⟩ e o r (.int .u64 (m + n)) := by
  have := Q.addW (P := P) (ops := ops) (o := o) (r := r) (d := d) (ty := ty) (pos := pos) (aft := aft) (t := t) (t2 := t2) hx hy
  rwa [wrapu64 h] at this
theorem Q.mulU {t t2 : TypeId} {x y : Operand} {m n : Int} (hx : ev e x = some (.int .u64 m)) (hy : ev e y = some (.int .u64 n)) (h : 0 ≤ m * n ∧ m * n < 18446744073709551616) :
    Quiet P ops ⟨d, .binOp .mul t x y t2, ty, pos, aft, none⟩ e o r (.int .u64 (m * n)) := by
  have := Q.mulW (P := P) (ops := ops) (o := o) (r := r) (d := d) (ty := ty) (pos := pos) (aft := aft) (t := t) (t2 := t2) hx hy
  rwa [wrapu64 h] at this
/-- & with 2^32 - 1 -/
theorem Q.mask32 {t t2 : TypeId} {x y : Operand} {m : Int} (hx : ev e x = some (.int .u64 m)) (hy : ev e y = some (.int .u64 4294967295)) (h : 0 ≤ m ∧ m < 18446744073709551616) :
    Quiet P ops ⟨d, .binOp .and t x y t2, ty, pos, aft, none⟩ e o r (.int .u64 (m % 4294967296)) := Q.bin hx hy fun w => by
  obtain ⟨n, rfl⟩ := Int.eq_ofNat_of_zero_le h.1
  have hn : n < 18446744073709551616 := by omega
  have e1 : binOp .and t (.int .u64 (n : Int)) (.int .u64 4294967295) = Op.intBits .and .u64 (n : Int) 4294967295 := by simp [binOp]
  rw [e1]
  have e2 : (BitVec.ofInt 64 (n : Int) &&& BitVec.ofInt 64 4294967295).toNat = n % 4294967296 := by
    have e3 : BitVec.ofInt 64 (4294967295 : Int) = BitVec.ofNat 64 (2 ^ 32 - 1) := by decide
    rw [e3, BitVec.ofInt_natCast, BitVec.toNat_and, BitVec.toNat_ofNat, BitVec.toNat_ofNat, Nat.mod_eq_of_lt hn, Nat.mod_eq_of_lt (show 2 ^ 32 - 1 < 2 ^ 64 by decide), Nat.and_two_pow_sub_one_eq_mod]
  have e4 : Op.intBits .and .u64 (n : Int) 4294967295 = (pure (.int .u64 (IntKind.u64.wrap ((BitVec.ofInt 64 (n : Int) &&& BitVec.ofInt 64 4294967295).toNat : Int))) : Sem Value) := rfl
  rw [e4, e2, wrapu64 (by omega)]
  simp
theorem Q.shr32 {t t2 : TypeId} {x y : Operand} {k' : IntKind} {m : Int} (hx : ev e x = some (.int .u64 m)) (hy : ev e y = some (.int k' 32)) :
    Quiet P ops ⟨d, .binOp .shr t x y t2, ty, pos, aft, none⟩ e o r (.int .u64 (m / 4294967296)) := Q.bin hx hy fun w => by
  have e1 : binOp .shr t (.int .u64 m) (.int k' 32) = Op.shift .shr .u64 m k' 32 := by simp [binOp]
  rw [e1]
  have e2 : Op.shift .shr .u64 m k' 32 = (pure (.int .u64 (m.fdiv (2 ^ 32))) : Sem Value) := rfl
  rw [e2, Int.fdiv_eq_ediv_of_nonneg _ (by decide)]
  rfl
end

/-! ### copies -/
theorem flat_take {α : Type} {enc : α → List Value} {sz : Nat} (he : ∀ x, (enc x).length = sz) : ∀ (xs : List α) (i : Nat), (xs.take i).flatMap enc = (xs.flatMap enc).take (i * sz)
  | [], i => by simp
  | x :: xs, 0 => by simp
  | x :: xs, i + 1 => by
    rw [List.take_succ_cons, List.flatMap_cons, List.flatMap_cons, flat_take he xs i, Nat.add_mul, Nat.one_mul, List.take_append, he]
    rw [List.take_of_length_le (l := enc x) (by rw [he]; omega), show i * sz + sz - sz = i * sz by omega]
theorem flat_drop {α : Type} {enc : α → List Value} {sz : Nat} (he : ∀ x, (enc x).length = sz) : ∀ (xs : List α) (i : Nat), (xs.drop i).flatMap enc = (xs.flatMap enc).drop (i * sz)
  | [], i => by simp
  | x :: xs, 0 => by simp
  | x :: xs, i + 1 => by
    rw [List.drop_succ_cons, List.flatMap_cons, flat_drop he xs i, Nat.add_mul, Nat.one_mul, List.drop_append, he]
    rw [List.drop_of_length_le (l := enc x) (by rw [he]; omega), show i * sz + sz - sz = i * sz by omega, List.nil_append]
def tailv (v : Value) (sz i : Nat) : Value := match v with
  | .slice ad n c => .slice (if c = i then ad else ad.map (·.add (i * sz))) (n - i) (c - i)
  | v => v
def splice {α : Type} (xs ys : List α) (i : Nat) : List α := xs.take i ++ ys.take (min ys.length (xs.length - i)) ++ xs.drop (i + min ys.length (xs.length - i))
section
variable {P : Program} {ops : Array Oper} {e : Env} {o r : List PHeap} {d : Option Tmp} {ty : TypeId} {pos : String} {aft : Array Edge}
variable {α : Type} {enc : α → List Value} {sz : Nat} {h : PHeap} {xs : List α} {v : Value}
theorem tailv_zero {T : TypeId} [s : OArr v enc sz T h xs] : tailv v sz 0 = v := by
  obtain ⟨he, hm, ⟨rfl, rfl, rfl⟩ | ⟨b, c, cs, rfl, rfl, hle, hlen, ht⟩⟩ := s.pf
  · rfl
  · simp only [tailv, Nat.zero_mul, Nat.sub_zero, Option.map_some, add_none]
    split <;> simp
theorem Q.tail {t el : TypeId} [u : Und P t (.slice el)] [z : TySize P el sz] {x : Operand} {lo : Option Operand} {i : Nat} (hx : ev e x = some v) [s : Arr v enc sz h xs] (hlo : Bd e 0 lo i) (hi : i ≤ xs.length) :
    Quiet P ops ⟨d, .slice t x lo none none, ty, pos, aft, none⟩ e o r (tailv v sz i) := .mk fun a w he _ => by
  obtain ⟨henc, hm, ad, c, rfl, hle, hnn, hc⟩ := s.pf
  have hrun : (Instr.sliceAt t (.slice ad xs.length c) (lo.map (evA a)) none none).run P w =
      .ok (.slice (if c = i then ad else ad.map (·.add (i * sz))) (xs.length - i) (c - i)) w := by
    unfold Instr.sliceAt
    rw [bind_ok (u.pf w)]
    simp only
    unfold Instr.slice
    rw [bind_ok (u.pf w)]
    simp only
    have hb : (Instr.sliceBounds true xs.length c (lo.map (evA a)) none none).run P w = .ok (i, xs.length, c) w := by
      unfold Instr.sliceBounds
      simp only [pure_bind]
      rcases Bd.run (P := P) he hlo xs.length .sliceB (by omega) w with ⟨h3, h4⟩ | ⟨v3, h3, h4⟩
      · rw [h3, h4]; rfl
      · rw [h3]
        simp only [Option.isSome_none, Bool.false_eq_true, if_false]
        rw [bind_ok h4]; rfl
    rw [bind_ok hb]
    simp only
    rw [bind_ok (z.pf w)]
    rfl
  simp only [execOp, ev_rel he hx, Option.map_none]
  exact run_val hrun
theorem run_copy {t0 t1 ty el : TypeId} [u : Und P t0 (.slice el)] [z : TySize P el sz] {v2 : Value} {h2 : PHeap} {ys : List α} [s2 : Arr v2 enc sz h2 ys] {w w' : World} (hsub2 : sub h2 w) {ad : Option Addr} {m c : Nat}
    (hst : ((match ad with | some a => storeCells a ((ys.take (min ys.length m)).flatMap enc) 0 | none => pure () : Sem Unit)).run P w = .ok () w') :
    (Builtin.copy_ #[t0, t1] ty #[.slice ad m c, v2]).run P w = .ok (.int .i64 ((min ys.length m : Nat) : Int)) w' := by
  obtain ⟨henc2, hm2, a2, c2, hv2, hle2, hnn2, hc2⟩ := s2.pf
  have hlen2 : (Builtin.lenOf v2).run P w = .ok ys.length w := by rw [hv2]; rfl
  have hcells : (Builtin.firstCells sz (min ys.length m) v2).run P w = .ok ((ys.take (min ys.length m)).flatMap enc).toArray w := s2.cells hsub2 _ (by omega)
  unfold Builtin.copy_
  simp only [List.getElem?_toArray, List.getElem?_cons_zero, List.getElem?_cons_succ]
  rw [bind_ok (u.pf w)]
  simp only
  rw [bind_ok hlen2, bind_ok (z.pf w)]
  have hcells' : (Builtin.firstCells sz (Nat.min ys.length m) v2).run P w = .ok ((ys.take (min ys.length m)).flatMap enc).toArray w := hcells
  rw [bind_ok hcells']
  cases ad with
  | none =>
    simp only at hst ⊢
    have : w' = w := by
      have h1 : (pure () : Sem Unit).run P w = .ok () w := rfl
      rw [h1] at hst
      injection hst with h2 h3
      exact h3.symm
    subst this
    rfl
  | some a =>
    simp only at hst ⊢
    rw [bind_ok hst]
    rfl
theorem Stp0.copy {t0 t1 el T : TypeId} [u : Und P t0 (.slice el)] [z : TySize P el sz] {x y : Operand} {vd v2 : Value} {h2 : PHeap} {ys : List α} {i : Nat} {o1 : List PHeap} (hx : ev e x = some vd) (hd : vd = tailv v sz i) (hy : ev e y = some v2)
    [s : OArr v enc sz T h xs] [tk : Take h o o1] [s2 : Arr v2 enc sz h2 ys] [m : InM h2 o r] (hi : i ≤ xs.length) :
    Stp0 P ops ⟨d, .call ⟨.builtin .copy, #[x, y], #[t0, t1]⟩, ty, pos, aft, none⟩ e o r (fun v' o2 => ∃ h', v' = .int .i64 ((min ys.length (xs.length - i) : Nat) : Int) ∧ OArr v enc sz T h' (splice xs ys i) ∧ o2 = h' :: o1) := fun a w he hs => by
  subst hd
  have hs1 := hs.perm tk.pf
  have hsub2 : sub h2 w := m.pf.elim (hs.so _) (hs.sr _)
  have hx' := ev_rel he hx
  have hy' := ev_rel he hy
  obtain ⟨henc2, hm2, a2, c2, hv2, hle2, hnn2, hc2⟩ := s2.pf
  have hexec : ∀ w', (Builtin.copy_ #[t0, t1] ty #[tailv v sz i, v2]).run P w = .ok (.int .i64 ((min ys.length (xs.length - i) : Nat) : Int)) w' →
      (execOp (evA a) (⟨d, .call ⟨.builtin .copy, #[x, y], #[t0, t1]⟩, ty, pos, aft, none⟩ : Oper)).run P w = .ok (.value (.int .i64 ((min ys.length (xs.length - i) : Nat) : Int))) w' := by
    intro w' hw'
    simp only [execOp, resolve, List.map_toArray, List.map_cons, List.map_nil, hx', hy']
    exact run_val hw'
  obtain ⟨henc, hm, ⟨rfl, rfl, rfl⟩ | ⟨b, c, cs, rfl, rfl, hle, hlen, ht⟩⟩ := s.pf
  · unfold Does
    rw [if_pos (by simp [Region.wanted]), hexec w (by
      have hi0 : i = 0 := by simpa using hi
      subst hi0
      have := run_copy (t0 := t0) (t1 := t1) (ty := ty) (el := el) (s2 := s2) (w := w) (w' := w) (P := P) hsub2 (ad := none) (m := 0) (c := 0) rfl
      simpa [tailv] using this)]
    refine ⟨emp :: o1, ⟨emp, rfl, ?_, rfl⟩, hs1⟩
    simp [splice]
    exact s
  · have hn' : min ys.length (xs.length - i) ≤ xs.length - i := Nat.min_le_right _ _
    have hny : min ys.length (xs.length - i) ≤ ys.length := Nat.min_le_left _ _
    generalize hne : min ys.length (xs.length - i) = n' at *
    have hZ : ((ys.take n').flatMap enc).length = n' * sz := by rw [flat_len henc, List.length_take, Nat.min_eq_left hny]
    have hmul1 : i * sz + n' * sz ≤ xs.length * sz := by rw [← Nat.add_mul]; exact Nat.mul_le_mul_right _ (by omega)
    have hmul2 : xs.length * sz ≤ c * sz := Nat.mul_le_mul_right _ hle
    have hh : w.heap[b]? = some (.cells cs.toArray T (0, 0)) := hs1.so _ List.mem_cons_self b _ (sing_self _ _)
    have hones : ∀ v ∈ (ys.take n').flatMap enc, one v = true := fun v hv => by
      obtain ⟨y, hy1, hy2⟩ := List.mem_flatMap.1 hv
      exact hm2.2 y (List.mem_of_mem_take hy1) v hy2
    obtain ⟨w', h1, h2, h3, h4⟩ := run_storeCells (P := P) (b := b) (k := i * sz) (T := T) ((ys.take n').flatMap enc) 0 w cs hones hh (by omega)
    have hst : ((match (if c = i then some (⟨b, 0, none⟩ : Addr) else (some (⟨b, 0, none⟩ : Addr)).map (·.add (i * sz))) with | some a => storeCells a ((ys.take n').flatMap enc) 0 | none => pure () : Sem Unit)).run P w = .ok () w' := by
      by_cases hci : c = i
      · rw [if_pos hci]
        have hn0 : n' = 0 := by omega
        subst hn0
        simp only [List.take_zero, List.flatMap_nil] at h1 ⊢
        exact h1
      · rw [if_neg hci]
        simp only [Option.map_some, add_none, Nat.zero_add]
        exact h1
    unfold Does
    rw [if_pos (by simp [Region.wanted]), hexec w' (by
      have := run_copy (t0 := t0) (t1 := t1) (ty := ty) (el := el) (s2 := s2) (w := w) (w' := w') (P := P) hsub2 (ad := (if c = i then some (⟨b, 0, none⟩ : Addr) else (some (⟨b, 0, none⟩ : Addr)).map (·.add (i * sz)))) (m := xs.length - i) (c := c - i) (by rw [hne]; exact hst)
      rw [hne] at this
      exact this)]
    simp only [Nat.add_zero, hZ] at h2
    refine ⟨blk b (cs.take (i * sz) ++ (ys.take n').flatMap enc ++ cs.drop (i * sz + n' * sz)) T :: o1, ⟨_, rfl, ?_, rfl⟩, Sep.swap hs1 ?_ ?_ ?_ rfl h4⟩
    · have hlen' : (splice xs ys i).length = xs.length := by
        unfold splice; rw [hne]; simp only [List.length_append, List.length_take, List.length_drop]; omega
      refine ⟨henc, ⟨by rw [hlen']; exact hm.1, fun y hy cc hcc => ?_⟩, .inr ⟨b, c, _, by rw [hlen'], rfl, by rw [hlen']; exact hle, ?_, ?_⟩⟩
      · unfold splice at hy
        rcases List.mem_append.1 hy with hy | hy
        · rcases List.mem_append.1 hy with hy | hy
          · exact hm.2 y (List.mem_of_mem_take hy) cc hcc
          · exact hm2.2 y (List.mem_of_mem_take hy) cc hcc
        · exact hm.2 y (List.mem_of_mem_drop hy) cc hcc
      · simp only [List.length_append, List.length_take, List.length_drop, hZ]; omega
      · rw [hlen']
        unfold splice
        rw [hne, List.flatMap_append, List.flatMap_append, flat_take henc xs, flat_drop henc xs, ← ht, Nat.add_mul]
        rw [List.take_append, List.take_append]
        simp only [List.length_append, List.length_take, hZ]
        rw [List.take_of_length_le (l := cs.take (i * sz)) (by rw [List.length_take]; omega), List.take_of_length_le (l := (ys.take n').flatMap enc) (by rw [hZ]; omega)]
        congr 1
        · congr 1
          rw [List.take_take, Nat.min_eq_left (by omega)]
        · rw [List.drop_take]
          congr 1
          omega
    · exact fun x hx => none_blk (blk_none hx)
    · intro x ob hb
      obtain ⟨rfl, rfl⟩ := sing_some hb
      exact h2
    · exact fun x hx => h3 x (blk_none hx)
theorem Stp.copy {t0 t1 el T : TypeId} [u : Und P t0 (.slice el)] [z : TySize P el sz] {x y : Operand} {vd v2 : Value} {h2 : PHeap} {ys : List α} {i : Nat} {o1 : List PHeap} (hx : ev e x = some vd) (hd : vd = tailv v sz i) (hy : ev e y = some v2)
    [s : OArr v enc sz T h xs] [tk : Take h o o1] [s2 : Arr v2 enc sz h2 ys] [m : InM h2 o r] (hi : i ≤ xs.length) :
    Stp P ops ⟨d, .call ⟨.builtin .copy, #[x, y], #[t0, t1]⟩, ty, pos, aft, none⟩ e o r (fun v' o2 => ∃ h', v' = .int .i64 ((min ys.length (xs.length - i) : Nat) : Int) ∧ OArr v enc sz T h' (splice xs ys i) ∧ o2 = h' :: o1) := fun D a w he hs =>
  (Stp0.copy (tk := tk.more D) (m := m.more D) hx hd hy hi a w he hs).mono fun v w' ⟨o2, ⟨h', h1, h2, h3⟩, hs'⟩ => ⟨o2, ⟨h' :: o1, ⟨h', h1, h2, rfl⟩, by rw [h3]; exact List.Perm.swap _ _ _⟩, hs'⟩
end
section
variable {c : Cx} {ops : Array Oper} {rest : List Oper} {k : List Item} {e : Env} {o r : List PHeap} {d : Nat} {ty : TypeId} {pos : String} {aft : Array Edge}
variable {α : Type} {enc : α → List Value} {sz : Nat} {h : PHeap} {xs : List α} {v : Value}
theorem XO.copy {t0 t1 el T : TypeId} [u : Und c.P t0 (.slice el)] [z : TySize c.P el sz] {x y : Operand} {vd v2 : Value} {h2 : PHeap} {ys : List α} {i : Nat} {o1 : List PHeap} (hx : ev e x = some vd) (hd : vd = tailv v sz i) (hy : ev e y = some v2)
    [s : OArr v enc sz T h xs] [tk : Take h o o1] [s2 : Arr v2 enc sz h2 ys] [m : InM h2 o (c.B :: r)] (hi : i ≤ xs.length)
    (hn : ∀ h', OArr v enc sz T h' (splice xs ys i) → XO c ops rest k ((d, some (.int .i64 ((min ys.length (xs.length - i) : Nat) : Int))) :: e) (h' :: o1) r) :
    XO c ops (⟨some d, .call ⟨.builtin .copy, #[x, y], #[t0, t1]⟩, ty, pos, aft, none⟩ :: rest) k e o r :=
  XO.s (Stp.copy hx hd hy hi) fun v' o2 ⟨h', h1, h2, h3⟩ => by subst h1 h3; exact hn h' h2
variable {fl : List Nat} {f : List PHeap} {i0 : Nat} {bb : Bool} {tt uu : Plan}
theorem XT.copy {t0 t1 el T : TypeId} [u : Und c.P t0 (.slice el)] [z : TySize c.P el sz] {x y : Operand} {vd v2 : Value} {h2 : PHeap} {ys : List α} {i : Nat} {o1 : List PHeap}
    (hi0 : ops[i0]? = some ⟨some d, .call ⟨.builtin .copy, #[x, y], #[t0, t1]⟩, ty, pos, aft, none⟩) (hok : okOper c.N ⟨some d, .call ⟨.builtin .copy, #[x, y], #[t0, t1]⟩, ty, pos, aft, none⟩ = true)
    (hx : ev e x = some vd) (hd : vd = tailv v sz i) (hy : ev e y = some v2)
    [s : OArr v enc sz T h xs] [tk : Take h o o1] [s2 : Arr v2 enc sz h2 ys] [m : InM h2 o (c.B :: r)] (hi : i ≤ xs.length)
    (hn : ∀ h', OArr v enc sz T h' (splice xs ys i) → Keeps bb f (h' :: o1) ∧ XT c ops fl f k r tt ((d, some (.int .i64 ((min ys.length (xs.length - i) : Nat) : Int))) :: e) (h' :: o1)) (hu : XT c ops fl f k r uu e o) :
    XT c ops fl f k r (.br i0 bb tt uu) e o :=
  XT.s hi0 hok (Stp.copy hx hd hy hi) (fun v' o2 ⟨h', h1, h2, h3⟩ => by subst h1 h3; exact hn h' h2) hu
end
def cutv (v : Value) (sz i j : Nat) : Value := match v with
  | .slice ad n c => .slice (if c = i then ad else ad.map (·.add (i * sz))) (j - i) (c - i)
  | v => v
section
variable {P : Program} {ops : Array Oper} {e : Env} {o r : List PHeap} {d : Option Tmp} {ty : TypeId} {pos : String} {aft : Array Edge}
variable {α : Type} {enc : α → List Value} {sz : Nat} {h : PHeap} {xs : List α} {v : Value}
theorem Arr.cut (s : Arr v enc sz h xs) {i j : Nat} (hij : i ≤ j) (hj : j ≤ xs.length) : Arr (cutv v sz i j) enc sz h ((xs.drop i).take (j - i)) := ⟨by
  obtain ⟨henc, hm, ad, c, rfl, hle, hnn, hc⟩ := s.pf
  have hl : ((xs.drop i).take (j - i)).length = j - i := by simp; omega
  refine ⟨henc, ⟨by omega, fun y hy cc hcc => hm.2 y (List.mem_of_mem_drop (List.mem_of_mem_take hy)) cc hcc⟩, (if c = i then ad else ad.map (·.add (i * sz))), c - i, by rw [hl]; rfl, by omega, ?_, fun hp => ?_⟩
  · intro hnone
    split at hnone
    · rw [hnn hnone]; omega
    · cases ad with
      | none => rw [hnn rfl]; omega
      | some a => simp at hnone
  · obtain ⟨b, k, cs, T, fr, rfl, hb, hcs⟩ := hc (by omega)
    refine ⟨b, k + i * sz, cs, T, fr, ?_, hb, fun m n hm' hn => ?_⟩
    · rw [if_neg (by omega)]
      simp [add_none]
    · have := hcs (i + m) n (by omega) hn
      rw [Nat.add_mul, ← Nat.add_assoc] at this
      rw [this]
      congr 1
      rw [List.getElem?_take, if_pos (by omega), List.getElem?_drop]⟩
theorem Q.cut {t el : TypeId} [u : Und P t (.slice el)] [z : TySize P el sz] {x : Operand} {lo hi : Option Operand} {i j : Nat} (hx : ev e x = some v) [s : Arr v enc sz h xs] (hlo : Bd e 0 lo i) (hhi : Bd e xs.length hi j) (hij : i ≤ j) (hj : j ≤ xs.length) :
    Quiet P ops ⟨d, .slice t x lo hi none, ty, pos, aft, none⟩ e o r (cutv v sz i j) := .mk fun a w he _ => by
  obtain ⟨henc, hm, ad, c, rfl, hle, hnn, hc⟩ := s.pf
  have hrun : (Instr.sliceAt t (.slice ad xs.length c) (lo.map (evA a)) (hi.map (evA a)) none).run P w =
      .ok (.slice (if c = i then ad else ad.map (·.add (i * sz))) (j - i) (c - i)) w := by
    unfold Instr.sliceAt
    rw [bind_ok (u.pf w)]
    simp only
    unfold Instr.slice
    rw [bind_ok (u.pf w)]
    simp only
    have hb : (Instr.sliceBounds true xs.length c (lo.map (evA a)) (hi.map (evA a)) none).run P w = .ok (i, j, c) w := by
      unfold Instr.sliceBounds
      simp only [pure_bind]
      rcases Bd.run (P := P) he hhi c .sliceAcap (by omega) w with ⟨h1, h2⟩ | ⟨v1, h1, h2⟩
      · rw [h1, h2]
        simp only [pure_bind]
        rcases Bd.run (P := P) he hlo xs.length .sliceB (by omega) w with ⟨h3, h4⟩ | ⟨v3, h3, h4⟩
        · rw [h3, h4]; rfl
        · rw [h3]
          simp only [Option.isSome_none, Bool.false_eq_true, if_false]
          rw [bind_ok h4]; rfl
      · rw [h1]
        simp only [if_true]
        rw [bind_ok h2]
        rcases Bd.run (P := P) he hlo j .sliceB hij w with ⟨h3, h4⟩ | ⟨v3, h3, h4⟩
        · rw [h3, h4]; rfl
        · rw [h3]
          simp only [Option.isSome_none, Bool.false_eq_true, if_false]
          rw [bind_ok h4]; rfl
    rw [bind_ok hb]
    simp only
    rw [bind_ok (z.pf w)]
    rfl
  simp only [execOp, ev_rel he hx, Option.map_none]
  exact run_val hrun
end
end Go.X

/- Repeated lists. No condition. -/
set_option linter.unusedVariables false
namespace Go.X
theorem repeat_first {α : Type} (x z : α) (n : Nat) : splice (List.replicate n z) [x] 0 = List.replicate (min 1 n) x ++ List.replicate (n - min 1 n) z := by
  unfold splice
  cases n with
  | zero => simp
  | succ n => simp [List.replicate_succ, show min 1 (n + 1) = 1 by omega]
theorem repeat_step {α : Type} (x z : α) {m n : Nat} (h : m ≤ n) :
    splice (List.replicate m x ++ List.replicate (n - m) z) (((List.replicate m x ++ List.replicate (n - m) z).drop 0).take (m - 0)) m =
      List.replicate (m + min m (n - m)) x ++ List.replicate (n - (m + min m (n - m))) z := by
  unfold splice
  have e1 : (List.replicate m x ++ List.replicate (n - m) z).take m = List.replicate m x := by
    rw [List.take_append, List.length_replicate, Nat.sub_self, List.take_zero, List.append_nil, List.take_of_length_le (by simp)]
  have e2 : (List.replicate m x ++ List.replicate (n - m) z).length = n := by simp; omega
  rw [List.drop_zero, Nat.sub_zero, e1, e2, List.length_replicate, List.take_replicate, Nat.min_eq_left (Nat.min_le_left _ _), List.drop_append, List.length_replicate,
    List.drop_of_length_le (l := List.replicate m x) (by simp), List.nil_append, List.drop_replicate, List.replicate_append_replicate]
  congr 2
  omega
end Go.X

/- Plain facts on lists. No condition. -/
set_option linter.unusedVariables false
namespace Go.X
theorem take_step {α : Type} [Inhabited α] {xs ys : List α} {i : Nat} (h : xs.take i = ys.take i) (hx : i < xs.length) (hy : i < ys.length) (he : xs.getD i default = ys.getD i default) : xs.take (i + 1) = ys.take (i + 1) := by
  rw [List.take_succ_eq_append_getElem hx, List.take_succ_eq_append_getElem hy, h]
  simp [hx, hy] at he
  rw [he]
theorem take_all {α : Type} {xs ys : List α} {i : Nat} (h : xs.take i = ys.take i) (hx : ¬ (i : Int) < xs.length) (hl : xs.length = ys.length) : xs = ys := by
  rw [List.take_of_length_le (by omega), List.take_of_length_le (by omega)] at h
  exact h
theorem getD_mem {α : Type} [Inhabited α] {xs : List α} {i : Nat} (h : i < xs.length) : xs.getD i default ∈ xs := by
  simp [h]
/-- The first place that a test takes; -1 if there is none. -/
def findFirst {α : Type} (p : α → Bool) (xs : List α) : Int := match xs.findIdx? p with
  | some i => i
  | none => -1
theorem any_step {α : Type} [Inhabited α] {p : α → Bool} {xs : List α} {i : Nat} (h : (xs.take i).any p = false) (hx : i < xs.length) (hp : p (xs.getD i default) = false) : (xs.take (i + 1)).any p = false := by
  rw [List.take_succ_eq_append_getElem hx, List.any_append, h]
  simp [hx] at hp
  simp [hp]
theorem findFirst_here {α : Type} [Inhabited α] {p : α → Bool} {xs : List α} {i : Nat} (h : (xs.take i).any p = false) (hx : i < xs.length) (hp : p (xs.getD i default) = true) : findFirst p xs = i := by
  unfold findFirst
  have : xs.findIdx? p = some i := by
    rw [List.findIdx?_eq_some_iff_getElem]
    simp [hx] at hp
    refine ⟨hx, hp, fun j hj => ?_⟩
    have := List.any_eq_false.1 h xs[j] (by rw [List.mem_take_iff_getElem]; exact ⟨j, by omega, rfl⟩)
    simpa using this
  rw [this]
theorem findFirst_none {α : Type} {p : α → Bool} {xs : List α} {i : Nat} (h : (xs.take i).any p = false) (hx : ¬ (i : Int) < xs.length) : findFirst p xs = -1 := by
  rw [List.take_of_length_le (by omega)] at h
  unfold findFirst
  have : xs.findIdx? p = none := by
    rw [List.findIdx?_eq_none_iff]
    intro x hx
    have := List.any_eq_false.1 h x hx
    simpa using this
  rw [this]
theorem findFirst_any {α : Type} {p : α → Bool} {xs : List α} : decide ((0 : Int) ≤ findFirst p xs) = xs.any p := by
  unfold findFirst
  cases h : xs.findIdx? p with
  | none =>
    rw [List.findIdx?_eq_none_iff] at h
    have : xs.any p = false := List.any_eq_false.2 (fun x hx => by simp [h x hx])
    simp [this]
  | some i =>
    rw [List.findIdx?_eq_some_iff_getElem] at h
    obtain ⟨hi, hp, _⟩ := h
    have : xs.any p = true := List.any_eq_true.2 ⟨xs[i], List.getElem_mem hi, hp⟩
    simp only [this, decide_eq_true_eq]
    omega
end Go.X

/- Games, in plain numbers and lists. No condition. -/
set_option linter.unusedVariables false
namespace Go.X
structure G where
  S : Int
  C : Int
  K : Int
  next : List Int
  good : List Bool
def gcheck (g : G) : Int :=
  if g.S < 1 ∨ 400 < g.S ∨ g.C < 1 ∨ 16 < g.C ∨ g.K < 1 ∨ 16 < g.K then 2
  else if (g.next.length : Int) ≠ g.S * g.C * g.K ∨ (g.good.length : Int) ≠ g.S then 1
  else if g.next.any (fun n => decide (n < -1) || decide (g.S ≤ n)) = true then 6 else 0
theorem mul_bd {a b m n : Int} (h1 : 1 ≤ a) (h2 : a ≤ m) (h3 : 1 ≤ b) (h4 : b ≤ n) : 1 ≤ a * b ∧ a * b ≤ m * n := by
  have e1 : 1 * 1 ≤ a * b := Int.mul_le_mul h1 h3 (by omega) (by omega)
  have e2 : a * b ≤ m * n := Int.mul_le_mul h2 h4 (by omega) (by omega)
  omega
theorem g_bd {S C K : Int} (h : ¬ (((((S < 1 ∨ 400 < S) ∨ C < 1) ∨ 16 < C) ∨ K < 1) ∨ 16 < K)) : 1 ≤ S * C ∧ S * C ≤ 6400 ∧ 1 ≤ S * C * K ∧ S * C * K ≤ 102400 := by
  have h1 := mul_bd (a := S) (b := C) (m := 400) (n := 16) (by omega) (by omega) (by omega) (by omega)
  have h2 := mul_bd (a := S * C) (b := K) (m := 6400) (n := 16) (by omega) (by omega) (by omega) (by omega)
  omega
/-- What is known of a valid game. -/
structure Ok (S C K : Nat) (next : List Int) (good : List Bool) : Prop where
  s1 : 1 ≤ S
  s2 : S ≤ 400
  c1 : 1 ≤ C
  c2 : C ≤ 16
  k1 : 1 ≤ K
  k2 : K ≤ 16
  len : next.length = S * C * K
  glen : good.length = S
  inr : ∀ n ∈ next, -1 ≤ n ∧ n < S
theorem gcheck_ok {g : G} (h : gcheck g = 0) : ∃ S C K : Nat, g.S = S ∧ g.C = C ∧ g.K = K ∧ Ok S C K g.next g.good := by
  unfold gcheck at h
  split at h
  · omega
  · rename_i h1
    split at h
    · omega
    · rename_i h2
      split at h
      · omega
      · rename_i h3
        obtain ⟨S, hS⟩ := Int.eq_ofNat_of_zero_le (a := g.S) (by omega)
        obtain ⟨C, hC⟩ := Int.eq_ofNat_of_zero_le (a := g.C) (by omega)
        obtain ⟨K, hK⟩ := Int.eq_ofNat_of_zero_le (a := g.K) (by omega)
        rw [hS, hC, hK] at h1 h2
        have hl : (g.next.length : Int) = ((S * C * K : Nat) : Int) := by
          have : (g.next.length : Int) = S * C * K := by omega
          rw [this]; simp
        refine ⟨S, C, K, hS, hC, hK, by omega, by omega, by omega, by omega, by omega, by omega, by omega, by omega, fun n hn => ?_⟩
        have h4 : g.next.any (fun n => decide (n < -1) || decide (g.S ≤ n)) = false := by simpa using h3
        have h5 := List.any_eq_false.1 h4 n hn
        simp only [hS, Bool.or_eq_true, decide_eq_true_eq] at h5
        omega
theorem Ok.sc {S C K : Nat} {next : List Int} {good : List Bool} (h : Ok S C K next good) : 1 ≤ S * C ∧ S * C ≤ 6400 ∧ 1 ≤ S * C * K ∧ S * C * K ≤ 102400 := by
  have h1 : S * C ≤ 400 * 16 := Nat.mul_le_mul h.s2 h.c2
  have h2 : S * C * K ≤ 6400 * 16 := Nat.mul_le_mul (by omega) h.k2
  have h3 : 0 < S * C := Nat.mul_pos h.s1 h.c1
  have h4 : 0 < S * C * K := Nat.mul_pos h3 h.k1
  omega
theorem lead_le {S C K s u : Nat} (hs : s < S) (hu : u < C) : s * C ≤ S * C ∧ s * C + u < S * C ∧ (s * C + u) * K + K ≤ S * C * K := by
  have h1 : (s + 1) * C ≤ S * C := Nat.mul_le_mul_right _ hs
  rw [Nat.add_mul] at h1
  have h2 : (s * C + u + 1) * K ≤ S * C * K := Nat.mul_le_mul_right _ (by omega)
  rw [Nat.add_mul] at h2
  omega
theorem lead_int (s u C K : Nat) : ((s : Int) * C + u) * K = (((s * C + u) * K : Nat) : Int) := by simp
/-- The states that shocks lead to. -/
def leads (next : List Int) (C K s u : Nat) : List Int := (next.drop ((s * C + u) * K)).take K
end Go.X

/- A game without a control; a product of games. No condition. -/
set_option linter.unusedVariables false
namespace Go.X
def zeroG : G := ⟨0, 0, 0, [], []⟩
def cellW (next : List Int) (C K u s v : Nat) : List Int := if v = u then [] else leads next C K s v
def rowW (next : List Int) (C K u s : Nat) : List Int := (List.range C).flatMap (cellW next C K u s)
def rowsW (next : List Int) (C K u s : Nat) : List Int := (List.range s).flatMap (rowW next C K u)
def without (g : G) (u : Int) : G × Int :=
  if gcheck g ≠ 0 then (zeroG, gcheck g)
  else if u < 0 ∨ g.C ≤ u then (zeroG, 1)
  else if g.C = 1 then (zeroG, 2)
  else (⟨g.S, g.C - 1, g.K, rowsW g.next g.C.toNat g.K.toNat u.toNat g.S.toNat, g.good⟩, 0)
theorem without_bad {g : G} {u : Int} (h : gcheck g ≠ 0) : without g u = (zeroG, gcheck g) := by rw [without, if_pos h]
theorem leads_len (next : List Int) (C K s u : Nat) : (leads next C K s u).length ≤ K := by unfold leads; rw [List.length_take]; omega
theorem flat_le {α : Type} (f : Nat → List α) (k : Nat) (h : ∀ i, (f i).length ≤ k) : ∀ n, ((List.range n).flatMap f).length ≤ n * k
  | 0 => by simp
  | n + 1 => by
    have := flat_le f k h n
    have h2 := h n
    rw [List.range_succ, List.flatMap_append, List.length_append]
    simp only [List.flatMap_cons, List.flatMap_nil, List.append_nil]
    rw [Nat.add_mul]
    omega
theorem flat_succ {α : Type} (f : Nat → List α) (n : Nat) : (List.range (n + 1)).flatMap f = (List.range n).flatMap f ++ f n := by
  rw [List.range_succ, List.flatMap_append]; simp
theorem cellW_len (next : List Int) (C K u s v : Nat) : (cellW next C K u s v).length ≤ K := by
  unfold cellW; split
  · simp
  · exact leads_len ..
theorem rowW_len (next : List Int) (C K u s : Nat) : (rowW next C K u s).length ≤ C * K := flat_le _ K (fun v => cellW_len next C K u s v) C
theorem rowsW_len (next : List Int) (C K u s : Nat) : (rowsW next C K u s).length ≤ s * (C * K) := flat_le _ (C * K) (fun s => rowW_len next C K u s) s
theorem partW_len {S C K : Nat} {next : List Int} {good : List Bool} (ok : Ok S C K next good) (u : Nat) {s v : Nat} (hs : s < S) (hv : v < C) :
    (rowsW next C K u s ++ (List.range v).flatMap (cellW next C K u s)).length ≤ 204800 := by
  have h1 := rowsW_len next C K u s
  have h2 := flat_le (cellW next C K u s) K (fun v => cellW_len next C K u s v) v
  have h3 := ok.sc
  have h4 : s * (C * K) ≤ S * (C * K) := Nat.mul_le_mul_right _ (by omega)
  have h5 : v * K ≤ C * K := Nat.mul_le_mul_right _ (by omega)
  have h6 : S * (C * K) = S * C * K := (Nat.mul_assoc ..).symm
  have h7 : 1 * (C * K) ≤ S * (C * K) := Nat.mul_le_mul_right _ ok.s1
  rw [List.length_append]
  omega
end Go.X

/- The reference's game without a control. No condition. -/
set_option linter.unusedVariables false
namespace Go.X
theorem leads_succ {next : List Int} {C K s v w : Nat} (hw : w < K) (hl : (s * C + v) * K + K ≤ next.length) :
    (leads next C K s v).take (w + 1) = (leads next C K s v).take w ++ [next.getD ((s * C + v) * K + w) 0] := by
  have hlen : (leads next C K s v).length = K := by unfold leads; rw [List.length_take, List.length_drop]; omega
  rw [List.take_add_one]
  congr 1
  have h1 : (leads next C K s v)[w]? = next[(s * C + v) * K + w]? := by unfold leads; rw [List.getElem?_take, if_pos hw, List.getElem?_drop]
  rw [h1, List.getElem?_eq_getElem (by omega), Option.toList_some, List.getD_eq_getElem?_getD, List.getElem?_eq_getElem (by omega), Option.getD_some]
theorem leads_full {next : List Int} {C K s v : Nat} : (leads next C K s v).take K = leads next C K s v := List.take_of_length_le (leads_len ..)
end Go.X

/- A product of games, in plain lists. No condition. -/
set_option linter.unusedVariables false
namespace Go.X
def pxa (an : List Int) (Ca Ka Sb Cb Kb s u w : Nat) : Int := an.getD ((s / Sb * Ca + u / Cb) * Ka + w / Kb) 0
def pxb (bn : List Int) (Sb Cb Kb s u w : Nat) : Int := bn.getD ((s % Sb * Cb + u % Cb) * Kb + w % Kb) 0
def pcell (an bn : List Int) (Ca Ka Sb Cb Kb s u w : Nat) : Int :=
  if pxa an Ca Ka Sb Cb Kb s u w < 0 ∨ pxb bn Sb Cb Kb s u w < 0 then -1 else pxa an Ca Ka Sb Cb Kb s u w * Sb + pxb bn Sb Cb Kb s u w
def pnext (an bn : List Int) (Ca Ka Sb Cb Kb C K n : Nat) : Int := pcell an bn Ca Ka Sb Cb Kb (n / K / C) (n / K % C) (n % K)
def pgood (ag bg : List Bool) (Sb s : Nat) : Bool := ag.getD (s / Sb) false && bg.getD (s % Sb) false
def product (a b : G) : G × Int :=
  if gcheck a ≠ 0 then (zeroG, gcheck a)
  else if gcheck b ≠ 0 then (zeroG, gcheck b)
  else if 400 < a.S * b.S ∨ 16 < a.C * b.C ∨ 16 < a.K * b.K then (zeroG, 2)
  else (⟨a.S * b.S, a.C * b.C, a.K * b.K,
      (List.range ((a.S * b.S).toNat * (a.C * b.C).toNat * (a.K * b.K).toNat)).map (pnext a.next b.next a.C.toNat a.K.toNat b.S.toNat b.C.toNat b.K.toNat (a.C * b.C).toNat (a.K * b.K).toNat),
      (List.range (a.S * b.S).toNat).map (pgood a.good b.good b.S.toNat)⟩, 0)
theorem leads_getD {next : List Int} {C K s u w : Nat} (hw : w < K) : (leads next C K s u).getD w default = next.getD ((s * C + u) * K + w) 0 := by
  unfold leads
  rw [List.getD_eq_getElem?_getD, List.getElem?_take, if_pos hw, List.getElem?_drop, List.getD_eq_getElem?_getD]
  rfl
theorem leads_length {next : List Int} {C K s v : Nat} (hl : (s * C + v) * K + K ≤ next.length) : (leads next C K s v).length = K := by
  unfold leads; rw [List.length_take, List.length_drop]; omega
theorem Ok.get {S C K : Nat} {next : List Int} {good : List Bool} (h : Ok S C K next good) (i : Nat) : -1 ≤ next.getD i 0 ∧ next.getD i 0 < S := by
  have h1 := h.s1
  rw [List.getD_eq_getElem?_getD]
  cases hi : next[i]? with
  | none => simp; omega
  | some x => exact h.inr x (List.mem_of_getElem? hi)
theorem div_lt' {s Sa Sb : Nat} (h : s < Sa * Sb) : s / Sb < Sa ∧ s % Sb < Sb := by
  have hp : 0 < Sb := by rcases Nat.eq_zero_or_pos Sb with rfl | h1 <;> simp_all
  exact ⟨Nat.div_lt_of_lt_mul (by rw [Nat.mul_comm]; exact h), Nat.mod_lt _ hp⟩
theorem pnext_at {an bn : List Int} {Ca Ka Sb Cb Kb C K s u w : Nat} (hu : u < C) (hw : w < K) :
    pnext an bn Ca Ka Sb Cb Kb C K ((s * C + u) * K + w) = pcell an bn Ca Ka Sb Cb Kb s u w := by
  have hk : 0 < K := by omega
  have hc : 0 < C := by omega
  have h1 : ((s * C + u) * K + w) / K = s * C + u := by
    rw [Nat.mul_comm, Nat.mul_add_div hk, Nat.div_eq_of_lt hw]; rfl
  have h2 : ((s * C + u) * K + w) % K = w := by
    rw [Nat.mul_comm, Nat.mul_add_mod, Nat.mod_eq_of_lt hw]
  have h3 : (s * C + u) / C = s := by
    rw [Nat.mul_comm, Nat.mul_add_div hc, Nat.div_eq_of_lt hu]; rfl
  have h4 : (s * C + u) % C = u := by
    rw [Nat.mul_comm, Nat.mul_add_mod, Nat.mod_eq_of_lt hu]
  unfold pnext
  rw [h1, h2, h3, h4]
theorem range_map_succ {α : Type} (f : Nat → α) (n : Nat) : (List.range (n + 1)).map f = (List.range n).map f ++ [f n] := by
  rw [List.range_succ, List.map_append]; rfl
/-- The first n of N have their values; the others are zero. -/
def fillTo {α : Type} (z : α) (f : Nat → α) (N n : Nat) : List α := (List.range N).map fun k => if k < n then f k else z
theorem fillTo_len {α : Type} {z : α} {f : Nat → α} {N n : Nat} : (fillTo z f N n).length = N := by simp [fillTo]
theorem fillTo_zero {α : Type} {z : α} {f : Nat → α} {N : Nat} : fillTo z f N 0 = List.replicate N z := by
  unfold fillTo
  simp only [Nat.not_lt_zero, if_false]
  rw [List.map_const', List.length_range]
theorem fillTo_full {α : Type} {z : α} {f : Nat → α} {N n : Nat} (h : N ≤ n) : fillTo z f N n = (List.range N).map f := by
  unfold fillTo
  refine List.map_congr_left fun k hk => ?_
  rw [if_pos (by have := List.mem_range.1 hk; omega)]
theorem fillTo_set {α : Type} {z : α} {f : Nat → α} {N n : Nat} : (fillTo z f N n).set n (f n) = fillTo z f N (n + 1) := by
  unfold fillTo
  refine List.ext_getElem? fun k => ?_
  rw [List.getElem?_set]
  by_cases hk : k < N
  · by_cases hkn : n = k
    · subst hkn
      simp [hk]
    · rw [if_neg hkn]
      simp [hk]
      by_cases h1 : k < n
      · rw [if_pos h1, if_pos (by omega)]
      · rw [if_neg h1, if_neg (by omega)]
  · by_cases hkn : n = k
    · subst hkn; simp [hk]
    · rw [if_neg hkn]; simp [hk]
end Go.X

/- The reference's product of games. No condition. -/
set_option linter.unusedVariables false
namespace Go.X
theorem pair_div {s Sb t : Nat} (ht : t < Sb) : (s * Sb + t) / Sb = s ∧ (s * Sb + t) % Sb = t := by
  have hp : 0 < Sb := by omega
  constructor
  · rw [Nat.mul_comm, Nat.mul_add_div hp, Nat.div_eq_of_lt ht]; rfl
  · rw [Nat.mul_comm, Nat.mul_add_mod, Nat.mod_eq_of_lt ht]
theorem pair_lt {s Sa Sb t : Nat} (hs : s < Sa) (ht : t < Sb) : s * Sb + t < Sa * Sb := by
  have h1 : (s + 1) * Sb ≤ Sa * Sb := Nat.mul_le_mul_right _ hs
  rw [Nat.add_mul] at h1
  omega
theorem pgood_at {ag bg : List Bool} {Sb s t : Nat} (ht : t < Sb) : pgood ag bg Sb (s * Sb + t) = (ag.getD s false && bg.getD t false) := by
  unfold pgood
  rw [(pair_div ht).1, (pair_div ht).2]
theorem pcell_at {an bn : List Int} {Ca Ka Sb Cb Kb s t u v w x : Nat} (ht : t < Sb) (hv : v < Cb) (hx : x < Kb) :
    pcell an bn Ca Ka Sb Cb Kb (s * Sb + t) (u * Cb + v) (w * Kb + x) =
      if an.getD ((s * Ca + u) * Ka + w) 0 < 0 ∨ bn.getD ((t * Cb + v) * Kb + x) 0 < 0 then -1 else an.getD ((s * Ca + u) * Ka + w) 0 * Sb + bn.getD ((t * Cb + v) * Kb + x) 0 := by
  unfold pcell pxa pxb
  rw [(pair_div ht).1, (pair_div ht).2, (pair_div hv).1, (pair_div hv).2, (pair_div hx).1, (pair_div hx).2]
theorem mul_bd2 {m : Int} {Sa Sb : Nat} (h1 : -1 ≤ m) (h2 : m < Sa) (ha : Sa ≤ 400) (hb : Sb ≤ 400) : -400 ≤ m * Sb ∧ m * Sb ≤ 160000 := by
  rcases Int.lt_or_le m 0 with h | h
  · have : m = -1 := by omega
    subst this; omega
  · have h3 := Int.mul_nonneg h (by omega : (0 : Int) ≤ Sb)
    have h4 : m * Sb ≤ 400 * 400 := Int.mul_le_mul (by omega) (by omega) (by omega) (by omega)
    omega
end Go.X

/- Safe sets, in plain lists. No condition. -/
set_option linter.unusedVariables false
namespace Go.X
def bad (ins : List Bool) (n : Int) : Bool := decide (n < 0) || !(ins.getD n.toNat false)
def keepsP (next : List Int) (C K : Nat) (ins : List Bool) (s u : Nat) : Bool := !((leads next C K s u).any (bad ins))
def insL (ins : List Bool) : List Nat := (List.range ins.length).filter fun s => ins.getD s false
theorem filter_at {p : Nat → Bool} {n s : Nat} (hs : s < n) (hp : p s = true) :
    ((List.range s).filter p).length < ((List.range n).filter p).length ∧ ((List.range n).filter p)[((List.range s).filter p).length]? = some s := by
  have h1 : List.range n = List.range s ++ s :: (List.range' (s + 1) (n - s - 1)) := by
    rw [List.range_eq_range', List.range_eq_range', ← List.range'_succ]
    have := List.range'_append_1 (s := 0) (m := s) (n := n - s - 1 + 1)
    rw [Nat.zero_add] at this
    rw [this]
    congr 1
    omega
  rw [h1, List.filter_append, List.filter_cons, if_pos hp]
  constructor
  · simp
  · rw [List.getElem?_append_right (Nat.le_refl _)]
    simp
theorem filter_succ {p : Nat → Bool} {s : Nat} : ((List.range (s + 1)).filter p).length = ((List.range s).filter p).length + if p s = true then 1 else 0 := by
  rw [List.range_succ, List.filter_append, List.length_append]
  by_cases h : p s = true <;> simp [h]
end Go.X

/- The safe set of a game, round after round. No condition. -/
set_option linter.unusedVariables false
namespace Go.X
def ctlOf (next : List Int) (C K : Nat) (ins : List Bool) (s : Nat) : Int :=
  match (List.range C).find? (fun u => keepsP next C K ins s u) with
  | some u => u
  | none => -1
def ctlAt (next : List Int) (C K : Nat) (ins : List Bool) (ctl : List Int) (L : List Nat) : List Int := L.foldl (fun c s => c.set s (ctlOf next C K ins s)) ctl
def outsAt (next : List Int) (C K : Nat) (ins : List Bool) (L : List Nat) : List Nat := L.filter fun s => decide (ctlOf next C K ins s < 0)
def setAll {α : Type} (l : List α) (L : List Nat) (x : α) : List α := L.foldl (fun l s => l.set s x) l
def rounds (next : List Int) (C K : Nat) : Nat → Int → List Bool → List Int → List Int → List Bool × List Int × List Int
  | 0, _, ins, ctl, rnk => (ins, ctl, rnk)
  | f + 1, rank, ins, ctl, rnk =>
    if outsAt next C K ins (insL ins) = [] then (ins, ctlAt next C K ins ctl (insL ins), rnk)
    else rounds next C K f (rank + 1) (setAll ins (outsAt next C K ins (insL ins)) false) (ctlAt next C K ins ctl (insL ins)) (setAll rnk (outsAt next C K ins (insL ins)) rank)
def solved (S C K : Nat) (next : List Int) (good : List Bool) : List Bool × List Int × List Int :=
  let x := rounds next C K (S + 1) 1 good (List.replicate S (-1)) (List.replicate S 0)
  (x.1, x.2.1, setAll x.2.2 (insL x.1) (-1))
theorem ctlOf_at {next : List Int} {C K : Nat} {ins : List Bool} {s u : Nat} (hu : u < C) (h : keepsP next C K ins s u = true) (h0 : ∀ u' < u, keepsP next C K ins s u' = false) : ctlOf next C K ins s = u := by
  unfold ctlOf
  have : (List.range C).find? (fun u => keepsP next C K ins s u) = some u := by
    rw [List.find?_range_eq_some]
    exact ⟨h, List.mem_range.2 hu, fun j hj => by simp [h0 j hj]⟩
  rw [this]
theorem ctlOf_none {next : List Int} {C K : Nat} {ins : List Bool} {s : Nat} (h0 : ∀ u' < C, keepsP next C K ins s u' = false) : ctlOf next C K ins s = -1 := by
  unfold ctlOf
  have : (List.range C).find? (fun u => keepsP next C K ins s u) = none := by
    rw [List.find?_range_eq_none]
    exact fun i hi => by simp [h0 i hi]
  rw [this]
theorem take_snoc {α : Type} {L : List α} {i : Nat} {s : α} (h : L[i]? = some s) : L.take (i + 1) = L.take i ++ [s] := by
  rw [List.take_add_one, h]; rfl
theorem ctlAt_snoc {next : List Int} {C K : Nat} {ins : List Bool} {ctl : List Int} {L : List Nat} {s : Nat} : ctlAt next C K ins ctl (L ++ [s]) = (ctlAt next C K ins ctl L).set s (ctlOf next C K ins s) := by
  simp [ctlAt, List.foldl_append]
theorem ctlAt_len {next : List Int} {C K : Nat} {ins : List Bool} {L : List Nat} : ∀ {ctl : List Int}, (ctlAt next C K ins ctl L).length = ctl.length := by
  unfold ctlAt
  induction L with
  | nil => intro ctl; rfl
  | cons s L ih => intro ctl; rw [List.foldl_cons, ih, List.length_set]
theorem setAll_snoc {α : Type} {l : List α} {L : List Nat} {s : Nat} {x : α} : setAll l (L ++ [s]) x = (setAll l L x).set s x := by simp [setAll, List.foldl_append]
theorem setAll_len {α : Type} {L : List Nat} {x : α} : ∀ {l : List α}, (setAll l L x).length = l.length := by
  unfold setAll
  induction L with
  | nil => intro l; rfl
  | cons s L ih => intro l; rw [List.foldl_cons, ih, List.length_set]
theorem insL_mem {ins : List Bool} {i s : Nat} (h : (insL ins)[i]? = some s) : s < ins.length ∧ ins.getD s false = true := by
  have := List.mem_of_getElem? h
  unfold insL at this
  rw [List.mem_filter, List.mem_range] at this
  exact this
theorem outs_mem {next : List Int} {C K : Nat} {ins : List Bool} {L : List Nat} {i s : Nat} (h : (outsAt next C K ins L)[i]? = some s) : s ∈ L := by
  have := List.mem_of_getElem? h
  unfold outsAt at this
  exact (List.mem_filter.1 this).1
theorem count_set_le (l : List Bool) (s : Nat) : (l.set s false).count true ≤ l.count true := by
  by_cases h : s < l.length
  · rw [List.count_set h]; simp
  · rw [List.set_eq_of_length_le (by omega)]; exact Nat.le_refl _
theorem count_setAll_le (L : List Nat) : ∀ l : List Bool, (setAll l L false).count true ≤ l.count true := by
  induction L with
  | nil => intro l; exact Nat.le_refl _
  | cons s L ih => intro l; exact Nat.le_trans (ih (l.set s false)) (count_set_le l s)
theorem count_setAll_lt {L : List Nat} {l : List Bool} (h : L ≠ []) (hm : ∀ s ∈ L, s < l.length ∧ l.getD s false = true) : (setAll l L false).count true < l.count true := by
  cases L with
  | nil => exact absurd rfl h
  | cons s L =>
    obtain ⟨h1, h2⟩ := hm s List.mem_cons_self
    refine Nat.lt_of_le_of_lt (count_setAll_le L (l.set s false)) ?_
    rw [List.count_set h1]
    have h3 : l[s] = true := by rw [List.getD_eq_getElem?_getD, List.getElem?_eq_getElem h1] at h2; exact h2
    have h4 : 0 < l.count true := List.count_pos_iff.2 (h3 ▸ List.getElem_mem h1)
    simp [h3]
    omega
end Go.X
namespace Go.X
theorem outs_no {next : List Int} {C K : Nat} {ins : List Bool} {L : List Nat} {s : Nat} (h : ¬ ctlOf next C K ins s < 0) : outsAt next C K ins (L ++ [s]) = outsAt next C K ins L := by
  simp [outsAt, List.filter_append, h]
theorem outs_yes {next : List Int} {C K : Nat} {ins : List Bool} {L : List Nat} {s : Nat} (h : ctlOf next C K ins s < 0) : outsAt next C K ins (L ++ [s]) = outsAt next C K ins L ++ [s] := by
  simp [outsAt, List.filter_append, h]
theorem outs_le {next : List Int} {C K : Nat} {ins : List Bool} {i : Nat} : (outsAt next C K ins ((insL ins).take i)).length ≤ ins.length := by
  unfold outsAt
  refine Nat.le_trans (List.length_filter_le ..) ?_
  rw [List.length_take]
  refine Nat.le_trans (Nat.min_le_right ..) ?_
  unfold insL
  refine Nat.le_trans (List.length_filter_le ..) ?_
  simp
end Go.X

/- Operations under a guard that is known to hold. No condition. -/
set_option linter.unusedSimpArgs false
set_option linter.unusedVariables false
namespace Go.X
section
variable {P : Program} {ops : Array Oper} {e : Env} {o r : List PHeap} {d : Option Tmp} {ty : TypeId} {pos : String} {aft : Array Edge}
theorem Stp.want {op : Op} {j gt : Nat} {want b : Bool} {Ψ : Value → List PHeap → Prop} (hj : (ops[j]?).bind (·.dst) = some gt) (hg : find e gt = some (.bool b)) (hb : b = want)
    (s : Stp P ops ⟨d, op, ty, pos, aft, none⟩ e o r Ψ) : Stp P ops ⟨d, op, ty, pos, aft, some (j, want)⟩ e o r Ψ := fun D a w he hs => by
  have h := s D a w he hs
  have hw := wanted_guard (d := d) (ty := ty) (pos := pos) (aft := aft) (want := want) (op := op) hj (he gt _ hg)
  have hx : execOp (evA a) (⟨d, op, ty, pos, aft, some (j, want)⟩ : Oper) = execOp (evA a) (⟨d, op, ty, pos, aft, none⟩ : Oper) := rfl
  unfold Does at h ⊢
  rw [hw, hx, if_pos (by simp [hb])]
  rwa [if_pos (by simp [Region.wanted])] at h
end
section
variable {c : Cx} {ops : Array Oper} {rest : List Oper} {k : List Item} {e : Env} {o r : List PHeap} {d : Nat} {ty : TypeId} {pos : String} {aft : Array Edge}
variable {α : Type} {enc : α → List Value} {sz : Nat} {h : PHeap} {xs : List α} {v : Value}
theorem XO.litG {t el : TypeId} [u : Und c.P t (.slice el)] [z : TySize c.P el sz] {zs : List Value} [zz : Zero c.P el zs] {n : Nat} {l : List (Nat × Operand)} {j gt : Nat} {want b : Bool} (zl cs : List Value) (xs : List α) (enc : α → List Value)
    (hj : (ops[j]?).bind (·.dst) = some gt) (hg : find e gt = some (.bool b)) (hb : b = want)
    (hzs : zs.length = sz) (hsz : Nat.blt 0 sz = true) (hn : Nat.ble (n * sz) 16777216 = true) (hzl : (List.replicate n zs).flatten = zl) (hf : Fill e (fun i => some (i * sz, sz)) l zl cs)
    (henc : ∀ x, (enc x).length = sz) (hcs : xs.flatMap enc = cs) (hxn : xs.length = n) (ho : Ones cs) (hle : Nat.ble n 16777216 = true)
    (hnx : ∀ v' h', OArr v' enc sz el h' xs → XO c ops rest k ((d, some v') :: e) (h' :: o) r) :
    XO c ops (⟨some d, .buildSlice t n l.toArray, ty, pos, aft, some (j, want)⟩ :: rest) k e o r :=
  XO.s (Stp.want hj hg hb ((Makes.lit cs hzs hsz hn (by rw [hzl]; exact hf)).stp _ _)) fun _ _ ⟨b, hv, ho'⟩ => by subst hv ho'; exact hnx _ _ (OArr.lit xs enc henc hcs hxn ho hle)
end
end Go.X

/- The example of the chapter. No condition. -/
set_option linter.unusedVariables false
namespace Go.X
def solveG (g : G) : List Bool × List Int × List Int := if gcheck g ≠ 0 then ([], [], []) else solved g.S.toNat g.C.toNat g.K.toNat g.next g.good
def exG : G := ⟨3, 2, 2, [0, 1, 0, 0, 1, 2, 0, 1, 2, 2, 2, 2], [true, true, false]⟩
theorem ex1 : gcheck exG = 0 := by decide +kernel
theorem ex2 : (without exG 1).2 = 0 := by decide +kernel
theorem ex3 : gcheck (without exG 1).1 = 0 := by decide +kernel
theorem ex4 : (product exG exG).2 = 0 := by decide +kernel
theorem ex5 : gcheck (product exG exG).1 = 0 := by decide +kernel
theorem ex6 : (solveG exG).1 = [true, true, false] := by decide +kernel
theorem ex7 : (solveG exG).2.1 = [0, 1, -1] := by decide +kernel
theorem ex8 : (solveG exG).2.2 = [-1, -1, 0] := by decide +kernel
theorem ex9 : (solveG (without exG 1).1).2.2 = [2, 1, 0] := by decide +kernel
theorem ex10 : (solveG (product exG exG).1).1.count true = 4 := by decide +kernel
theorem count_snoc {l : List Bool} {i : Nat} (hi : i < l.length) : (l.take (i + 1)).count true = (l.take i).count true + if l.getD i default = true then 1 else 0 := by
  rw [List.take_add_one, List.getElem?_eq_getElem hi, Option.toList_some, List.count_append, List.getD_eq_getElem?_getD, List.getElem?_eq_getElem hi, Option.getD_some]
  congr 1
  cases l[i] <;> simp
end Go.X

/- The safe set is kept, and each set that is kept lies in it. No condition. -/
set_option linter.unusedVariables false
namespace Go.X
def inS (ins : List Bool) (s : Nat) : Prop := ins.getD s false = true
theorem inS_lt {ins : List Bool} {s : Nat} (h : inS ins s) : s < ins.length := by
  unfold inS at h
  rw [List.getD_eq_getElem?_getD] at h
  rcases Nat.lt_or_ge s ins.length with h1 | h1
  · exact h1
  · rw [List.getElem?_eq_none h1] at h; cases h
theorem mem_insL {ins : List Bool} {s : Nat} : s ∈ insL ins ↔ inS ins s := by
  unfold insL
  rw [List.mem_filter, List.mem_range]
  exact ⟨fun h => h.2, fun h => ⟨inS_lt h, h⟩⟩
theorem keepsP_iff {next : List Int} {C K : Nat} {ins : List Bool} {s u : Nat} : keepsP next C K ins s u = true ↔ ∀ n ∈ leads next C K s u, 0 ≤ n ∧ inS ins n.toNat := by
  unfold keepsP
  rw [Bool.not_eq_true', List.any_eq_false]
  refine forall_congr' fun n => imp_congr_right fun hn => ?_
  unfold bad inS
  simp only [Bool.or_eq_true, decide_eq_true_eq, Bool.not_eq_true', not_or, Bool.not_eq_false, Int.not_lt]
theorem ctlOf_neg {next : List Int} {C K : Nat} {ins : List Bool} {s : Nat} : ctlOf next C K ins s < 0 ↔ ∀ u < C, keepsP next C K ins s u = false := by
  constructor
  · intro h u hu
    unfold ctlOf at h
    split at h
    · omega
    · rename_i hn
      rw [List.find?_range_eq_none] at hn
      simpa using hn u hu
  · intro h
    rw [ctlOf_none h]; omega
/-- A set that a control keeps from each of its states. -/
def KeptBy (next : List Int) (C K : Nat) (A : Nat → Prop) : Prop := ∀ s, A s → ∃ u, u < C ∧ ∀ n ∈ leads next C K s u, 0 ≤ n ∧ A n.toNat
theorem setAll_get {L : List Nat} {s : Nat} : ∀ {l : List Bool}, inS (setAll l L false) s ↔ inS l s ∧ s ∉ L := by
  induction L with
  | nil => intro l; simp [setAll]
  | cons x L ih =>
    intro l
    have h1 : setAll l (x :: L) false = setAll (l.set x false) L false := rfl
    rw [h1, ih]
    have h2 : inS (l.set x false) s ↔ inS l s ∧ s ≠ x := by
      unfold inS
      rw [List.getD_eq_getElem?_getD, List.getD_eq_getElem?_getD, List.getElem?_set]
      by_cases hx : x = s
      · subst hx
        by_cases hl : x < l.length <;> simp [hl]
      · rw [if_neg hx]
        simp [Ne.symm hx]
    rw [h2]
    simp only [List.mem_cons, not_or]
    exact ⟨fun ⟨⟨a, b⟩, c⟩ => ⟨a, b, c⟩, fun ⟨a, b, c⟩ => ⟨⟨a, b⟩, c⟩⟩
theorem rounds_law {next : List Int} {C K : Nat} : ∀ (f : Nat) (rank : Int) (ins : List Bool) (ctl rnk : List Int), ins.count true < f →
    (rounds next C K f rank ins ctl rnk).1.length = ins.length ∧ (∀ s, inS (rounds next C K f rank ins ctl rnk).1 s → inS ins s) ∧ KeptBy next C K (inS (rounds next C K f rank ins ctl rnk).1) ∧
      ∀ A, KeptBy next C K A → (∀ s, A s → inS ins s) → ∀ s, A s → inS (rounds next C K f rank ins ctl rnk).1 s := by
  intro f
  induction f with
  | zero => intro rank ins ctl rnk h; omega
  | succ f ih =>
    intro rank ins ctl rnk h
    rw [rounds]
    by_cases hout : outsAt next C K ins (insL ins) = []
    · rw [if_pos hout]
      refine ⟨rfl, fun _ h => h, fun s hs => ?_, fun A _ h => h⟩
      have h1 : ¬ ctlOf next C K ins s < 0 := fun hc => by
        have : s ∈ outsAt next C K ins (insL ins) := List.mem_filter.2 ⟨mem_insL.2 hs, by simpa using hc⟩
        rw [hout] at this; cases this
      rw [ctlOf_neg] at h1
      have h2 : ∃ u, u < C ∧ keepsP next C K ins s u = true := by
        refine Classical.byContradiction fun hno => h1 fun u hu => ?_
        cases hk : keepsP next C K ins s u with
        | false => rfl
        | true => exact absurd ⟨u, hu, hk⟩ hno
      obtain ⟨u, hu, hk⟩ := h2
      exact ⟨u, hu, keepsP_iff.1 hk⟩
    · rw [if_neg hout]
      have hlt := count_setAll_lt hout (fun s hs => by
        have h1 := mem_insL.1 (List.mem_filter.1 hs).1
        exact ⟨inS_lt h1, h1⟩)
      obtain ⟨a, b, c, d⟩ := ih (rank + 1) (setAll ins (outsAt next C K ins (insL ins)) false) (ctlAt next C K ins ctl (insL ins)) (setAll rnk (outsAt next C K ins (insL ins)) rank) (by omega)
      refine ⟨a.trans setAll_len, fun s hs => (setAll_get.1 (b s hs)).1, c, fun A hA hsub s hs => d A hA (fun t ht => setAll_get.2 ⟨hsub t ht, fun hmem => ?_⟩) s hs⟩
      have h1 := (List.mem_filter.1 hmem).2
      simp only [decide_eq_true_eq] at h1
      rw [ctlOf_neg] at h1
      obtain ⟨u, hu, hk⟩ := hA t ht
      have h2 : keepsP next C K ins t u = true := keepsP_iff.2 fun n hn => ⟨(hk n hn).1, hsub _ (hk n hn).2⟩
      rw [h1 u hu] at h2; cases h2
/-- THE SAFE SET: it is kept, its states are good; each kept set of good states lies in it. -/
theorem solved_law {S C K : Nat} {next : List Int} {good : List Bool} (hg : good.length = S) :
    (solved S C K next good).1.length = S ∧ (∀ s, inS (solved S C K next good).1 s → inS good s) ∧ KeptBy next C K (inS (solved S C K next good).1) ∧
      ∀ A, KeptBy next C K A → (∀ s, A s → inS good s) → ∀ s, A s → inS (solved S C K next good).1 s := by
  have hc := List.count_le_length (a := true) (l := good)
  have := rounds_law (next := next) (C := C) (K := K) (S + 1) 1 good (List.replicate S (-1)) (List.replicate S 0) (by omega)
  rw [hg] at this
  exact this
end Go.X

/- Pieces of flat lists; a game without a control; products: what is kept. No condition. -/
set_option linter.unusedVariables false
namespace Go.X
theorem flat_piece {α : Type} {f : Nat → List α} {m : Nat} : ∀ {n i : Nat}, (∀ j < n, (f j).length = m) → i < n → (((List.range n).flatMap f).drop (i * m)).take m = f i
  | 0, i, _, hi => by omega
  | n + 1, i, hm, hi => by
    have hlen : ((List.range n).flatMap f).length = n * m := by
      have : ∀ k ≤ n, ((List.range k).flatMap f).length = k * m := by
        intro k
        induction k with
        | zero => intro _; simp
        | succ k ih => intro hk; rw [flat_succ, List.length_append, ih (by omega), hm k (by omega), Nat.add_mul, Nat.one_mul]
      exact this n (Nat.le_refl _)
    rw [flat_succ]
    rcases Nat.lt_or_ge i n with h | h
    · have h1 : (i + 1) * m ≤ n * m := Nat.mul_le_mul_right _ h
      rw [Nat.add_mul, Nat.one_mul] at h1
      rw [List.drop_append_of_le_length (by omega), List.take_append_of_le_length (by rw [List.length_drop]; omega)]
      exact flat_piece (fun j hj => hm j (by omega)) h
    · have hin : i = n := by omega
      subst hin
      rw [List.drop_append, List.drop_of_length_le (by omega), hlen, Nat.sub_self, List.drop_zero, List.nil_append, List.take_of_length_le (by rw [hm i (by omega)]; exact Nat.le_refl _)]
def skipU (u v : Nat) : Nat := if v < u then v else v + 1
theorem rowW_eq {next : List Int} {C K u s : Nat} (hu : u < C) : rowW next C K u s = (List.range (C - 1)).flatMap fun v => leads next C K s (skipU u v) := by
  have h1 : ∀ n, n ≤ u → (List.range n).flatMap (cellW next C K u s) = (List.range n).flatMap fun v => leads next C K s (skipU u v) := by
    intro n
    induction n with
    | zero => intro _; rfl
    | succ n ih =>
      intro hn
      rw [flat_succ, flat_succ, ih (by omega), cellW, if_neg (by omega), skipU, if_pos (by omega)]
  have h2 : ∀ k, (List.range (u + 1 + k)).flatMap (cellW next C K u s) = (List.range (u + k)).flatMap fun v => leads next C K s (skipU u v) := by
    intro k
    induction k with
    | zero => rw [Nat.add_zero, flat_succ, h1 u (Nat.le_refl _), cellW, if_pos rfl, List.append_nil, Nat.add_zero]
    | succ k ih =>
      rw [← Nat.add_assoc, ← Nat.add_assoc, flat_succ, flat_succ, ih, cellW, if_neg (by omega), skipU, if_neg (by omega), show u + 1 + k = u + k + 1 by omega]
  have h3 := h2 (C - u - 1)
  rw [show u + 1 + (C - u - 1) = C by omega, show u + (C - u - 1) = C - 1 by omega] at h3
  exact h3
theorem Ok.leads_length {S C K : Nat} {next : List Int} {good : List Bool} (ok : Ok S C K next good) {s v : Nat} (hs : s < S) (hv : v < C) : (leads next C K s v).length = K :=
  X.leads_length (by have := lead_le (K := K) hs hv; have := ok.len; omega)
theorem flat_len_eq {α : Type} {f : Nat → List α} {m : Nat} : ∀ {n : Nat}, (∀ j < n, (f j).length = m) → ((List.range n).flatMap f).length = n * m
  | 0, _ => by simp
  | n + 1, h => by rw [flat_succ, List.length_append, flat_len_eq (fun j hj => h j (by omega)), h n (by omega), Nat.add_mul, Nat.one_mul]
theorem skipU_lt {u v C : Nat} (hu : u < C) (hv : v < C - 1) : skipU u v < C := by unfold skipU; split <;> omega
theorem rowW_len_eq {S C K : Nat} {next : List Int} {good : List Bool} (ok : Ok S C K next good) {s u : Nat} (hs : s < S) (hu : u < C) : (rowW next C K u s).length = (C - 1) * K := by
  rw [rowW_eq hu]
  exact flat_len_eq fun v hv => ok.leads_length hs (skipU_lt hu hv)
theorem leads_without {S C K : Nat} {next : List Int} {good : List Bool} (ok : Ok S C K next good) {s u v : Nat} (hs : s < S) (hu : u < C) (hv : v < C - 1) :
    leads (rowsW next C K u S) (C - 1) K s v = leads next C K s (skipU u v) := by
  have h1 := flat_piece (f := rowW next C K u) (m := (C - 1) * K) (n := S) (i := s) (fun j hj => rowW_len_eq ok hj hu) hs
  have h2 := flat_piece (f := fun v => leads next C K s (skipU u v)) (m := K) (n := C - 1) (i := v) (fun j hj => ok.leads_length hs (skipU_lt hu hj)) hv
  rw [← rowW_eq hu, ← h1] at h2
  have h3 : v * K + K ≤ (C - 1) * K := by rw [← Nat.succ_mul]; exact Nat.mul_le_mul_right _ hv
  rw [List.drop_take, List.drop_drop, List.take_take, Nat.min_eq_left (by omega)] at h2
  unfold leads at h2 ⊢
  rw [← h2]
  unfold rowsW
  rw [show (s * (C - 1) + v) * K = s * ((C - 1) * K) + v * K by rw [Nat.add_mul, Nat.mul_assoc]]
end Go.X
namespace Go.X
theorem mem_leads {S C K : Nat} {next : List Int} {good : List Bool} (ok : Ok S C K next good) {s u : Nat} (hs : s < S) (hu : u < C) {n : Int} : n ∈ leads next C K s u ↔ ∃ w, w < K ∧ n = next.getD ((s * C + u) * K + w) 0 := by
  have hl := ok.leads_length hs hu
  constructor
  · intro h
    obtain ⟨w, hw, rfl⟩ := List.getElem_of_mem h
    refine ⟨w, by omega, ?_⟩
    rw [← leads_getD (by omega), List.getD_eq_getElem?_getD, List.getElem?_eq_getElem hw, Option.getD_some]
  · rintro ⟨w, hw, rfl⟩
    rw [← leads_getD hw, List.getD_eq_getElem?_getD, List.getElem?_eq_getElem (by omega), Option.getD_some]
    exact List.getElem_mem _
/-- A set that is kept with a control less is kept. -/
theorem kept_without {S C K : Nat} {next : List Int} {good : List Bool} (ok : Ok S C K next good) {u : Nat} (hu : u < C) {A : Nat → Prop} (hA : ∀ s, A s → s < S) (h : KeptBy (rowsW next C K u S) (C - 1) K A) : KeptBy next C K A := by
  intro s hs
  obtain ⟨v, hv, hk⟩ := h s hs
  rw [leads_without ok (hA s hs) hu hv] at hk
  exact ⟨_, skipU_lt hu hv, hk⟩
end Go.X

/- The safe set of a product is the product of the safe sets; a game without a control has no more safe states. No condition. -/
set_option linter.unusedVariables false
namespace Go.X
theorem KeptBy.lt {S : Nat} {ins good : List Bool} (h : ∀ s, inS ins s → inS good s) (hg : good.length = S) : ∀ s, inS ins s → s < S := fun s hs => by have := inS_lt (h s hs); omega
section
variable {Sa Ca Ka : Nat} {an : List Int} {ag : List Bool} (oka : Ok Sa Ca Ka an ag) {Sb Cb Kb : Nat} {bn : List Int} {bg : List Bool} (okb : Ok Sb Cb Kb bn bg)
abbrev prodN (an bn : List Int) (Sa Ca Ka Sb Cb Kb : Nat) : List Int := (List.range (Sa * Sb * (Ca * Cb) * (Ka * Kb))).map (pnext an bn Ca Ka Sb Cb Kb (Ca * Cb) (Ka * Kb))
abbrev prodG (ag bg : List Bool) (Sa Sb : Nat) : List Bool := (List.range (Sa * Sb)).map (pgood ag bg Sb)
include oka okb
theorem ok_prod (h1 : Sa * Sb ≤ 400) (h2 : Ca * Cb ≤ 16) (h3 : Ka * Kb ≤ 16) : Ok (Sa * Sb) (Ca * Cb) (Ka * Kb) (prodN an bn Sa Ca Ka Sb Cb Kb) (prodG ag bg Sa Sb) where
  s1 := Nat.mul_pos oka.s1 okb.s1
  s2 := h1
  c1 := Nat.mul_pos oka.c1 okb.c1
  c2 := h2
  k1 := Nat.mul_pos oka.k1 okb.k1
  k2 := h3
  len := by simp [prodN]
  glen := by simp [prodG]
  inr := fun n hn => by
    obtain ⟨i, _, rfl⟩ := List.mem_map.1 hn
    unfold pnext pcell
    split
    · have := Nat.mul_pos oka.s1 okb.s1; omega
    · rename_i hc
      have hxa := oka.get ((i / (Ka * Kb) / (Ca * Cb) / Sb * Ca + i / (Ka * Kb) % (Ca * Cb) / Cb) * Ka + i % (Ka * Kb) / Kb)
      have hxb := okb.get ((i / (Ka * Kb) / (Ca * Cb) % Sb * Cb + i / (Ka * Kb) % (Ca * Cb) % Cb) * Kb + i % (Ka * Kb) % Kb)
      change -1 ≤ pxa an Ca Ka Sb Cb Kb _ _ _ ∧ pxa an Ca Ka Sb Cb Kb _ _ _ < Sa at hxa
      change -1 ≤ pxb bn Sb Cb Kb _ _ _ ∧ pxb bn Sb Cb Kb _ _ _ < Sb at hxb
      generalize pxa an Ca Ka Sb Cb Kb _ _ _ = x at hxa hc ⊢
      generalize pxb bn Sb Cb Kb _ _ _ = y at hxb hc ⊢
      have h4 : (x + 1) * (Sb : Int) ≤ Sa * Sb := Int.mul_le_mul_of_nonneg_right (by omega) (by omega)
      rw [Int.add_mul, Int.one_mul] at h4
      have h5 : (0 : Int) ≤ x * Sb := Int.mul_nonneg (by omega) (by omega)
      have h6 : ((Sa * Sb : Nat) : Int) = (Sa : Int) * Sb := by simp
      rw [h6]
      omega
omit oka okb in
theorem prod_get {s u w : Nat} (hs : s < Sa * Sb) (hu : u < Ca * Cb) (hw : w < Ka * Kb) :
    (prodN an bn Sa Ca Ka Sb Cb Kb).getD ((s * (Ca * Cb) + u) * (Ka * Kb) + w) 0 = pcell an bn Ca Ka Sb Cb Kb s u w := by
  have h1 := (lead_le (K := Ka * Kb) hs hu).2.2
  unfold prodN
  rw [List.getD_eq_getElem?_getD, List.getElem?_map, List.getElem?_range (by omega), Option.map_some, Option.getD_some, pnext_at hu hw]
omit oka okb in
theorem pair_toNat {x y : Int} (hx : 0 ≤ x) (hy : 0 ≤ y) (hyb : y < Sb) : (x * Sb + y).toNat = x.toNat * Sb + y.toNat ∧ 0 ≤ x * Sb + y := by
  obtain ⟨m, rfl⟩ := Int.eq_ofNat_of_zero_le hx
  obtain ⟨n, rfl⟩ := Int.eq_ofNat_of_zero_le hy
  have : (m : Int) * Sb + n = ((m * Sb + n : Nat) : Int) := by simp
  rw [this]
  exact ⟨by simp only [Int.toNat_natCast], by omega⟩
/-- A product of kept sets is kept. -/
theorem kept_prod (h1 : Sa * Sb ≤ 400) (h2 : Ca * Cb ≤ 16) (h3 : Ka * Kb ≤ 16) {A B : Nat → Prop} (hA : ∀ s, A s → s < Sa) (hB : ∀ s, B s → s < Sb) (ka : KeptBy an Ca Ka A) (kb : KeptBy bn Cb Kb B) :
    KeptBy (prodN an bn Sa Ca Ka Sb Cb Kb) (Ca * Cb) (Ka * Kb) (fun i => i < Sa * Sb ∧ A (i / Sb) ∧ B (i % Sb)) := by
  rintro i ⟨hi, ha, hb⟩
  obtain ⟨u, hu, hku⟩ := ka _ ha
  obtain ⟨v, hv, hkv⟩ := kb _ hb
  have huv : u * Cb + v < Ca * Cb := pair_lt hu hv
  refine ⟨u * Cb + v, huv, fun n hn => ?_⟩
  obtain ⟨w, hw, rfl⟩ := (mem_leads (ok_prod oka okb h1 h2 h3) hi huv).1 hn
  rw [prod_get hi huv hw]
  obtain ⟨hw1, hw2⟩ := div_lt' hw
  have e1 := hku _ ((mem_leads oka (hA _ ha) hu).2 ⟨w / Kb, hw1, rfl⟩)
  have e2 := hkv _ ((mem_leads okb (hB _ hb) hv).2 ⟨w % Kb, hw2, rfl⟩)
  unfold pcell pxa pxb
  rw [(pair_div hv).1, (pair_div hv).2]
  have hr := okb.get ((i % Sb * Cb + v) * Kb + w % Kb)
  have hra := oka.get ((i / Sb * Ca + u) * Ka + w / Kb)
  generalize an.getD ((i / Sb * Ca + u) * Ka + w / Kb) 0 = x at e1 hra ⊢
  generalize bn.getD ((i % Sb * Cb + v) * Kb + w % Kb) 0 = y at e2 hr ⊢
  rw [if_neg (by omega)]
  obtain ⟨p1, p2⟩ := pair_toNat e1.1 e2.1 hr.2
  have hy : y.toNat < Sb := by omega
  rw [p1]
  dsimp only
  rw [(pair_div hy).1, (pair_div hy).2]
  exact ⟨p2, pair_lt (by omega) hy, e1.2, e2.2⟩
theorem prod_lead (h1 : Sa * Sb ≤ 400) (h2 : Ca * Cb ≤ 16) (h3 : Ka * Kb ≤ 16) {s t u w x : Nat} (hs : s < Sa) (ht : t < Sb) (hu : u < Ca * Cb) (hw : w < Ka) (hx : x < Kb) {D : Nat → Prop}
    (hk : ∀ n ∈ leads (prodN an bn Sa Ca Ka Sb Cb Kb) (Ca * Cb) (Ka * Kb) (s * Sb + t) u, 0 ≤ n ∧ D n.toNat) :
    ∃ m n : Nat, an.getD ((s * Ca + u / Cb) * Ka + w) 0 = m ∧ bn.getD ((t * Cb + u % Cb) * Kb + x) 0 = n ∧ m < Sa ∧ n < Sb ∧ D (m * Sb + n) := by
  have hst : s * Sb + t < Sa * Sb := pair_lt hs ht
  have hwx : w * Kb + x < Ka * Kb := pair_lt hw hx
  have e := hk _ ((mem_leads (ok_prod oka okb h1 h2 h3) hst hu).2 ⟨w * Kb + x, hwx, rfl⟩)
  rw [prod_get hst hu hwx] at e
  unfold pcell pxa pxb at e
  rw [(pair_div ht).1, (pair_div ht).2, (pair_div hx).1, (pair_div hx).2] at e
  have hra := oka.get ((s * Ca + u / Cb) * Ka + w)
  have hrb := okb.get ((t * Cb + u % Cb) * Kb + x)
  generalize an.getD ((s * Ca + u / Cb) * Ka + w) 0 = y at e hra ⊢
  generalize bn.getD ((t * Cb + u % Cb) * Kb + x) 0 = z at e hrb ⊢
  split at e
  · omega
  · rename_i hn
    obtain ⟨m, rfl⟩ := Int.eq_ofNat_of_zero_le (a := y) (by omega)
    obtain ⟨n, rfl⟩ := Int.eq_ofNat_of_zero_le (a := z) (by omega)
    have p1 := (pair_toNat (x := m) (y := n) (by omega) (by omega) hrb.2).1
    rw [p1] at e
    exact ⟨m, n, rfl, rfl, by omega, by omega, e.2⟩
theorem kept_left (h1 : Sa * Sb ≤ 400) (h2 : Ca * Cb ≤ 16) (h3 : Ka * Kb ≤ 16) {D : Nat → Prop} (k : KeptBy (prodN an bn Sa Ca Ka Sb Cb Kb) (Ca * Cb) (Ka * Kb) D) :
    KeptBy an Ca Ka (fun s => s < Sa ∧ ∃ t, t < Sb ∧ D (s * Sb + t)) := by
  rintro s ⟨hs, t, ht, hd⟩
  obtain ⟨u, hu, hk⟩ := k _ hd
  obtain ⟨hu1, hu2⟩ := div_lt' hu
  refine ⟨u / Cb, hu1, fun n hn => ?_⟩
  obtain ⟨w, hw, rfl⟩ := (mem_leads oka hs hu1).1 hn
  obtain ⟨m, n, e1, e2, hm, hn, hD⟩ := prod_lead oka okb h1 h2 h3 hs ht hu hw okb.k1 hk
  rw [e1]
  exact ⟨by omega, by simpa using hm, n, hn, by simpa using hD⟩
theorem kept_right (h1 : Sa * Sb ≤ 400) (h2 : Ca * Cb ≤ 16) (h3 : Ka * Kb ≤ 16) {D : Nat → Prop} (k : KeptBy (prodN an bn Sa Ca Ka Sb Cb Kb) (Ca * Cb) (Ka * Kb) D) :
    KeptBy bn Cb Kb (fun t => t < Sb ∧ ∃ s, s < Sa ∧ D (s * Sb + t)) := by
  rintro t ⟨ht, s, hs, hd⟩
  obtain ⟨u, hu, hk⟩ := k _ hd
  obtain ⟨hu1, hu2⟩ := div_lt' hu
  refine ⟨u % Cb, hu2, fun n hn => ?_⟩
  obtain ⟨w, hw, rfl⟩ := (mem_leads okb ht hu2).1 hn
  obtain ⟨m, n, e1, e2, hm, hn, hD⟩ := prod_lead oka okb h1 h2 h3 hs ht hu oka.k1 hw hk
  rw [e2]
  exact ⟨by omega, by simpa using hn, m, hm, by simpa using hD⟩
/-- The safe set of a product is the product of the safe sets. -/
theorem solved_prod (h1 : Sa * Sb ≤ 400) (h2 : Ca * Cb ≤ 16) (h3 : Ka * Kb ≤ 16) {i : Nat} (hi : i < Sa * Sb) :
    inS (solved (Sa * Sb) (Ca * Cb) (Ka * Kb) (prodN an bn Sa Ca Ka Sb Cb Kb) (prodG ag bg Sa Sb)).1 i ↔ inS (solved Sa Ca Ka an ag).1 (i / Sb) ∧ inS (solved Sb Cb Kb bn bg).1 (i % Sb) := by
  obtain ⟨la, ga, ka, ma⟩ := solved_law (S := Sa) (C := Ca) (K := Ka) (next := an) oka.glen
  obtain ⟨lb, gb, kb, mb⟩ := solved_law (S := Sb) (C := Cb) (K := Kb) (next := bn) okb.glen
  obtain ⟨lp, gp, kp, mp⟩ := solved_law (S := Sa * Sb) (C := Ca * Cb) (K := Ka * Kb) (next := prodN an bn Sa Ca Ka Sb Cb Kb) (good := prodG ag bg Sa Sb) (by simp)
  have hpg : ∀ j, j < Sa * Sb → (inS (prodG ag bg Sa Sb) j ↔ inS ag (j / Sb) ∧ inS bg (j % Sb)) := fun j hj => by
    unfold inS prodG pgood
    rw [List.getD_eq_getElem?_getD, List.getElem?_map, List.getElem?_range hj, Option.map_some, Option.getD_some, Bool.and_eq_true]
  have hsub : ∀ j, inS (solved (Sa * Sb) (Ca * Cb) (Ka * Kb) (prodN an bn Sa Ca Ka Sb Cb Kb) (prodG ag bg Sa Sb)).1 j → j < Sa * Sb := fun j hj => by have := inS_lt hj; omega
  obtain ⟨hi1, hi2⟩ := div_lt' hi
  have hii : i / Sb * Sb + i % Sb = i := by rw [Nat.mul_comm]; exact Nat.div_add_mod i Sb
  constructor
  · intro h
    constructor
    · refine ma _ (kept_left oka okb h1 h2 h3 kp) ?_ _ ⟨hi1, i % Sb, hi2, by rw [hii]; exact h⟩
      rintro s ⟨hs, t, ht, hd⟩
      have := (hpg _ (hsub _ hd)).1 (gp _ hd)
      rw [(pair_div ht).1] at this
      exact this.1
    · refine mb _ (kept_right oka okb h1 h2 h3 kp) ?_ _ ⟨hi2, i / Sb, hi1, by rw [hii]; exact h⟩
      rintro t ⟨ht, s, hs, hd⟩
      have := (hpg _ (hsub _ hd)).1 (gp _ hd)
      rw [(pair_div ht).2] at this
      exact this.2
  · rintro ⟨ha, hb⟩
    refine mp _ (kept_prod oka okb h1 h2 h3 (fun s hs => by have := inS_lt hs; omega) (fun s hs => by have := inS_lt hs; omega) ka kb) ?_ _ ⟨hi, ha, hb⟩
    rintro j ⟨hj, hja, hjb⟩
    exact (hpg j hj).2 ⟨ga _ hja, gb _ hjb⟩
end
theorem solved_without {S C K : Nat} {next : List Int} {good : List Bool} (ok : Ok S C K next good) {u : Nat} (hu : u < C) {s : Nat} (h : inS (solved S (C - 1) K (rowsW next C K u S) good).1 s) : inS (solved S C K next good).1 s := by
  obtain ⟨la, ga, ka, ma⟩ := solved_law (S := S) (C := C) (K := K) (next := next) ok.glen
  obtain ⟨lw, gw, kw, mw⟩ := solved_law (S := S) (C := C - 1) (K := K) (next := rowsW next C K u S) ok.glen
  exact ma _ (kept_without ok hu (fun s hs => by have := inS_lt hs; omega) kw) gw s h
theorem ok_without {S C K : Nat} {next : List Int} {good : List Bool} (ok : Ok S C K next good) {u : Nat} (hu : u < C) (hc : 1 < C) : Ok S (C - 1) K (rowsW next C K u S) good where
  s1 := ok.s1
  s2 := ok.s2
  c1 := by omega
  c2 := by have := ok.c2; omega
  k1 := ok.k1
  k2 := ok.k2
  len := by
    unfold rowsW
    rw [flat_len_eq (m := (C - 1) * K) fun s hs => rowW_len_eq ok hs hu, Nat.mul_assoc]
  glen := ok.glen
  inr := fun n hn => by
    unfold rowsW rowW cellW at hn
    simp only [List.mem_flatMap, List.mem_range] at hn
    obtain ⟨s, hs, v, hv, hn⟩ := hn
    split at hn
    · cases hn
    · exact ok.inr n (List.mem_of_mem_drop (List.mem_of_mem_take hn))
end Go.X

/- Products and games without a control: what their safe sets are. No condition. -/
set_option linter.unusedVariables false
namespace Go.X
abbrev mkG (S C K : Nat) (next : List Int) (good : List Bool) : G := ⟨S, C, K, next, good⟩
theorem gcheck_mk {S C K : Nat} {next : List Int} {good : List Bool} (ok : Ok S C K next good) : gcheck (mkG S C K next good) = 0 := by
  have e : ((next.length : Nat) : Int) = (S : Int) * C * K := by rw [ok.len]; simp
  have h1 := ok.s1; have h2 := ok.s2; have h3 := ok.c1; have h4 := ok.c2; have h5 := ok.k1; have h6 := ok.k2; have h7 := ok.glen
  unfold gcheck
  rw [if_neg (by dsimp only; omega), if_neg (by dsimp only; omega), if_neg]
  intro h
  obtain ⟨n, hn, hb⟩ := List.any_eq_true.1 h
  have := ok.inr n hn
  simp only [Bool.or_eq_true, decide_eq_true_eq] at hb
  omega
theorem solveG_mk {S C K : Nat} {next : List Int} {good : List Bool} (ok : Ok S C K next good) : solveG (mkG S C K next good) = solved S C K next good := by
  rw [solveG, if_neg (by rw [gcheck_mk ok]; simp)]
  simp
theorem solveG_len {S C K : Nat} {next : List Int} {good : List Bool} (ok : Ok S C K next good) : (solveG (mkG S C K next good)).1.length = S := by
  rw [solveG_mk ok]; exact (solved_law ok.glen).1
section
variable {Sa Ca Ka : Nat} {an : List Int} {ag : List Bool} (oka : Ok Sa Ca Ka an ag) {Sb Cb Kb : Nat} {bn : List Int} {bg : List Bool} (okb : Ok Sb Cb Kb bn bg)
include oka okb
theorem product_ok : (400 < Sa * Sb ∨ 16 < Ca * Cb ∨ 16 < Ka * Kb) ∧ product (mkG Sa Ca Ka an ag) (mkG Sb Cb Kb bn bg) = (zeroG, 2) ∨
    Sa * Sb ≤ 400 ∧ Ca * Cb ≤ 16 ∧ Ka * Kb ≤ 16 ∧ product (mkG Sa Ca Ka an ag) (mkG Sb Cb Kb bn bg) = (mkG (Sa * Sb) (Ca * Cb) (Ka * Kb) (prodN an bn Sa Ca Ka Sb Cb Kb) (prodG ag bg Sa Sb), 0) := by
  have e1 : ((Sa * Sb : Nat) : Int) = (Sa : Int) * Sb := by simp
  have e2 : ((Ca * Cb : Nat) : Int) = (Ca : Int) * Cb := by simp
  have e3 : ((Ka * Kb : Nat) : Int) = (Ka : Int) * Kb := by simp
  unfold product
  rw [if_neg (by rw [gcheck_mk oka]; simp), if_neg (by rw [gcheck_mk okb]; simp)]
  dsimp only
  rw [← e1, ← e2, ← e3]
  by_cases h : 400 < Sa * Sb ∨ 16 < Ca * Cb ∨ 16 < Ka * Kb
  · left
    refine ⟨h, ?_⟩
    rw [if_pos (by omega)]
  · right
    refine ⟨by omega, by omega, by omega, ?_⟩
    rw [if_neg (by omega)]
    simp only [Int.toNat_natCast]
theorem product_e : (product (mkG Sa Ca Ka an ag) (mkG Sb Cb Kb bn bg)).2 = 0 ∨ (product (mkG Sa Ca Ka an ag) (mkG Sb Cb Kb bn bg)).2 = 2 := by
  rcases product_ok oka okb with ⟨_, h⟩ | ⟨_, _, _, h⟩ <;> rw [h] <;> simp
theorem product_law (h : (product (mkG Sa Ca Ka an ag) (mkG Sb Cb Kb bn bg)).2 = 0) : gcheck (product (mkG Sa Ca Ka an ag) (mkG Sb Cb Kb bn bg)).1 = 0 ∧
    (solveG (product (mkG Sa Ca Ka an ag) (mkG Sb Cb Kb bn bg)).1).1.length = Sa * Sb ∧
    ∀ i, i < Sa * Sb → (solveG (product (mkG Sa Ca Ka an ag) (mkG Sb Cb Kb bn bg)).1).1.getD i default =
      ((solveG (mkG Sa Ca Ka an ag)).1.getD (i / Sb) default && (solveG (mkG Sb Cb Kb bn bg)).1.getD (i % Sb) default) := by
  rcases product_ok oka okb with ⟨_, h'⟩ | ⟨h1, h2, h3, h'⟩
  · rw [h'] at h; simp at h
  · rw [h']
    dsimp only
    have okp := ok_prod oka okb h1 h2 h3
    refine ⟨gcheck_mk okp, solveG_len okp, fun i hi => ?_⟩
    rw [solveG_mk okp, solveG_mk oka, solveG_mk okb]
    have := solved_prod oka okb h1 h2 h3 hi
    unfold inS at this
    change (solved _ _ _ _ _).1.getD i false = ((solved _ _ _ _ _).1.getD _ false && (solved _ _ _ _ _).1.getD _ false)
    rw [Bool.eq_iff_iff, Bool.and_eq_true]
    exact this
end
theorem without_ok {S C K : Nat} {next : List Int} {good : List Bool} (ok : Ok S C K next good) {u : Nat} (hu : u < C) : C = 1 ∧ (without (mkG S C K next good) u).2 = 2 ∨
    1 < C ∧ without (mkG S C K next good) u = (mkG S (C - 1) K (rowsW next C K u S) good, 0) := by
  unfold without
  rw [if_neg (by rw [gcheck_mk ok]; simp)]
  dsimp only
  rw [if_neg (by omega)]
  by_cases h : C = 1
  · left
    rw [if_pos (by omega)]
    exact ⟨h, rfl⟩
  · right
    refine ⟨by omega, ?_⟩
    rw [if_neg (by omega)]
    simp only [Int.toNat_natCast]
    have : ((C : Int) - 1) = ((C - 1 : Nat) : Int) := by omega
    rw [this]
theorem without_law {S C K : Nat} {next : List Int} {good : List Bool} (ok : Ok S C K next good) {u : Nat} (hu : u < C) (hc : C ≠ 1) : (without (mkG S C K next good) u).2 = 0 ∧ gcheck (without (mkG S C K next good) u).1 = 0 ∧
    (solveG (without (mkG S C K next good) u).1).1.length = S ∧
    ∀ s, (solveG (without (mkG S C K next good) u).1).1.getD s default = true → (solveG (mkG S C K next good)).1.getD s default = true := by
  rcases without_ok ok hu with ⟨h, _⟩ | ⟨h, h'⟩
  · exact absurd h hc
  · rw [h']
    have okw := ok_without ok hu h
    refine ⟨rfl, gcheck_mk okw, solveG_len okw, fun s hs => ?_⟩
    rw [solveG_mk okw] at hs
    rw [solveG_mk ok]
    exact solved_without ok hu hs
end Go.X

/- Certificates of games, in plain lists. No condition. -/
set_option linter.unusedVariables false
namespace Go.X
def badL (ins : List Bool) (rnk : List Int) (s : Nat) (n : Int) : Bool := decide (n < 0) || (!(ins.getD n.toNat default) && decide (rnk.getD n.toNat default < rnk.getD s default))
def lostP (next : List Int) (C K : Nat) (ins : List Bool) (rnk : List Int) (s : Nat) : Bool := (List.range C).all fun u => (leads next C K s u).any (badL ins rnk s)
def rightP (C K : Nat) (next : List Int) (good : List Bool) (ins : List Bool) (ctl rnk : List Int) (s : Nat) : Bool :=
  if ins.getD s default = true then
    (((good.getD s default && decide (0 ≤ ctl.getD s default)) && decide (ctl.getD s default < (C : Int))) && decide (rnk.getD s default = -1)) && keepsP next C K ins s (ctl.getD s default).toNat
  else if rnk.getD s default = 0 then decide (ctl.getD s default = -1) && !(good.getD s default)
  else (decide (ctl.getD s default = -1) && decide (0 < rnk.getD s default)) && lostP next C K ins rnk s
def verifyG (g : G) (ins : List Bool) (ctl rnk : List Int) : Int :=
  if gcheck g ≠ 0 then gcheck g
  else if ((ins.length : Int) ≠ g.S ∨ (ctl.length : Int) ≠ g.S) ∨ (rnk.length : Int) ≠ g.S then 7
  else if (List.range g.S.toNat).all (rightP g.C.toNat g.K.toNat g.next g.good ins ctl rnk) = true then 0 else 7
theorem all_succ {p : Nat → Bool} {n : Nat} : (List.range (n + 1)).all p = ((List.range n).all p && p n) := by
  rw [List.range_succ, List.all_append]; simp
theorem all_false {p : Nat → Bool} {n s : Nat} (hs : s < n) (h : p s = false) : (List.range n).all p = false := by
  rw [List.all_eq_false]
  exact ⟨s, List.mem_range.2 hs, by simp [h]⟩
theorem verify_bad {g : G} {ins : List Bool} {ctl rnk : List Int} (h : ¬ gcheck g = 0) : verifyG g ins ctl rnk = gcheck g := by rw [verifyG, if_pos h]
theorem verify_len {g : G} {ins : List Bool} {ctl rnk : List Int} (h : gcheck g = 0) (hl : ((ins.length : Int) ≠ g.S ∨ (ctl.length : Int) ≠ g.S) ∨ (rnk.length : Int) ≠ g.S) : verifyG g ins ctl rnk = 7 := by
  rw [verifyG, if_neg (by simpa using h), if_pos hl]
theorem verify_all {S C K : Nat} {next : List Int} {good : List Bool} (ok : Ok S C K next good) {ins : List Bool} {ctl rnk : List Int} (h1 : ins.length = S) (h2 : ctl.length = S) (h3 : rnk.length = S) :
    verifyG (mkG S C K next good) ins ctl rnk = if (List.range S).all (rightP C K next good ins ctl rnk) = true then 0 else 7 := by
  rw [verifyG, if_neg (by rw [gcheck_mk ok]; simp), if_neg (by dsimp only; omega)]
  simp only [Int.toNat_natCast]
theorem keepsP_all {next : List Int} {C K : Nat} {ins : List Bool} {s u : Nat} : keepsP next C K ins s u = (leads next C K s u).all fun n => !bad ins n := by
  unfold keepsP; rw [List.not_any_eq_all_not]
end Go.X

/- Guards within guards. No condition. -/
set_option linter.unusedSimpArgs false
set_option linter.unusedVariables false
namespace Go.X
theorem bpT {b : Bool} {p : Prop} [t : BoolP b p] (h : b = true) : p := t.pf.1 h
theorem bpF {b : Bool} {p : Prop} [t : BoolP b p] (h : b = false) : ¬ p := fun hp => by rw [t.pf.2 hp] at h; cases h
theorem wanted_val {ops : Array Oper} {d : Option Tmp} {op : Op} {ty : TypeId} {pos : String} {aft : Array Edge} {j : Nat} {want : Bool} {g : Nat} {a : Array Value} {v : Value} (hj : (ops[j]?).bind (·.dst) = some g) (hv : a.getD g undef = v) (hn : v ≠ .bool want) :
    Region.wanted ⟨d, op, ty, pos, aft, some (j, want)⟩ (yielded ops a) = false := by
  have hy : yielded ops a j ≠ some want := by
    unfold yielded
    rw [hj]
    simp only [Option.bind_some]
    rcases Nat.lt_or_ge g a.size with hlt | hge
    · have e1 : a[g]? = some a[g] := Array.getElem?_eq_getElem hlt
      have e2 : a[g] = v := by simpa [hlt] using hv
      rw [e1, e2]
      intro h
      cases v <;> simp_all
    · rw [Array.getElem?_eq_none hge]
      simp
  simp only [Region.wanted]
  simpa using hy
/-- What the value at g tells: φ, or not. -/
def Tells (e : Env) (g : Nat) (want : Bool) (φ : Prop) : Prop := ∃ v, find e g = some v ∧ (φ → v = .bool want) ∧ (¬ φ → v ≠ .bool want)
theorem undef_ne {b : Bool} : undef ≠ .bool b := by simp [undef]
theorem Tells.d1 {e : Env} {g : Nat} {want b : Bool} (h : find e g = some (.bool b)) : Tells e g want (b = want) :=
  ⟨_, h, fun hb => by rw [hb], fun hb hv => hb (by simpa using hv)⟩
theorem Tells.d2 {e : Env} {g : Nat} {want b b1 w1 : Bool} (h : find e g = some (lz b1 w1 (.bool b))) : Tells e g want (b1 = w1 ∧ b = want) :=
  ⟨_, h, fun ⟨h1, h2⟩ => by simp [lz, h1, h2], fun hn hv => by
    unfold lz at hv
    split at hv
    · exact hn ⟨‹_›, by simpa using hv⟩
    · exact undef_ne hv⟩
theorem Tells.d3 {e : Env} {g : Nat} {want b b1 w1 b2 w2 : Bool} (h : find e g = some (lz b1 w1 (lz b2 w2 (.bool b)))) : Tells e g want (b1 = w1 ∧ b2 = w2 ∧ b = want) :=
  ⟨_, h, fun ⟨h1, h2, h3⟩ => by simp [lz, h1, h2, h3], fun hn hv => by
    unfold lz at hv
    split at hv
    · split at hv
      · exact hn ⟨‹_›, ‹_›, by simpa using hv⟩
      · exact undef_ne hv
    · exact undef_ne hv⟩
section
variable {P : Program} {ops : Array Oper} {e : Env} {o r : List PHeap} {d : Option Tmp} {ty : TypeId} {pos : String} {aft : Array Edge}
theorem Tells.no {φ : Prop} {j : Nat} {want : Bool} {g : Nat} {op : Op} {a : Array Value} (hj : (ops[j]?).bind (·.dst) = some g) (t : Tells e g want φ) (he : ERel e a) (hn : ¬ φ) :
    Region.wanted ⟨d, op, ty, pos, aft, some (j, want)⟩ (yielded ops a) = false := by
  obtain ⟨v, h1, _, h3⟩ := t
  exact wanted_val hj (he _ _ h1) (h3 hn)
theorem Tells.yes {φ : Prop} {j : Nat} {want : Bool} {g : Nat} {op : Op} {a : Array Value} (hj : (ops[j]?).bind (·.dst) = some g) (t : Tells e g want φ) (he : ERel e a) (hn : φ) :
    Region.wanted ⟨d, op, ty, pos, aft, some (j, want)⟩ (yielded ops a) = true := by
  obtain ⟨v, h1, h2, _⟩ := t
  have := he _ _ h1
  rw [h2 hn] at this
  rw [wanted_guard hj this]
  simp
theorem Quiet.tells {φ : Prop} {op : Op} {v v' : Value} {j : Nat} {want : Bool} {g : Nat} (hj : (ops[j]?).bind (·.dst) = some g) (t : Tells e g want φ) (h1 : φ → v' = v) (h2 : ¬ φ → v' = undef)
    (h : φ → Quiet P ops ⟨d, op, ty, pos, aft, none⟩ e o r v) : Quiet P ops ⟨d, op, ty, pos, aft, some (j, want)⟩ e o r v' := by
  intro a w he hr
  by_cases hp : φ
  · rcases h hp a w he hr with ⟨_, h3⟩ | ⟨h3, _⟩
    · left
      refine ⟨t.yes hj he hp, ?_⟩
      rw [h1 hp]
      exact h3
    · simp [Region.wanted] at h3
  · exact .inr ⟨t.no hj he hp, h2 hp⟩
theorem Quiet.guard2 {op : Op} {v : Value} {j : Nat} {want b b1 w1 : Bool} {g : Nat} (hj : (ops[j]?).bind (·.dst) = some g) (hg : find e g = some (lz b1 w1 (.bool b)))
    (h : b1 = w1 → b = want → Quiet P ops ⟨d, op, ty, pos, aft, none⟩ e o r v) : Quiet P ops ⟨d, op, ty, pos, aft, some (j, want)⟩ e o r (lz b1 w1 (lz b want v)) :=
  Quiet.tells hj (.d2 hg) (fun ⟨h1, h2⟩ => by simp [lz, h1, h2]) (fun hn => by
    unfold lz
    split
    · split
      · exact absurd ⟨‹_›, ‹_›⟩ hn
      · rfl
    · rfl) (fun ⟨h1, h2⟩ => h h1 h2)
theorem Quiet.guard3 {op : Op} {v : Value} {j : Nat} {want b b1 w1 b2 w2 : Bool} {g : Nat} (hj : (ops[j]?).bind (·.dst) = some g) (hg : find e g = some (lz b1 w1 (lz b2 w2 (.bool b))))
    (h : b1 = w1 → b2 = w2 → b = want → Quiet P ops ⟨d, op, ty, pos, aft, none⟩ e o r v) : Quiet P ops ⟨d, op, ty, pos, aft, some (j, want)⟩ e o r (lz b1 w1 (lz b2 w2 (lz b want v))) :=
  Quiet.tells hj (.d3 hg) (fun ⟨h1, h2, h3⟩ => by simp [lz, h1, h2, h3]) (fun hn => by
    unfold lz
    split
    · split
      · split
        · exact absurd ⟨‹_›, ‹_›, ‹_›⟩ hn
        · rfl
      · rfl
    · rfl) (fun ⟨h1, h2, h3⟩ => h h1 h2 h3)
/-- A call of a function value that only computes, under guards. -/
theorem Stp.vtells {φ : Prop} {x : Operand} {l : List Operand} {tys : Array TypeId} {y : Value} {vs : List Value} {Hr : List PHeap} {u u' : Value} {j : Nat} {want : Bool} {g : Nat}
    (hj : (ops[j]?).bind (·.dst) = some g) (t : Tells e g want φ) (h1 : φ → u' = u) (h2 : ¬ φ → u' = undef) (hx : φ → ev e x = some y) (hl : φ → EvL e l vs) (hS : φ → VSpec P y vs [] Hr (fun v hs => v = u ∧ hs = [])) [al : AllIn Hr o r] :
    Stp P ops ⟨d, .call ⟨.value x, l.toArray, tys⟩, ty, pos, aft, some (j, want)⟩ e o r (fun v o2 => v = u' ∧ o2 = o) := fun D a w he hs => by
  by_cases hp : φ
  · have hw := t.yes (d := d) (ty := ty) (pos := pos) (aft := aft) (op := .call ⟨.value x, l.toArray, tys⟩) hj he hp
    have hx' : (execOp (evA a) (⟨d, .call ⟨.value x, l.toArray, tys⟩, ty, pos, aft, some (j, want)⟩ : Oper)) = callv y vs.toArray := by
      simp only [execOp, resolve, ev_rel he (hx hp), List.map_toArray, (hl hp).rel he, callv]
    have h := hS hp (D :: o) r w hs (al.more D).pf
    unfold Does
    rw [hw, if_pos rfl, hx']
    unfold NDoes at h
    split at h <;> rename_i heq
    · rw [heq]
      refine h.mono ?_
      rintro e' w' ⟨v, rfl, hs', ⟨rfl, rfl⟩, hS'⟩
      exact ⟨v, rfl, D :: o, ⟨o, ⟨(h1 hp).symm, rfl⟩, List.Perm.refl _⟩, hS'⟩
    · rw [heq]
      intro c0 cs
      obtain ⟨v, w', ⟨hs', ⟨rfl, rfl⟩, hS'⟩, st⟩ := h c0 cs
      exact ⟨v, w', ⟨D :: o, ⟨o, ⟨(h1 hp).symm, rfl⟩, List.Perm.refl _⟩, hS'⟩, st⟩
    · exact h.elim
  · unfold Does
    rw [t.no hj he hp]
    exact ⟨D :: o, ⟨o, ⟨(h2 hp).symm, rfl⟩, List.Perm.refl _⟩, hs⟩
end
section
variable {c : Cx} {ops : Array Oper} {rest : List Oper} {k : List Item} {e : Env} {o r : List PHeap} {d : Nat} {ty : TypeId} {pos : String} {aft : Array Edge}
variable {fl : List Nat} {f : List PHeap} {i0 : Nat} {bb : Bool} {tt uu : Plan}
section
variable {x : Operand} {l : List Operand} {tys : Array TypeId} {y : Value} {vs : List Value} {Hr : List PHeap} {u : Value} {j g : Nat} {want b b1 w1 b2 w2 : Bool}
theorem XO.vg1 (hj : (ops[j]?).bind (·.dst) = some g) (hg : find e g = some (.bool b)) (hx : b = want → ev e x = some y) (hl : b = want → EvL e l vs)
    (hS : b = want → VSpec c.P y vs [] Hr (fun v hs => v = u ∧ hs = [])) [al : AllIn Hr o (c.B :: r)] (h : XO c ops rest k ((d, some (lz b want u)) :: e) o r) :
    XO c ops (⟨some d, .call ⟨.value x, l.toArray, tys⟩, ty, pos, aft, some (j, want)⟩ :: rest) k e o r :=
  XO.s (Stp.vtells hj (.d1 hg) (u' := lz b want u) (fun h => by simp [lz, h]) (fun h => by simp [lz, h]) hx hl hS) fun v o2 ⟨h1, h2⟩ => by subst h1 h2; exact h
theorem XO.vg2 (hj : (ops[j]?).bind (·.dst) = some g) (hg : find e g = some (lz b1 w1 (.bool b))) (hx : b1 = w1 → b = want → ev e x = some y) (hl : b1 = w1 → b = want → EvL e l vs)
    (hS : b1 = w1 → b = want → VSpec c.P y vs [] Hr (fun v hs => v = u ∧ hs = [])) [al : AllIn Hr o (c.B :: r)] (h : XO c ops rest k ((d, some (lz b1 w1 (lz b want u))) :: e) o r) :
    XO c ops (⟨some d, .call ⟨.value x, l.toArray, tys⟩, ty, pos, aft, some (j, want)⟩ :: rest) k e o r :=
  XO.s (Stp.vtells hj (.d2 hg) (u' := lz b1 w1 (lz b want u)) (fun h => by simp [lz, h.1, h.2]) (fun h => by
    unfold lz
    split
    · split
      · exact absurd ⟨‹_›, ‹_›⟩ h
      · rfl
    · rfl) (fun h => hx h.1 h.2) (fun h => hl h.1 h.2) (fun h => hS h.1 h.2)) fun v o2 ⟨h1, h2⟩ => by subst h1 h2; exact h
theorem XT.vg1 (hi : ops[i0]? = some ⟨some d, .call ⟨.value x, l.toArray, tys⟩, ty, pos, aft, some (j, want)⟩) (hok : okOper c.N ⟨some d, .call ⟨.value x, l.toArray, tys⟩, ty, pos, aft, some (j, want)⟩ = true)
    (hj : (ops[j]?).bind (·.dst) = some g) (hg : find e g = some (.bool b)) (hx : b = want → ev e x = some y) (hl : b = want → EvL e l vs)
    (hS : b = want → VSpec c.P y vs [] Hr (fun v hs => v = u ∧ hs = [])) [al : AllIn Hr o (c.B :: r)] (h : Keeps bb f o ∧ XT c ops fl f k r tt ((d, some (lz b want u)) :: e) o) (hu : XT c ops fl f k r uu e o) :
    XT c ops fl f k r (.br i0 bb tt uu) e o :=
  XT.s hi hok (Stp.vtells hj (.d1 hg) (u' := lz b want u) (fun h => by simp [lz, h]) (fun h => by simp [lz, h]) hx hl hS) (fun v o2 ⟨h1, h2⟩ => by subst h1 h2; exact h) hu
theorem XT.vg2 (hi : ops[i0]? = some ⟨some d, .call ⟨.value x, l.toArray, tys⟩, ty, pos, aft, some (j, want)⟩) (hok : okOper c.N ⟨some d, .call ⟨.value x, l.toArray, tys⟩, ty, pos, aft, some (j, want)⟩ = true)
    (hj : (ops[j]?).bind (·.dst) = some g) (hg : find e g = some (lz b1 w1 (.bool b))) (hx : b1 = w1 → b = want → ev e x = some y) (hl : b1 = w1 → b = want → EvL e l vs)
    (hS : b1 = w1 → b = want → VSpec c.P y vs [] Hr (fun v hs => v = u ∧ hs = [])) [al : AllIn Hr o (c.B :: r)] (h : Keeps bb f o ∧ XT c ops fl f k r tt ((d, some (lz b1 w1 (lz b want u))) :: e) o) (hu : XT c ops fl f k r uu e o) :
    XT c ops fl f k r (.br i0 bb tt uu) e o :=
  XT.s hi hok (Stp.vtells hj (.d2 hg) (u' := lz b1 w1 (lz b want u)) (fun h => by simp [lz, h.1, h.2]) (fun h => by
    unfold lz
    split
    · split
      · exact absurd ⟨‹_›, ‹_›⟩ h
      · rfl
    · rfl) (fun h => hx h.1 h.2) (fun h => hl h.1 h.2) (fun h => hS h.1 h.2)) (fun v o2 ⟨h1, h2⟩ => by subst h1 h2; exact h) hu
end
end
end Go.X

/- Shifts and bits, whatever they give. No condition. -/
set_option linter.unusedSimpArgs false
set_option linter.unusedVariables false
namespace Go.X
def andI (k : IntKind) (m n : Int) : Int := k.wrap ((BitVec.ofInt k.bits m &&& BitVec.ofInt k.bits n).toNat : Int)
def shrI (k : IntKind) (m n : Int) : Int := m.fdiv (2 ^ min n.toNat k.bits)
section
variable {P : Program} {ops : Array Oper} {e : Env} {o r : List PHeap} {d : Option Tmp} {ty : TypeId} {pos : String} {aft : Array Edge}
theorem Q.shrW {t t2 : TypeId} {x y : Operand} {k k' : IntKind} {m n : Int} (hx : ev e x = some (.int k m)) (hy : ev e y = some (.int k' n)) (h : 0 ≤ n) :
    Quiet P ops ⟨d, .binOp .shr t x y t2, ty, pos, aft, none⟩ e o r (.int k (shrI k m n)) := Q.bin hx hy fun w => by
  have e1 : binOp .shr t (.int k m) (.int k' n) = Op.shift .shr k m k' n := by simp [binOp]
  rw [e1]
  unfold Op.shift
  rw [if_neg (by omega)]
  rfl
theorem Q.andW {t t2 : TypeId} {x y : Operand} {k : IntKind} {m n : Int} (hx : ev e x = some (.int k m)) (hy : ev e y = some (.int k n)) :
    Quiet P ops ⟨d, .binOp .and t x y t2, ty, pos, aft, none⟩ e o r (.int k (andI k m n)) := Q.bin hx hy fun w => by
  have e1 : binOp .and t (.int k m) (.int k n) = Op.intBits .and k m n := by simp [binOp]
  rw [e1]
  rfl
end
end Go.X

/- The safe set's certificate is right; every right certificate has the safe set. No condition. -/
set_option linter.unusedVariables false
namespace Go.X
theorem fold_set_getD {α : Type} (f : Nat → α) (d : α) : ∀ (L : List Nat) (l : List α) (s : Nat), (L.foldl (fun l s => l.set s (f s)) l).getD s d = if s ∈ L ∧ s < l.length then f s else l.getD s d
  | [], l, s => by simp
  | x :: L, l, s => by
    rw [List.foldl_cons, fold_set_getD f d L (l.set x (f x)) s, List.length_set]
    by_cases h1 : s ∈ L ∧ s < l.length
    · rw [if_pos h1, if_pos ⟨List.mem_cons_of_mem _ h1.1, h1.2⟩]
    · rw [if_neg h1]
      rw [List.getD_eq_getElem?_getD, List.getElem?_set]
      by_cases h2 : x = s
      · subst h2
        by_cases h3 : x < l.length
        · simp [h3]
        · simp [h3]
      · rw [if_neg h2, if_neg, List.getD_eq_getElem?_getD]
        rintro ⟨h3, h4⟩
        rcases List.mem_cons.1 h3 with rfl | h3
        · exact h2 rfl
        · exact h1 ⟨h3, h4⟩
theorem setAll_getD {α : Type} {l : List α} {L : List Nat} {x d : α} {s : Nat} : (setAll l L x).getD s d = if s ∈ L ∧ s < l.length then x else l.getD s d := fold_set_getD (fun _ => x) d L l s
theorem ctlAt_getD {next : List Int} {C K : Nat} {ins : List Bool} {ctl : List Int} {L : List Nat} {d : Int} {s : Nat} : (ctlAt next C K ins ctl L).getD s d = if s ∈ L ∧ s < ctl.length then ctlOf next C K ins s else ctl.getD s d :=
  fold_set_getD (ctlOf next C K ins) d L ctl s
theorem ctlOf_cases (next : List Int) (C K : Nat) (ins : List Bool) (s : Nat) : (∃ u, u < C ∧ ctlOf next C K ins s = u ∧ keepsP next C K ins s u = true) ∨ (ctlOf next C K ins s = -1 ∧ ∀ u < C, keepsP next C K ins s u = false) := by
  unfold ctlOf
  split
  · rename_i u hu
    rw [List.find?_range_eq_some] at hu
    exact .inl ⟨u, List.mem_range.1 hu.2.1, rfl, hu.1⟩
  · rename_i hn
    rw [List.find?_range_eq_none] at hn
    exact .inr ⟨rfl, fun u hu => by simpa using hn u hu⟩
theorem keepsP_false {next : List Int} {C K : Nat} {ins : List Bool} {s u : Nat} (h : keepsP next C K ins s u = false) : ∃ n, n ∈ leads next C K s u ∧ (n < 0 ∨ ¬ inS ins n.toNat) := by
  unfold keepsP at h
  rw [Bool.not_eq_false', List.any_eq_true] at h
  obtain ⟨n, hn, hb⟩ := h
  refine ⟨n, hn, ?_⟩
  unfold bad at hb
  simp only [Bool.or_eq_true, decide_eq_true_eq, Bool.not_eq_true'] at hb
  rcases hb with hb | hb
  · exact .inl hb
  · exact .inr (by unfold inS; rw [hb]; simp)
def LostAt (next : List Int) (C K : Nat) (ins : List Bool) (rnk : List Int) (s : Nat) : Prop :=
  ∀ u, u < C → ∃ n, n ∈ leads next C K s u ∧ (n < 0 ∨ (¬ inS ins n.toNat ∧ rnk.getD n.toNat 0 < rnk.getD s 0))
theorem lostP_iff {next : List Int} {C K : Nat} {ins : List Bool} {rnk : List Int} {s : Nat} : lostP next C K ins rnk s = true ↔ LostAt next C K ins rnk s := by
  unfold lostP LostAt
  rw [List.all_eq_true]
  refine ⟨fun h u hu => ?_, fun h u hu => ?_⟩
  · have := h u (List.mem_range.2 hu)
    rw [List.any_eq_true] at this
    obtain ⟨n, hn, hb⟩ := this
    refine ⟨n, hn, ?_⟩
    unfold badL at hb
    simp only [Bool.or_eq_true, Bool.and_eq_true, decide_eq_true_eq, Bool.not_eq_true'] at hb
    rcases hb with hb | ⟨h1, h2⟩
    · exact .inl hb
    · exact .inr ⟨by unfold inS; change ins.getD n.toNat false = false at h1; rw [h1]; simp, h2⟩
  · obtain ⟨n, hn, hb⟩ := h u (List.mem_range.1 hu)
    rw [List.any_eq_true]
    refine ⟨n, hn, ?_⟩
    unfold badL
    simp only [Bool.or_eq_true, Bool.and_eq_true, decide_eq_true_eq, Bool.not_eq_true']
    rcases hb with hb | ⟨h1, h2⟩
    · exact .inl hb
    · refine .inr ⟨?_, h2⟩
      unfold inS at h1
      change ins.getD n.toNat false = false
      simpa using h1
/-- What is right of a state in a certificate. -/
def RightAt (C K : Nat) (next : List Int) (good ins : List Bool) (ctl rnk : List Int) (s : Nat) : Prop :=
  (inS ins s ∧ inS good s ∧ rnk.getD s 0 = -1 ∧ ∃ u, u < C ∧ ctl.getD s 0 = (u : Nat) ∧ keepsP next C K ins s u = true) ∨
  (¬ inS ins s ∧ ctl.getD s 0 = -1 ∧ 0 ≤ rnk.getD s 0 ∧ (rnk.getD s 0 = 0 → ¬ inS good s) ∧ (0 < rnk.getD s 0 → LostAt next C K ins rnk s))
theorem rightP_iff {C K : Nat} {next : List Int} {good ins : List Bool} {ctl rnk : List Int} {s : Nat} : rightP C K next good ins ctl rnk s = true ↔ RightAt C K next good ins ctl rnk s := by
  unfold rightP RightAt
  change (if ins.getD s false = true then _ else if rnk.getD s 0 = 0 then _ else _) = true ↔ _
  by_cases h1 : ins.getD s false = true
  · rw [if_pos h1]
    simp only [Bool.and_eq_true, decide_eq_true_eq]
    constructor
    · rintro ⟨⟨⟨⟨h2, h3⟩, h4⟩, h5⟩, h6⟩
      change 0 ≤ ctl.getD s 0 at h3
      change ctl.getD s 0 < (C : Int) at h4
      change keepsP next C K ins s (ctl.getD s 0).toNat = true at h6
      exact .inl ⟨h1, h2, h5, (ctl.getD s 0).toNat, by omega, by omega, h6⟩
    · rintro (⟨_, h2, h5, u, hu, h3, h6⟩ | ⟨h2, _⟩)
      · change ((((good.getD s false = true ∧ 0 ≤ ctl.getD s 0) ∧ ctl.getD s 0 < (C : Int)) ∧ rnk.getD s 0 = -1) ∧ keepsP next C K ins s (ctl.getD s 0).toNat = true)
        rw [h3]
        exact ⟨⟨⟨⟨h2, by omega⟩, by omega⟩, h5⟩, by simpa using h6⟩
      · exact absurd h1 h2
  · rw [if_neg h1]
    by_cases h2 : rnk.getD s 0 = 0
    · rw [if_pos h2]
      simp only [Bool.and_eq_true, decide_eq_true_eq, Bool.not_eq_true']
      constructor
      · rintro ⟨h3, h4⟩
        refine .inr ⟨h1, h3, by omega, fun _ => ?_, fun h => by omega⟩
        change good.getD s false = false at h4
        unfold inS; rw [h4]; simp
      · rintro (⟨h3, _⟩ | ⟨_, h3, _, h4, _⟩)
        · exact absurd h3 h1
        · refine ⟨h3, ?_⟩
          have := h4 h2
          unfold inS at this
          change good.getD s false = false
          simpa using this
    · rw [if_neg h2]
      simp only [Bool.and_eq_true, decide_eq_true_eq]
      rw [lostP_iff]
      constructor
      · rintro ⟨⟨h3, h4⟩, h5⟩
        change 0 < rnk.getD s 0 at h4
        exact .inr ⟨h1, h3, by omega, fun h => absurd h h2, fun _ => h5⟩
      · rintro (⟨h3, _⟩ | ⟨_, h3, h4, _, h5⟩)
        · exact absurd h3 h1
        · have h6 : 0 < rnk.getD s 0 := by omega
          exact ⟨⟨h3, h6⟩, h5 h6⟩
structure RInv (S C K : Nat) (next : List Int) (good : List Bool) (rank : Int) (ins : List Bool) (ctl rnk : List Int) : Prop where
  l1 : ins.length = S
  l2 : ctl.length = S
  l3 : rnk.length = S
  rk : 1 ≤ rank
  gd : ∀ s, inS ins s → inS good s
  out : ∀ s, s < S → ¬ inS ins s → ctl.getD s 0 = -1 ∧ 0 ≤ rnk.getD s 0 ∧ rnk.getD s 0 < rank ∧ (rnk.getD s 0 = 0 → ¬ inS good s) ∧ (0 < rnk.getD s 0 → LostAt next C K ins rnk s)
theorem mem_outs {next : List Int} {C K : Nat} {ins : List Bool} {s : Nat} : s ∈ outsAt next C K ins (insL ins) ↔ inS ins s ∧ ctlOf next C K ins s = -1 := by
  unfold outsAt
  rw [List.mem_filter, mem_insL, decide_eq_true_eq]
  refine and_congr_right fun _ => ?_
  rcases ctlOf_cases next C K ins s with ⟨u, _, h, _⟩ | ⟨h, _⟩ <;> omega
theorem lost_keep {next : List Int} {C K : Nat} {ins ins' : List Bool} {rnk rnk' : List Int} {s : Nat} (h : LostAt next C K ins rnk s) (hi : ∀ t, ¬ inS ins t → ¬ inS ins' t) (hr : ∀ t, ¬ inS ins t → rnk'.getD t 0 = rnk.getD t 0) (hs : ¬ inS ins s) :
    LostAt next C K ins' rnk' s := fun u hu => by
  obtain ⟨n, hn, hb⟩ := h u hu
  refine ⟨n, hn, hb.imp_right fun ⟨h1, h2⟩ => ⟨hi _ h1, ?_⟩⟩
  rw [hr _ h1, hr _ hs]; exact h2
theorem rounds_inv {S C K : Nat} {next : List Int} {good : List Bool} (ok : Ok S C K next good) : ∀ (f : Nat) (rank : Int) (ins : List Bool) (ctl rnk : List Int), ins.count true < f → RInv S C K next good rank ins ctl rnk →
    ∃ rank' ins' ctl' rnk', rounds next C K f rank ins ctl rnk = (ins', ctlAt next C K ins' ctl' (insL ins'), rnk') ∧ outsAt next C K ins' (insL ins') = [] ∧ RInv S C K next good rank' ins' ctl' rnk' := by
  intro f
  induction f with
  | zero => intro rank ins ctl rnk h; omega
  | succ f ih =>
    intro rank ins ctl rnk h I
    rw [rounds]
    by_cases hout : outsAt next C K ins (insL ins) = []
    · rw [if_pos hout]
      exact ⟨rank, ins, ctl, rnk, rfl, hout, I⟩
    · rw [if_neg hout]
      have hlt := count_setAll_lt hout (fun s hs => by
        have h1 := mem_insL.1 (List.mem_filter.1 hs).1
        exact ⟨inS_lt h1, h1⟩)
      have hrk := I.rk
      have hrn : ∀ t, ¬ inS ins t → (setAll rnk (outsAt next C K ins (insL ins)) rank).getD t 0 = rnk.getD t 0 := fun t ht => by
        rw [setAll_getD, if_neg fun hm => ht (mem_outs.1 hm.1).1]
      have hin : ∀ t, ¬ inS ins t → ¬ inS (setAll ins (outsAt next C K ins (insL ins)) false) t := fun t ht hc => ht (setAll_get.1 hc).1
      refine ih (rank + 1) _ _ _ (by omega) ⟨setAll_len.trans I.l1, ctlAt_len.trans I.l2, setAll_len.trans I.l3, by omega, fun s hs => I.gd s (setAll_get.1 hs).1, fun s hs hns => ?_⟩
      by_cases hi : inS ins s
      · have hso : s ∈ outsAt next C K ins (insL ins) := Classical.byContradiction fun hc => hns (setAll_get.2 ⟨hi, hc⟩)
        obtain ⟨_, hc⟩ := mem_outs.1 hso
        have e1 : (setAll rnk (outsAt next C K ins (insL ins)) rank).getD s 0 = rank := by rw [setAll_getD, if_pos ⟨hso, by rw [I.l3]; exact hs⟩]
        have e2 : (ctlAt next C K ins ctl (insL ins)).getD s 0 = -1 := by rw [ctlAt_getD, if_pos ⟨mem_insL.2 hi, by rw [I.l2]; exact hs⟩, hc]
        refine ⟨e2, by omega, by omega, fun h0 => by omega, fun _ u hu => ?_⟩
        rcases ctlOf_cases next C K ins s with ⟨u', _, h1, _⟩ | ⟨_, h1⟩
        · omega
        · obtain ⟨n, hn, hb⟩ := keepsP_false (h1 u hu)
          refine ⟨n, hn, ?_⟩
          rcases Int.lt_or_le n 0 with h0 | h0
          · exact .inl h0
          · right
            have hb' := hb.resolve_left (by omega)
            have hnS := ok.inr n (List.mem_of_mem_drop (List.mem_of_mem_take hn))
            refine ⟨hin _ hb', ?_⟩
            rw [hrn _ hb', e1]
            exact (I.out _ (by omega) hb').2.2.1
      · obtain ⟨h1, h2, h3, h4, h5⟩ := I.out s hs hi
        have e1 := hrn s hi
        have e2 : (ctlAt next C K ins ctl (insL ins)).getD s 0 = ctl.getD s 0 := by rw [ctlAt_getD, if_neg fun hm => hi (mem_insL.1 hm.1)]
        rw [e1, e2]
        exact ⟨h1, h2, by omega, h4, fun h0 => lost_keep (h5 h0) hin hrn hi⟩
theorem getD_replicate {S : Nat} {x : Int} {s : Nat} (h : s < S) : (List.replicate S x).getD s 0 = x := by simp [h]
theorem solved_right {S C K : Nat} {next : List Int} {good : List Bool} (ok : Ok S C K next good) :
    (solved S C K next good).1.length = S ∧ (solved S C K next good).2.1.length = S ∧ (solved S C K next good).2.2.length = S ∧
    ∀ s, s < S → RightAt C K next good (solved S C K next good).1 (solved S C K next good).2.1 (solved S C K next good).2.2 s := by
  have hc := List.count_le_length (a := true) (l := good)
  have hg := ok.glen
  obtain ⟨rank, ins, ctl, rnk, hr, ho, I⟩ := rounds_inv ok (S + 1) 1 good (List.replicate S (-1)) (List.replicate S 0) (by omega)
    ⟨hg, by simp, by simp, by omega, fun _ h => h, fun s hs hn => by
      rw [getD_replicate hs, getD_replicate hs]
      exact ⟨rfl, by omega, by omega, fun _ => hn, fun h => by omega⟩⟩
  have hrk := I.rk
  unfold solved
  dsimp only
  rw [hr]
  dsimp only
  refine ⟨I.l1, ctlAt_len.trans I.l2, setAll_len.trans I.l3, fun s hs => ?_⟩
  by_cases hi : inS ins s
  · left
    have e1 : (setAll rnk (insL ins) (-1)).getD s 0 = -1 := by rw [setAll_getD, if_pos ⟨mem_insL.2 hi, by rw [I.l3]; exact hs⟩]
    have e2 : (ctlAt next C K ins ctl (insL ins)).getD s 0 = ctlOf next C K ins s := by rw [ctlAt_getD, if_pos ⟨mem_insL.2 hi, by rw [I.l2]; exact hs⟩]
    rcases ctlOf_cases next C K ins s with ⟨u, hu, h1, h2⟩ | ⟨h1, _⟩
    · exact ⟨hi, I.gd s hi, e1, u, hu, e2.trans h1, h2⟩
    · have : s ∈ outsAt next C K ins (insL ins) := mem_outs.2 ⟨hi, h1⟩
      rw [ho] at this; cases this
  · right
    have hrn : ∀ t, ¬ inS ins t → (setAll rnk (insL ins) (-1)).getD t 0 = rnk.getD t 0 := fun t ht => by rw [setAll_getD, if_neg fun hm => ht (mem_insL.1 hm.1)]
    have e2 : (ctlAt next C K ins ctl (insL ins)).getD s 0 = ctl.getD s 0 := by rw [ctlAt_getD, if_neg fun hm => hi (mem_insL.1 hm.1)]
    obtain ⟨h1, h2, h3, h4, h5⟩ := I.out s hs hi
    rw [e2, hrn s hi]
    exact ⟨hi, h1, h2, h4, fun h0 => lost_keep (h5 h0) (fun _ h => h) hrn hi⟩
theorem solved_verify {S C K : Nat} {next : List Int} {good : List Bool} (ok : Ok S C K next good) : verifyG (mkG S C K next good) (solved S C K next good).1 (solved S C K next good).2.1 (solved S C K next good).2.2 = 0 := by
  obtain ⟨h1, h2, h3, h4⟩ := solved_right ok
  rw [verify_all ok h1 h2 h3, if_pos]
  rw [List.all_eq_true]
  exact fun s hs => rightP_iff.2 (h4 s (List.mem_range.1 hs))
/-- What Verify accepts. -/
theorem verify_ok {S C K : Nat} {next : List Int} {good : List Bool} (ok : Ok S C K next good) {ins : List Bool} {ctl rnk : List Int} (h : verifyG (mkG S C K next good) ins ctl rnk = 0) :
    ins.length = S ∧ ctl.length = S ∧ rnk.length = S ∧ ∀ s, s < S → RightAt C K next good ins ctl rnk s := by
  by_cases hl : ((ins.length : Int) ≠ S ∨ (ctl.length : Int) ≠ S) ∨ (rnk.length : Int) ≠ S
  · rw [verify_len (gcheck_mk ok) hl] at h; omega
  · have h1 : ins.length = S := by omega
    have h2 : ctl.length = S := by omega
    have h3 : rnk.length = S := by omega
    rw [verify_all ok h1 h2 h3] at h
    split at h
    · rename_i ha
      rw [List.all_eq_true] at ha
      exact ⟨h1, h2, h3, fun s hs => rightP_iff.1 (ha s (List.mem_range.2 hs))⟩
    · omega
/-- Out of a right certificate's set no state is in a kept set of good states. -/
theorem out_lost {S C K : Nat} {next : List Int} {good : List Bool} (ok : Ok S C K next good) {ins : List Bool} {ctl rnk : List Int} (hr : ∀ s, s < S → RightAt C K next good ins ctl rnk s) {A : Nat → Prop} (hA : KeptBy next C K A)
    (hg : ∀ s, A s → inS good s) : ∀ (n s : Nat), s < S → ¬ inS ins s → rnk.getD s 0 ≤ n → ¬ A s := by
  intro n
  induction n with
  | zero =>
    intro s hs hi hn ha
    rcases hr s hs with ⟨h, _⟩ | ⟨_, _, h2, h3, _⟩
    · exact hi h
    · exact h3 (by omega) (hg s ha)
  | succ n ih =>
    intro s hs hi hn ha
    rcases hr s hs with ⟨h, _⟩ | ⟨_, _, h2, h3, h4⟩
    · exact hi h
    · rcases Int.lt_or_le 0 (rnk.getD s 0) with h0 | h0
      · obtain ⟨u, hu, hk⟩ := hA s ha
        obtain ⟨m, hm, hb⟩ := h4 h0 u hu
        have hmS := ok.inr m (List.mem_of_mem_drop (List.mem_of_mem_take hm))
        obtain ⟨k1, k2⟩ := hk m hm
        rcases hb with hb | ⟨hb1, hb2⟩
        · omega
        · exact ih m.toNat (by omega) hb1 (by omega) k2
      · exact h3 (by omega) (hg s ha)
theorem cert_unique {S C K : Nat} {next : List Int} {good : List Bool} (ok : Ok S C K next good) {ins : List Bool} {ctl rnk : List Int} (h : verifyG (mkG S C K next good) ins ctl rnk = 0) : ins = (solved S C K next good).1 := by
  obtain ⟨h1, h2, h3, hr⟩ := verify_ok ok h
  obtain ⟨hl, hg, hk, hm⟩ := solved_law (S := S) (C := C) (K := K) (next := next) ok.glen
  have key : ∀ s, inS ins s ↔ inS (solved S C K next good).1 s := by
    intro s
    constructor
    · refine hm (inS ins) (fun t ht => ?_) (fun t ht => ?_) s
      · have hlt : t < S := by have := inS_lt ht; omega
        rcases hr t hlt with ⟨_, _, _, u, hu, _, hkp⟩ | ⟨hn, _⟩
        · exact ⟨u, hu, keepsP_iff.1 hkp⟩
        · exact absurd ht hn
      · have hlt : t < S := by have := inS_lt ht; omega
        rcases hr t hlt with ⟨_, hgd, _⟩ | ⟨hn, _⟩
        · exact hgd
        · exact absurd ht hn
    · intro ha
      have hlt : s < S := by have := inS_lt ha; omega
      exact Classical.byContradiction fun hn => out_lost ok hr hk hg (rnk.getD s 0).toNat s hlt hn (by omega) ha
  refine List.ext_getElem (by omega) fun s hs hs' => ?_
  have := key s
  unfold inS at this
  simp only [List.getD_eq_getElem?_getD, List.getElem?_eq_getElem hs, List.getElem?_eq_getElem hs', Option.getD_some] at this
  exact Bool.eq_iff_iff.2 this
end Go.X

/- Plays and forcing, in plain lists. No condition. -/
set_option linter.unusedVariables false
namespace Go.X
def leadAt (next : List Int) (C K : Nat) (s u w : Int) : Int := next.getD ((s.toNat * C + u.toNat) * K + w.toNat) 0
def playL (next : List Int) (C K : Nat) (ctl : List Int) : Int → List Int → List Int
  | _, [] => []
  | s, w :: ws => leadAt next C K s (ctl.getD s.toNat default) w :: playL next C K ctl (leadAt next C K s (ctl.getD s.toNat default) w) ws
def outside (m : Int) (l : List Int) : Bool := l.any fun n => decide (n < 0) || decide (m ≤ n)
def playG (g : G) (ins : List Bool) (ctl rnk : List Int) (state : Int) (l : List Int) : List Int × Int :=
  if verifyG g ins ctl rnk ≠ 0 then ([], verifyG g ins ctl rnk)
  else if outside g.S [state] = true ∨ outside g.K l = true then ([], 1)
  else if (10000 : Int) < l.length then ([], 2)
  else if ¬ ins.getD state.toNat default = true then ([], 9)
  else (playL g.next g.C.toNat g.K.toNat ctl state l, 0)
def rkOf (rnk : List Int) (n : Int) : Int := if n < 0 then -1 else rnk.getD n.toNat default
def worstStep (ins : List Bool) (rnk L : List Int) (best : Int) (w : Nat) : Int :=
  if 0 ≤ L.getD w default ∧ ins.getD (L.getD w default).toNat default = true then best
  else if best < 0 ∨ rkOf rnk (L.getD w default) < rkOf rnk (L.getD best.toNat default) then w else best
def worstTo (ins : List Bool) (rnk L : List Int) (n : Nat) : Int := (List.range n).foldl (worstStep ins rnk L) (-1)
def worstP (next : List Int) (C K : Nat) (ins : List Bool) (rnk : List Int) (s u : Nat) : Int := worstTo ins rnk (leads next C K s u) K
theorem worstTo_succ {ins : List Bool} {rnk L : List Int} {n : Nat} : worstTo ins rnk L (n + 1) = worstStep ins rnk L (worstTo ins rnk L n) n := by
  unfold worstTo; rw [List.range_succ, List.foldl_append]; rfl
def BadN (ins : List Bool) (n : Int) : Prop := n < 0 ∨ ¬ inS ins n.toNat
theorem worst_inv {ins : List Bool} {rnk L : List Int} : ∀ n, (worstTo ins rnk L n = -1 ∧ ∀ i < n, ¬ BadN ins (L.getD i default)) ∨
    (0 ≤ worstTo ins rnk L n ∧ worstTo ins rnk L n < n ∧ BadN ins (L.getD (worstTo ins rnk L n).toNat default) ∧ ∀ i < n, BadN ins (L.getD i default) → rkOf rnk (L.getD (worstTo ins rnk L n).toNat default) ≤ rkOf rnk (L.getD i default)) := by
  intro n
  induction n with
  | zero => exact .inl ⟨rfl, fun i hi => by omega⟩
  | succ n ih =>
    rw [worstTo_succ]
    generalize worstTo ins rnk L n = b at ih ⊢
    unfold worstStep
    by_cases h1 : 0 ≤ L.getD n default ∧ ins.getD (L.getD n default).toNat default = true
    · rw [if_pos h1]
      have hg : ¬ BadN ins (L.getD n default) := fun h => by
        rcases h with h | h
        · omega
        · exact h h1.2
      rcases ih with ⟨e, h⟩ | ⟨h2, h3, h4, h5⟩
      · exact .inl ⟨e, fun i hi => by
          rcases Nat.lt_or_ge i n with h6 | h6
          · exact h i h6
          · rw [show i = n by omega]; exact hg⟩
      · exact .inr ⟨h2, by omega, h4, fun i hi hb => by
          rcases Nat.lt_or_ge i n with h6 | h6
          · exact h5 i h6 hb
          · rw [show i = n by omega] at hb; exact absurd hb hg⟩
    · rw [if_neg h1]
      have hbad : BadN ins (L.getD n default) := by
        rcases Int.lt_or_le (L.getD n default) 0 with h | h
        · exact .inl h
        · exact .inr fun hi => h1 ⟨h, hi⟩
      by_cases h2 : b < 0 ∨ rkOf rnk (L.getD n default) < rkOf rnk (L.getD b.toNat default)
      · rw [if_pos h2]
        right
        refine ⟨by omega, by omega, by simpa using hbad, fun i hi hb => ?_⟩
        simp only [Int.toNat_natCast]
        rcases Nat.lt_or_ge i n with h6 | h6
        · rcases ih with ⟨e, h⟩ | ⟨h3, h4, h5, h7⟩
          · exact absurd hb (h i h6)
          · have := h7 i h6 hb
            rcases h2 with h2 | h2 <;> omega
        · rw [show i = n by omega]; exact Int.le_refl _
      · rw [if_neg h2]
        rcases ih with ⟨e, h⟩ | ⟨h3, h4, h5, h7⟩
        · exact absurd (.inl (by omega)) h2
        · refine .inr ⟨h3, by omega, h5, fun i hi hb => ?_⟩
          rcases Nat.lt_or_ge i n with h6 | h6
          · exact h7 i h6 hb
          · rw [show i = n by omega]
            omega
def stopB (good : List Bool) (s : Int) : Bool := decide (s < 0) || !(good.getD s.toNat default)
def forceL (next : List Int) (C K : Nat) (good ins : List Bool) (rnk : List Int) : Int → List Int → List (Int × Int)
  | _, [] => []
  | s, u :: us => if stopB good s = true then [] else
    (worstP next C K ins rnk s.toNat u.toNat, leadAt next C K s u (worstP next C K ins rnk s.toNat u.toNat)) :: forceL next C K good ins rnk (leadAt next C K s u (worstP next C K ins rnk s.toNat u.toNat)) us
def forceE (next : List Int) (C K : Nat) (good ins : List Bool) (rnk : List Int) : Int → List Int → Int
  | s, [] => s
  | s, u :: us => if stopB good s = true then s else forceE next C K good ins rnk (leadAt next C K s u (worstP next C K ins rnk s.toNat u.toNat)) us
def forceG (g : G) (ins : List Bool) (ctl rnk : List Int) (state : Int) (l : List Int) : List Int × List Int × Int :=
  if verifyG g ins ctl rnk ≠ 0 then ([], [], verifyG g ins ctl rnk)
  else if outside g.S [state] = true ∨ outside g.C l = true then ([], [], 1)
  else if ins.getD state.toNat default = true then ([], [], 9)
  else if ¬ stopB g.good (forceE g.next g.C.toNat g.K.toNat g.good ins rnk state l) = true then ([], [], 60)
  else ((forceL g.next g.C.toNat g.K.toNat g.good ins rnk state l).map (·.1), (forceL g.next g.C.toNat g.K.toNat g.good ins rnk state l).map (·.2), 0)
section
variable {S C K : Nat} {next : List Int} {good : List Bool} (ok : Ok S C K next good) {ins : List Bool} {ctl rnk : List Int} (hl : ins.length = S) (hr : ∀ s, s < S → RightAt C K next good ins ctl rnk s)
include ok hr
omit hr in
theorem lead_in {s u w : Int} (hs : 0 ≤ s) (hs' : s < S) (hu : 0 ≤ u) (hu' : u < C) (hw : 0 ≤ w) (hw' : w < K) : leadAt next C K s u w ∈ leads next C K s.toNat u.toNat ∧ -1 ≤ leadAt next C K s u w ∧ leadAt next C K s u w < S :=
  ⟨(mem_leads ok (by omega) (by omega)).2 ⟨w.toNat, by omega, rfl⟩, ok.get _⟩
/-- With the certificate's control from a state that is in. -/
theorem play_step {s w : Int} (hs : 0 ≤ s) (hi : inS ins s.toNat) (hlt : s < S) (hw : 0 ≤ w) (hw' : w < K) :
    0 ≤ ctl.getD s.toNat default ∧ ctl.getD s.toNat default < C ∧ 0 ≤ leadAt next C K s (ctl.getD s.toNat default) w ∧ inS ins (leadAt next C K s (ctl.getD s.toNat default) w).toNat ∧ leadAt next C K s (ctl.getD s.toNat default) w < S ∧
      inS good (leadAt next C K s (ctl.getD s.toNat default) w).toNat := by
  rcases hr s.toNat (by omega) with ⟨_, _, _, u, hu, hc, hk⟩ | ⟨hn, _⟩
  · change ctl.getD s.toNat default = (u : Int) at hc
    rw [hc]
    obtain ⟨h1, h2, h3⟩ := lead_in (S := S) ok (s := s) (u := (u : Int)) hs hlt (by omega) (by omega) hw hw'
    rw [Int.toNat_natCast] at h1
    obtain ⟨h4, h5⟩ := keepsP_iff.1 hk _ h1
    refine ⟨by omega, by omega, h4, h5, h3, ?_⟩
    rcases hr (leadAt next C K s u w).toNat (by omega) with ⟨_, hg, _⟩ | ⟨hn, _⟩
    · exact hg
    · exact absurd h5 hn
  · exact absurd hi hn
/-- A shock that answers. -/
theorem force_step {s u : Int} (hs : 0 ≤ s) (hlt : s < S) (hi : ¬ inS ins s.toNat) (hg : stopB good s ≠ true) (hu : 0 ≤ u) (hu' : u < C) :
    0 ≤ worstP next C K ins rnk s.toNat u.toNat ∧ worstP next C K ins rnk s.toNat u.toNat < K ∧
    (leadAt next C K s u (worstP next C K ins rnk s.toNat u.toNat) < 0 ∨ (¬ inS ins (leadAt next C K s u (worstP next C K ins rnk s.toNat u.toNat)).toNat ∧ leadAt next C K s u (worstP next C K ins rnk s.toNat u.toNat) < S ∧
      rnk.getD (leadAt next C K s u (worstP next C K ins rnk s.toNat u.toNat)).toNat 0 < rnk.getD s.toNat 0 ∧ 0 ≤ rnk.getD (leadAt next C K s u (worstP next C K ins rnk s.toNat u.toNat)).toNat 0)) ∧ 0 < rnk.getD s.toNat 0 := by
  have hgd : inS good s.toNat := by
    unfold stopB at hg
    simp only [ne_eq, Bool.or_eq_true, decide_eq_true_eq, Bool.not_eq_true', not_or, Bool.not_eq_false] at hg
    exact hg.2
  rcases hr s.toNat (by omega) with ⟨h, _⟩ | ⟨_, _, h2, h3, h4⟩
  · exact absurd h hi
  · have h0 : 0 < rnk.getD s.toNat 0 := by
      rcases Int.lt_or_le 0 (rnk.getD s.toNat 0) with h | h
      · exact h
      · exact absurd hgd (h3 (by omega))
    obtain ⟨n, hn, hb⟩ := h4 h0 u.toNat (by omega)
    have hll := ok.leads_length (s := s.toNat) (v := u.toNat) (by omega) (by omega)
    obtain ⟨i, hi1, hi2⟩ := List.getElem_of_mem hn
    have hgi : (leads next C K s.toNat u.toNat).getD i default = n := by rw [List.getD_eq_getElem?_getD, List.getElem?_eq_getElem hi1, Option.getD_some, hi2]
    have hbn : BadN ins n := hb.imp_right fun h => h.1
    have hrn : rkOf rnk n < rnk.getD s.toNat 0 := by
      unfold rkOf
      split
      · omega
      · rename_i hnn
        rcases hb with hb | hb
        · exact absurd hb hnn
        · exact hb.2
    rcases worst_inv (ins := ins) (rnk := rnk) (L := leads next C K s.toNat u.toNat) K with ⟨_, h⟩ | ⟨w1, w2, w3, w4⟩
    · exact absurd (by rw [hgi]; exact hbn) (h i (by omega))
    · have w5 := w4 i (by omega) (by rw [hgi]; exact hbn)
      rw [hgi] at w5
      unfold worstP
      generalize worstTo ins rnk (leads next C K s.toNat u.toNat) K = w at w1 w2 w3 w4 w5 ⊢
      have hld : (leads next C K s.toNat u.toNat).getD w.toNat default = leadAt next C K s u w := leads_getD (by omega)
      rw [hld] at w3 w5
      have hin := ok.get ((s.toNat * C + u.toNat) * K + w.toNat)
      change -1 ≤ leadAt next C K s u w ∧ leadAt next C K s u w < S at hin
      refine ⟨w1, w2, ?_, h0⟩
      rcases Int.lt_or_le (leadAt next C K s u w) 0 with h | h
      · exact .inl h
      · right
        have hni := w3.resolve_left (by omega)
        have hrk : rkOf rnk (leadAt next C K s u w) = rnk.getD (leadAt next C K s u w).toNat 0 := by unfold rkOf; rw [if_neg (by omega)]; rfl
        refine ⟨hni, hin.2, by omega, ?_⟩
        rcases hr (leadAt next C K s u w).toNat (by omega) with ⟨hh, _⟩ | ⟨_, _, hh, _⟩
        · exact absurd hh hni
        · exact hh
end
theorem force_len {next : List Int} {C K : Nat} {good ins : List Bool} {rnk : List Int} : ∀ (us : List Int) (s : Int), (forceL next C K good ins rnk s us).length ≤ us.length
  | [], s => by simp [forceL]
  | u :: us, s => by
    unfold forceL
    split
    · simp
    · simp only [List.length_cons]
      have := force_len us (leadAt next C K s u (worstP next C K ins rnk s.toNat u.toNat)) (next := next) (C := C) (K := K) (good := good) (ins := ins) (rnk := rnk)
      omega
theorem play_len {next : List Int} {C K : Nat} {ctl : List Int} : ∀ (ws : List Int) (s : Int), (playL next C K ctl s ws).length = ws.length
  | [], s => rfl
  | w :: ws, s => by unfold playL; simp [play_len ws]
/-- As many controls as the rank are enough. -/
theorem force_enough {S C K : Nat} {next : List Int} {good : List Bool} (ok : Ok S C K next good) {ins : List Bool} {ctl rnk : List Int} (hr : ∀ s, s < S → RightAt C K next good ins ctl rnk s) :
    ∀ (us : List Int) (s : Int), outside C us = false → (s < 0 ∨ (s < S ∧ ¬ inS ins s.toNat ∧ rnk.getD s.toNat 0 ≤ us.length)) → stopB good (forceE next C K good ins rnk s us) = true
  | [], s, _, h => by
    unfold forceE stopB
    rcases Int.lt_or_le s 0 with h0 | h0
    · simp [h0]
    · rcases h with h | ⟨h1, h2, h3⟩
      · omega
      · rcases hr s.toNat (by omega) with ⟨hh, _⟩ | ⟨_, _, h4, h5, _⟩
        · exact absurd hh h2
        · have := h5 (by simp only [List.length_nil] at h3; omega)
          unfold inS at this
          change ¬ good.getD s.toNat default = true at this
          simp only [Bool.or_eq_true, Bool.not_eq_true']
          right
          simpa using this
  | u :: us, s, hu, h => by
    unfold forceE
    by_cases hst : stopB good s = true
    · rw [if_pos hst]; exact hst
    · rw [if_neg hst]
      unfold outside at hu
      simp only [List.any_cons, Bool.or_eq_false_iff, decide_eq_false_iff_not] at hu
      have h0 : 0 ≤ s := by
        unfold stopB at hst
        simp only [Bool.or_eq_true, decide_eq_true_eq, not_or] at hst
        omega
      rcases h with h | ⟨h1, h2, h3⟩
      · omega
      · obtain ⟨_, _, w3, _⟩ := force_step ok hr h0 h1 h2 hst (u := u) (by omega) (by omega)
        refine force_enough ok hr us _ hu.2 ?_
        rcases w3 with w3 | ⟨a, b, c, d⟩
        · exact .inl w3
        · simp only [List.length_cons] at h3
          exact .inr ⟨b, a, by omega⟩
end Go.X

/- Ranks of safe sets are at most the number of states. No condition. -/
set_option linter.unusedVariables false
namespace Go.X
theorem rounds_rank {next : List Int} {C K : Nat} : ∀ (f : Nat) (rank : Int) (ins : List Bool) (ctl rnk : List Int) (M : Int), ins.count true < f → (∀ s, rnk.getD s 0 < rank) → rank + ins.count true ≤ M →
    ∀ s, (rounds next C K f rank ins ctl rnk).2.2.getD s 0 < M := by
  intro f
  induction f with
  | zero => intro rank ins ctl rnk M h; omega
  | succ f ih =>
    intro rank ins ctl rnk M h hr hM s
    rw [rounds]
    by_cases hout : outsAt next C K ins (insL ins) = []
    · rw [if_pos hout]
      have := hr s
      dsimp only
      omega
    · rw [if_neg hout]
      have hlt := count_setAll_lt hout (fun s hs => by
        have h1 := mem_insL.1 (List.mem_filter.1 hs).1
        exact ⟨inS_lt h1, h1⟩)
      refine ih (rank + 1) _ _ _ M (by omega) (fun t => ?_) (by omega) s
      rw [setAll_getD]
      split
      · omega
      · have := hr t; omega
theorem solved_rank {S C K : Nat} {next : List Int} {good : List Bool} (hg : good.length = S) (s : Nat) : (solved S C K next good).2.2.getD s 0 ≤ S := by
  have hc := List.count_le_length (a := true) (l := good)
  have := rounds_rank (next := next) (C := C) (K := K) (S + 1) 1 good (List.replicate S (-1)) (List.replicate S 0) (S + 1) (by omega) (fun s => by
    rw [List.getD_eq_getElem?_getD, List.getElem?_replicate]; split <;> simp) (by omega)
  unfold solved
  dsimp only
  rw [setAll_getD]
  split
  · omega
  · have := this s; omega
end Go.X

/- One step of a play, one of a forced play. No condition. -/
set_option linter.unusedVariables false
namespace Go.X
theorem drop_at {α : Type} [Inhabited α] {l : List α} {i : Nat} (h : i < l.length) : l.drop i = l.getD i default :: l.drop (i + 1) := by
  rw [List.drop_eq_getElem_cons h, List.getD_eq_getElem?_getD, List.getElem?_eq_getElem h, Option.getD_some]
theorem getD_mid {α : Type} [Inhabited α] {d r : List α} {x : α} {i : Nat} (h : d.length = i) : (d ++ x :: r).getD i default = x := by
  subst h
  rw [List.getD_eq_getElem?_getD, List.getElem?_append_right (Nat.le_refl _), Nat.sub_self]; rfl
theorem getD_map {α β : Type} [Inhabited α] [Inhabited β] {f : α → β} {l : List α} {i : Nat} (h : i < l.length) : (l.map f).getD i default = f (l.getD i default) := by
  simp [h]
section
variable {next : List Int} {C K : Nat} {good ins : List Bool} {ctl rnk : List Int}
theorem play_at {s0 s : Int} {sh done : List Int} {i : Nat} (h : playL next C K ctl s0 sh = done ++ playL next C K ctl s (sh.drop i)) (hd : done.length = i) (hi : i < sh.length) :
    (playL next C K ctl s0 sh).getD i default = leadAt next C K s (ctl.getD s.toNat default) (sh.getD i default) ∧
    playL next C K ctl s0 sh = (done ++ [leadAt next C K s (ctl.getD s.toNat default) (sh.getD i default)]) ++ playL next C K ctl (leadAt next C K s (ctl.getD s.toNat default) (sh.getD i default)) (sh.drop (i + 1)) := by
  rw [drop_at hi, playL] at h
  rw [h]
  exact ⟨getD_mid hd, by simp⟩
theorem force_at {s0 s : Int} {us : List Int} {done : List (Int × Int)} {i : Nat} (h : forceL next C K good ins rnk s0 us = done ++ forceL next C K good ins rnk s (us.drop i)) (hd : done.length = i) (hi : i < (forceL next C K good ins rnk s0 us).length) :
    i < us.length ∧ ¬ stopB good s = true ∧
    (forceL next C K good ins rnk s0 us).getD i default = (worstP next C K ins rnk s.toNat (us.getD i default).toNat, leadAt next C K s (us.getD i default) (worstP next C K ins rnk s.toNat (us.getD i default).toNat)) ∧
    forceL next C K good ins rnk s0 us = (done ++ [(worstP next C K ins rnk s.toNat (us.getD i default).toNat, leadAt next C K s (us.getD i default) (worstP next C K ins rnk s.toNat (us.getD i default).toNat))]) ++
      forceL next C K good ins rnk (leadAt next C K s (us.getD i default) (worstP next C K ins rnk s.toNat (us.getD i default).toNat)) (us.drop (i + 1)) ∧
    forceE next C K good ins rnk s (us.drop i) = forceE next C K good ins rnk (leadAt next C K s (us.getD i default) (worstP next C K ins rnk s.toNat (us.getD i default).toNat)) (us.drop (i + 1)) := by
  have hiu : i < us.length := Classical.byContradiction fun hn => by
    rw [List.drop_of_length_le (by omega), forceL, List.append_nil] at h
    rw [h] at hi; omega
  rw [drop_at hiu, forceL] at h
  by_cases hst : stopB good s = true
  · rw [if_pos hst, List.append_nil] at h
    rw [h] at hi; omega
  · rw [if_neg hst] at h
    refine ⟨hiu, hst, ?_, ?_, ?_⟩
    · rw [h]; exact getD_mid hd
    · rw [h]; simp
    · rw [drop_at hiu, forceE, if_neg hst]
theorem force_end {s : Int} : ∀ {us : List Int}, forceL next C K good ins rnk s us = [] → forceE next C K good ins rnk s us = s
  | [], _ => rfl
  | u :: us, h => by
    unfold forceL at h
    unfold forceE
    split at h
    · rename_i hs; rw [if_pos hs]
    · cases h
theorem force_neg {s : Int} (hs : s < 0) : ∀ us : List Int, forceL next C K good ins rnk s us = []
  | [] => rfl
  | u :: us => by
    unfold forceL
    rw [if_pos (by unfold stopB; simp [hs])]
theorem force_zero {s : Int} {us : List Int} (h : us ≠ []) : (forceL next C K good ins rnk s us).length = 0 ↔ stopB good s = true := by
  cases us with
  | nil => exact absurd rfl h
  | cons u us =>
    unfold forceL
    split
    · rename_i hs; simp [hs]
    · rename_i hs; simp [hs]
end
end Go.X

/- The reference's safe set, controls and ranks are those of the safe set found round after round. No condition. -/
set_option linter.unusedVariables false
namespace Go.X
def lval (rank : List Int) (n : Int) : Int := if 0 ≤ n then rank.getD n.toNat default else 0
def leastStep (rank L : List Int) (least : Int) (w : Nat) : Int := if 0 ≤ lval rank (L.getD w default) ∧ (least < 0 ∨ lval rank (L.getD w default) < least) then lval rank (L.getD w default) else least
def leastTo (rank L : List Int) (n : Nat) : Int := (List.range n).foldl (leastStep rank L) (-1)
theorem leastTo_succ {rank L : List Int} {n : Nat} : leastTo rank L (n + 1) = leastStep rank L (leastTo rank L n) n := by
  unfold leastTo; rw [List.range_succ, List.foldl_append]; rfl
theorem least_iff {rank L : List Int} : ∀ n, 0 ≤ leastTo rank L n ↔ ∃ i, i < n ∧ 0 ≤ lval rank (L.getD i default) := by
  intro n
  induction n with
  | zero => exact ⟨fun h => by simp [leastTo] at h, fun ⟨i, hi, _⟩ => by omega⟩
  | succ n ih =>
    rw [leastTo_succ]
    unfold leastStep
    by_cases h : 0 ≤ lval rank (L.getD n default) ∧ (leastTo rank L n < 0 ∨ lval rank (L.getD n default) < leastTo rank L n)
    · rw [if_pos h]
      exact ⟨fun _ => ⟨n, by omega, h.1⟩, fun _ => h.1⟩
    · rw [if_neg h, ih]
      constructor
      · rintro ⟨i, hi, h1⟩; exact ⟨i, by omega, h1⟩
      · rintro ⟨i, hi, h1⟩
        rcases Nat.lt_or_ge i n with h2 | h2
        · exact ⟨i, h2, h1⟩
        · have h3 : i = n := by omega
          subst h3
          have h4 : 0 ≤ leastTo rank L i := by
            rcases Int.lt_or_le (leastTo rank L i) 0 with h5 | h5
            · exact absurd ⟨h1, .inl h5⟩ h
            · exact h5
          exact ih.1 h4
def levelV (next : List Int) (C K : Nat) (rank : List Int) (s : Nat) : Int :=
  if (List.range C).any (fun u => decide (leastTo rank (leads next C K s u) K < 0)) = true then -1 else (List.range C).foldl (fun g u => max g (leastTo rank (leads next C K s u) K)) 0
theorem fold_max_nonneg (f : Nat → Int) : ∀ (L : List Nat) (x : Int), 0 ≤ x → 0 ≤ L.foldl (fun g u => max g (f u)) x
  | [], x, h => h
  | u :: L, x, h => fold_max_nonneg f L _ (by show 0 ≤ max x (f u); omega)
theorem level_iff {S C K : Nat} {next : List Int} {good : List Bool} (ok : Ok S C K next good) {rank : List Int} {s : Nat} (hs : s < S) :
    0 ≤ levelV next C K rank s ↔ ∀ u, u < C → ∃ n, n ∈ leads next C K s u ∧ 0 ≤ lval rank n := by
  have key : ∀ u, u < C → (0 ≤ leastTo rank (leads next C K s u) K ↔ ∃ n, n ∈ leads next C K s u ∧ 0 ≤ lval rank n) := fun u hu => by
    have hl := ok.leads_length hs hu
    rw [least_iff]
    constructor
    · rintro ⟨i, hi, h⟩; exact ⟨_, getD_mem (by omega), h⟩
    · rintro ⟨n, hn, h⟩
      obtain ⟨i, hi, rfl⟩ := List.getElem_of_mem hn
      exact ⟨i, by omega, by rw [List.getD_eq_getElem?_getD, List.getElem?_eq_getElem hi]; exact h⟩
  unfold levelV
  split
  · rename_i h
    rw [List.any_eq_true] at h
    obtain ⟨u, hu, hl⟩ := h
    have hu := List.mem_range.1 hu
    simp only [decide_eq_true_eq] at hl
    refine ⟨fun h => by omega, fun h => ?_⟩
    have := (key u hu).2 (h u hu)
    omega
  · rename_i h
    refine ⟨fun _ u hu => (key u hu).1 ?_, fun _ => fold_max_nonneg _ _ _ (by omega)⟩
    rcases Int.lt_or_le (leastTo rank (leads next C K s u) K) 0 with h1 | h1
    · exact absurd (List.any_eq_true.2 ⟨u, List.mem_range.2 hu, by simpa using h1⟩) h
    · exact h1
def stepRv (next : List Int) (C K : Nat) (F : List Bool) (n : Int) (known : List Int) (s : Nat) : Int :=
  if (¬ F.getD s default = true ∧ known.getD s default < 0) ∧ 0 ≤ levelV next C K known s then n else known.getD s default
def stepR (S : Nat) (next : List Int) (C K : Nat) (F : List Bool) (n : Int) (known : List Int) : List Int := (List.range S).map (stepRv next C K F n known)
def rank0 (F good : List Bool) (s : Nat) : Int := if F.getD s default = true then -1 else if ¬ good.getD s default = true then 0 else -1
def ctl0 (next : List Int) (C K : Nat) (F : List Bool) (s : Nat) : Int := if F.getD s default = true then ctlOf next C K F s else -1
def rkI (S : Nat) (next : List Int) (C K : Nat) (F good : List Bool) : Nat → List Int
  | 0 => (List.range S).map (rank0 F good)
  | m + 1 => stepR S next C K F ((m + 1 : Nat) : Int) (rkI S next C K F good m)
def iterR (S : Nat) (next : List Int) (C K : Nat) (F : List Bool) : Nat → Nat → List Int → List Int
  | _, 0, known => known
  | k, m + 1, known => iterR S next C K F (k + 1) m (stepR S next C K F ((k + 1 : Nat) : Int) known)
theorem rkI_iter {S : Nat} {next : List Int} {C K : Nat} {F good : List Bool} : ∀ (m k : Nat), iterR S next C K F k m (rkI S next C K F good k) = rkI S next C K F good (k + m)
  | 0, k => rfl
  | m + 1, k => by
    rw [iterR]
    have := rkI_iter m (k + 1) (S := S) (next := next) (C := C) (K := K) (F := F) (good := good)
    rw [rkI] at this
    rw [this]
    congr 1
    omega
theorem range_getD {S : Nat} {f : Nat → Int} {s : Nat} (hs : s < S) (d : Int) : ((List.range S).map f).getD s d = f s := by simp [hs]
theorem list_ext_getD {S : Nat} {a b : List Int} (ha : a.length = S) (hb : b.length = S) (h : ∀ s, s < S → a.getD s 0 = b.getD s 0) : a = b := by
  refine List.ext_getElem (by omega) fun s h1 h2 => ?_
  have := h s (by omega)
  simpa [h1, h2] using this
def shown (ins : List Bool) (rnk : List Int) (s : Nat) : Int := if ins.getD s default = true then -1 else rnk.getD s 0
theorem rank_sim {S C K : Nat} {next : List Int} {good : List Bool} (ok : Ok S C K next good) : ∀ (f k : Nat) (ins : List Bool) (ctl rnk : List Int) (m : Nat), ins.count true < f → ins.count true ≤ m → ins.length = S → rnk.length = S →
    (∀ s, s < S → ¬ inS ins s → 0 ≤ rnk.getD s 0) →
    iterR S next C K (rounds next C K f ((k + 1 : Nat) : Int) ins ctl rnk).1 k m ((List.range S).map (shown ins rnk)) =
      (List.range S).map (shown (rounds next C K f ((k + 1 : Nat) : Int) ins ctl rnk).1 (rounds next C K f ((k + 1 : Nat) : Int) ins ctl rnk).2.2) := by
  intro f
  induction f with
  | zero => intro k ins ctl rnk m h; omega
  | succ f ih =>
    intro k ins ctl rnk m h hm hl hrl hout0
    rw [rounds]
    by_cases hout : outsAt next C K ins (insL ins) = []
    · rw [if_pos hout]
      dsimp only
      clear h hm
      induction m generalizing k with
      | zero => rfl
      | succ m ihm =>
        rw [iterR]
        have hfix : stepR S next C K ins ((k + 1 : Nat) : Int) ((List.range S).map (shown ins rnk)) = (List.range S).map (shown ins rnk) := by
          refine List.map_congr_left fun s hs => ?_
          have hs := List.mem_range.1 hs
          unfold stepRv
          rw [range_getD hs, if_neg]
          rintro ⟨⟨h1, h2⟩, _⟩
          unfold shown at h2
          rw [if_neg h1] at h2
          have := hout0 s hs h1
          omega
        rw [hfix]
        exact ihm (k + 1)
    · rw [if_neg hout]
      have hlt := count_setAll_lt hout (fun s hs => by
        have h1 := mem_insL.1 (List.mem_filter.1 hs).1
        exact ⟨inS_lt h1, h1⟩)
      obtain ⟨m', rfl⟩ : ∃ m', m = m' + 1 := ⟨m - 1, by omega⟩
      have hrl := rounds_law (next := next) (C := C) (K := K) f (((k + 1 : Nat) : Int) + 1) (setAll ins (outsAt next C K ins (insL ins)) false) (ctlAt next C K ins ctl (insL ins)) (setAll rnk (outsAt next C K ins (insL ins)) ((k + 1 : Nat) : Int)) (by omega)
      have e1 : (((k + 1 : Nat) : Int) + 1) = ((k + 1 + 1 : Nat) : Int) := by omega
      rw [e1] at hrl ⊢
      have hsub := hrl.2.1
      rw [iterR]
      have hstep : stepR S next C K (rounds next C K f ((k + 1 + 1 : Nat) : Int) (setAll ins (outsAt next C K ins (insL ins)) false) (ctlAt next C K ins ctl (insL ins)) (setAll rnk (outsAt next C K ins (insL ins)) ((k + 1 : Nat) : Int))).1
          ((k + 1 : Nat) : Int) ((List.range S).map (shown ins rnk)) = (List.range S).map (shown (setAll ins (outsAt next C K ins (insL ins)) false) (setAll rnk (outsAt next C K ins (insL ins)) ((k + 1 : Nat) : Int))) := by
        generalize (rounds next C K f ((k + 1 + 1 : Nat) : Int) (setAll ins (outsAt next C K ins (insL ins)) false) (ctlAt next C K ins ctl (insL ins)) (setAll rnk (outsAt next C K ins (insL ins)) ((k + 1 : Nat) : Int))).1 = F at hsub ⊢
        refine List.map_congr_left fun s hs => ?_
        have hs := List.mem_range.1 hs
        unfold stepRv
        rw [range_getD hs]
        have hlev := level_iff ok hs (rank := (List.range S).map (shown ins rnk))
        have hlv : ∀ n : Int, n < S → lval ((List.range S).map (shown ins rnk)) n = if 0 ≤ n then shown ins rnk n.toNat else 0 := fun n hn => by
          unfold lval
          split
          · rw [range_getD (by omega)]
          · rfl
        by_cases hi : inS ins s
        · have hsh : shown ins rnk s = -1 := by unfold shown; rw [if_pos (show ins.getD s default = true from hi)]
          rcases ctlOf_cases next C K ins s with ⟨u, hu, hc, hk⟩ | ⟨hc, hk⟩
          · have hso : s ∉ outsAt next C K ins (insL ins) := fun hm => by have := (mem_outs.1 hm).2; omega
            rw [if_neg]
            · have : inS (setAll ins (outsAt next C K ins (insL ins)) false) s := setAll_get.2 ⟨hi, hso⟩
              rw [hsh]; unfold shown; rw [if_pos (show (setAll ins _ false).getD s default = true from this)]
            · rintro ⟨_, hall0⟩
              have hall := hlev.1 hall0
              obtain ⟨n, hn, h1⟩ := hall u hu
              obtain ⟨h2, h3⟩ := keepsP_iff.1 hk n hn
              have h4 := ok.inr n (List.mem_of_mem_drop (List.mem_of_mem_take hn))
              rw [hlv n h4.2, if_pos h2] at h1
              unfold shown at h1
              rw [if_pos (show ins.getD n.toNat default = true from h3)] at h1
              omega
          · have hso : s ∈ outsAt next C K ins (insL ins) := mem_outs.2 ⟨hi, hc⟩
            have hni : ¬ inS (setAll ins (outsAt next C K ins (insL ins)) false) s := fun hc => (setAll_get.1 hc).2 hso
            rw [if_pos]
            · unfold shown
              rw [if_neg (show ¬ (setAll ins _ false).getD s default = true from hni), setAll_getD, if_pos ⟨hso, by omega⟩]
            · refine ⟨⟨fun hF => hni (hsub s hF), by rw [hsh]; omega⟩, hlev.2 fun u hu => ?_⟩
              obtain ⟨n, hn, hb⟩ := keepsP_false (hk u hu)
              have h4 := ok.inr n (List.mem_of_mem_drop (List.mem_of_mem_take hn))
              refine ⟨n, hn, ?_⟩
              rw [hlv n h4.2]
              split
              · rename_i h5
                have h6 := hb.resolve_left (by omega)
                unfold shown
                rw [if_neg (show ¬ ins.getD n.toNat default = true from h6)]
                exact hout0 _ (by omega) h6
              · omega
        · have hni : ¬ inS (setAll ins (outsAt next C K ins (insL ins)) false) s := fun hc => hi (setAll_get.1 hc).1
          have hsh : shown ins rnk s = rnk.getD s 0 := by unfold shown; rw [if_neg (show ¬ ins.getD s default = true from hi)]
          have h7 := hout0 s hs hi
          rw [if_neg (by rw [hsh]; rintro ⟨⟨_, h8⟩, _⟩; omega), hsh]
          unfold shown
          rw [if_neg (show ¬ (setAll ins _ false).getD s default = true from hni), setAll_getD, if_neg fun hm => hi (mem_outs.1 hm.1).1]
      rw [hstep]
      refine ih (k + 1) _ _ _ m' (by omega) (by omega) (setAll_len.trans hl) (setAll_len.trans (by assumption)) (fun s hs hns => ?_)
      rw [setAll_getD]
      split
      · omega
      · rename_i hns2
        refine hout0 s hs fun hi => hns2 ?_
        have : s ∈ outsAt next C K ins (insL ins) := Classical.byContradiction fun hno => hns (setAll_get.2 ⟨hi, hno⟩)
        exact ⟨this, by omega⟩
theorem ref_ins {S C K : Nat} {next : List Int} {good : List Bool} (ok : Ok S C K next good) {F : List Bool} (hl : F.length = S) (hg : ∀ s, inS F s → inS good s) (hk : KeptBy next C K (inS F))
    (hm : ∀ A : Nat → Prop, KeptBy next C K A → (∀ s, A s → inS good s) → ∀ s, A s → inS F s) : F = (solved S C K next good).1 := by
  obtain ⟨h1, h2, h3, h4⟩ := solved_law (S := S) (C := C) (K := K) (next := next) ok.glen
  refine List.ext_getElem (by omega) fun s hs hs' => ?_
  have : inS F s ↔ inS (solved S C K next good).1 s := ⟨h4 _ hk hg s, hm _ h3 h2 s⟩
  unfold inS at this
  simp only [List.getD_eq_getElem?_getD, List.getElem?_eq_getElem hs, List.getElem?_eq_getElem hs', Option.getD_some] at this
  exact Bool.eq_iff_iff.2 this
theorem ref_ctl {S C K : Nat} {next : List Int} {good : List Bool} (ok : Ok S C K next good) : (List.range S).map (ctl0 next C K (solved S C K next good).1) = (solved S C K next good).2.1 := by
  have hc := List.count_le_length (a := true) (l := good)
  have hg := ok.glen
  obtain ⟨rank, ins, ctl, rnk, hr, ho, I⟩ := rounds_inv ok (S + 1) 1 good (List.replicate S (-1)) (List.replicate S 0) (by omega)
    ⟨hg, by simp, by simp, by omega, fun _ h => h, fun s hs hn => by
      rw [getD_replicate hs, getD_replicate hs]
      exact ⟨rfl, by omega, by omega, fun _ => hn, fun h => by omega⟩⟩
  unfold solved
  dsimp only
  rw [hr]
  dsimp only
  refine list_ext_getD (S := S) (by simp) (ctlAt_len.trans I.l2) fun s hs => ?_
  rw [range_getD hs]
  unfold ctl0
  by_cases hi : inS ins s
  · rw [if_pos (show ins.getD s default = true from hi), ctlAt_getD, if_pos ⟨mem_insL.2 hi, by rw [I.l2]; exact hs⟩]
  · rw [if_neg (show ¬ ins.getD s default = true from hi), ctlAt_getD, if_neg fun hm => hi (mem_insL.1 hm.1)]
    exact (I.out s hs hi).1.symm
theorem ref_rnk {S C K : Nat} {next : List Int} {good : List Bool} (ok : Ok S C K next good) : rkI S next C K (solved S C K next good).1 good S = (solved S C K next good).2.2 := by
  have hc := List.count_le_length (a := true) (l := good)
  have hg := ok.glen
  have h1 := rank_sim ok (S + 1) 0 good (List.replicate S (-1)) (List.replicate S 0) S (by omega) (by omega) hg (by simp) (fun s hs _ => by rw [getD_replicate hs]; omega)
  have h2 := rkI_iter (S := S) (next := next) (C := C) (K := K) (F := (solved S C K next good).1) (good := good) S 0
  have e0 : rkI S next C K (solved S C K next good).1 good 0 = (List.range S).map (shown good (List.replicate S 0)) := by
    rw [rkI]
    refine List.map_congr_left fun s hs => ?_
    have hs := List.mem_range.1 hs
    unfold rank0 shown
    obtain ⟨_, hsg, _, _⟩ := solved_law (S := S) (C := C) (K := K) (next := next) ok.glen
    by_cases hi : inS good s
    · rw [if_pos (show good.getD s default = true from hi), if_neg (Classical.not_not.2 (show good.getD s default = true from hi))]
      split <;> rfl
    · rw [if_neg (show ¬ good.getD s default = true from hi), if_pos (show ¬ good.getD s default = true from hi), if_neg (show ¬ (solved S C K next good).1.getD s default = true from fun h => hi (hsg s h)), getD_replicate hs]
  rw [e0, Nat.zero_add] at h2
  have e01 : ((0 + 1 : Nat) : Int) = 1 := rfl
  rw [e01] at h1
  rw [← h2]
  have h3 : (solved S C K next good).1 = (rounds next C K (S + 1) 1 good (List.replicate S (-1)) (List.replicate S 0)).1 := rfl
  rw [h3, h1]
  obtain ⟨_, _, h4, _⟩ := solved_right ok
  refine list_ext_getD (S := S) (by simp) h4 fun s hs => ?_
  rw [range_getD hs]
  unfold shown solved
  dsimp only
  rw [setAll_getD]
  have h5 : (rounds next C K (S + 1) 1 good (List.replicate S (-1)) (List.replicate S 0)).2.2.length = S := by
    have h6 := h4
    unfold solved at h6
    dsimp only at h6
    rw [setAll_len] at h6
    exact h6
  by_cases hi : inS (rounds next C K (S + 1) 1 good (List.replicate S (-1)) (List.replicate S 0)).1 s
  · rw [if_pos (show (rounds next C K (S + 1) 1 good _ _).1.getD s default = true from hi), if_pos ⟨mem_insL.2 hi, by omega⟩]
  · rw [if_neg (show ¬ (rounds next C K (S + 1) 1 good _ _).1.getD s default = true from hi), if_neg fun hm => hi (mem_insL.1 hm.1)]
end Go.X

/- Calls under a guard that is known to hold. No condition. -/
set_option linter.unusedSimpArgs false
set_option linter.unusedVariables false
namespace Go.X
section
variable {c : Cx} {ops : Array Oper} {rest : List Oper} {k : List Item} {e : Env} {o r : List PHeap} {d : Nat} {ty : TypeId} {pos : String} {aft : Array Edge}
variable {fl : List Nat} {f : List PHeap} {i0 : Nat} {bb : Bool} {tt uu : Plan}
theorem EvL.evs {e : Env} : ∀ {l : List Operand} {vs : List Value}, EvL e l vs → evs e l = some vs
  | [], _, .n => rfl
  | x :: l, _, .c h r => by simp only [X.evs, h, EvL.evs r]
theorem XO.callS {g : FuncId} {x : Operand} {l : List Operand} {tys : Array TypeId} {fst vs cap A : List Value} {Hm Hr : List PHeap} {R : Value → List PHeap → Prop} {o1 : List PHeap} {j gt : Nat} {want b : Bool}
    (hj : (ops[j]?).bind (·.dst) = some gt) (hg : find e gt = some (.bool b)) (hb : b = want)
    (hc : ∀ args w, (callFunc g args).run c.P w = .ok (.enter g args) w) (hx : ev e x = some (.func (.func g) fst.toArray cap.toArray)) (hl : EvL e l vs) (hA : fst ++ vs ++ cap = A)
    (hS : Spec c.P g A.toArray Hm Hr R) [t : Takes Hm o o1] [al : AllIn Hr o1 (c.B :: r)] (h : ∀ v hs, R v hs → XO c ops rest k ((d, some v) :: e) (hs ++ o1) r) :
    XO c ops (⟨some d, .call ⟨.value x, l.toArray, tys⟩, ty, pos, aft, some (j, want)⟩ :: rest) k e o r :=
  XO.s (Stp.want hj hg hb (Stp.call hc hx hl.evs hA hS)) fun v o2 ⟨hs, hR, h2⟩ => by subst h2; exact h v hs hR
theorem XT.callS {g : FuncId} {x : Operand} {l : List Operand} {tys : Array TypeId} {fst vs cap A : List Value} {Hm Hr : List PHeap} {R : Value → List PHeap → Prop} {o1 : List PHeap} {j gt : Nat} {want b : Bool}
    (hi : ops[i0]? = some ⟨some d, .call ⟨.value x, l.toArray, tys⟩, ty, pos, aft, some (j, want)⟩) (hok : okOper c.N ⟨some d, .call ⟨.value x, l.toArray, tys⟩, ty, pos, aft, some (j, want)⟩ = true)
    (hj : (ops[j]?).bind (·.dst) = some gt) (hg : find e gt = some (.bool b)) (hb : b = want)
    (hc : ∀ args w, (callFunc g args).run c.P w = .ok (.enter g args) w) (hx : ev e x = some (.func (.func g) fst.toArray cap.toArray)) (hl : EvL e l vs) (hA : fst ++ vs ++ cap = A)
    (hS : Spec c.P g A.toArray Hm Hr R) [tk : Takes Hm o o1] [al : AllIn Hr o1 (c.B :: r)] (h : ∀ v hs, R v hs → Keeps bb f (hs ++ o1) ∧ XT c ops fl f k r tt ((d, some v) :: e) (hs ++ o1)) (hu : XT c ops fl f k r uu e o) :
    XT c ops fl f k r (.br i0 bb tt uu) e o :=
  XT.s hi hok (Stp.want hj hg hb (Stp.call hc hx hl.evs hA hS)) (fun v o2 ⟨hs, hR, h2⟩ => by subst h2; exact h v hs hR) hu
end
end Go.X

/- From the reading of arguments to slices that are read; what a call leaves as it was. No condition. -/
set_option linter.unusedSimpArgs false
set_option linter.unusedVariables false
namespace Go.X
open Go.ChangeShapes Go.WideShapes Go.Deep
def heapOf (w : World) : PHeap := ⟨fun b => w.heap[b]?, some (mt w)⟩
theorem heap_sep (w : World) : Sep [] [heapOf w] w where
  pw := List.Pairwise.nil
  dr := fun h hh => by cases hh
  so := fun h hh => by cases hh
  sr := fun g hg b ob hb => by
    simp only [List.mem_singleton] at hg; subst hg; exact hb
  no := fun h hh => by cases hh
  sm := fun g hg m hm => by
    simp only [List.mem_singleton] at hg; subst hg; exact Option.some.inj hm
structure Stays (W w' : World) : Prop where
  os : w'.os = W.os
  output : w'.output = W.output
  block : ∀ k, k < W.heap.size → w'.heap[k]? = W.heap[k]?
theorem stays_of {o : List PHeap} {W w' : World} (s : Sep o [heapOf W] w') : Stays W w' := by
  have h1 := s.sm _ List.mem_cons_self _ rfl
  simp only [mt, Prod.mk.injEq] at h1
  refine ⟨h1.1, h1.2, fun k hk => ?_⟩
  have h2 : W.heap[k]? = some (W.heap[k]'hk) := Array.getElem?_eq_getElem hk
  rw [h2]
  exact s.sr _ List.mem_cons_self k _ h2
theorem Stays.same {W w' : World} (h : Stays W w') {p : MemPlace} (hp : p.block < W.heap.size) : W.sameAt w' p := by
  cases p with
  | cell b o => exact World.cell?_of_block (w := W) (h.block b hp)
  | map b => exact h.block b hp
theorem Stays.frame {W w' : World} (h : Stays W w') (may : MemPlace → Prop) : W.keptBut w' may := by
  refine ⟨h.os, h.output, fun i hi => ?_⟩
  rw [h.block i hi]
  split <;> simp_all
theorem Stays.trod {H : Type} {enc : TypeId × Value → H} {P : Program} {t : TypeId} (hl : laidOutB P = true) (hr : P.readableRec t = true) (hrow : t < P.types.size) {W W' : World} {v : Value} {d : DataW H} {ps : List MemPlace}
    (h : DataW.Trod enc P W 0 (fun _ => true) true t v d ps) (hb : Stays W W') (hlt : ∀ x ∈ ps, x.block < W.heap.size) :
    DataW.Trod enc P W' 0 (fun b => decide (b < W.heap.size)) true t v d ps :=
  WideElems.Trod_stays hl hr hrow h (fun x hx => hb.same (hlt x hx)) (fun x hx => by simpa using hlt x hx)
theorem Stays.refl (W : World) : Stays W W := ⟨rfl, rfl, fun _ _ => rfl⟩
theorem calls_of_spec {P : Program} {f : FuncId} {args : Array Value} {hr : List PHeap} {W : World} {R : Value → List PHeap → Prop} (h : Spec P f args [] hr R) (hh : ∀ h ∈ hr, h = heapOf W) :
    Calls P f args W fun e w' => ∃ v hs, e = .returned v ∧ R v hs ∧ Stays W w' :=
  (h [] [heapOf W] W (heap_sep W) (fun x hx => .inr (by rw [hh x hx]; exact List.mem_cons_self))).mono fun e w' ⟨v, hs, he, hR, hS⟩ => ⟨v, hs, he, hR, stays_of (o := hs ++ []) hS⟩

theorem cell_heap {W : World} {a : Addr} {v : Value} (h : W.cell? a = some v) : ∃ cs T fr, a.spot = none ∧ W.heap[a.block]? = some (.cells cs T fr) ∧ cs[a.off]? = some v := by
  have hs := World.cell?_spot h
  unfold World.cell? at h
  split at h
  · rename_i c T fr hb
    rw [if_neg (by simp [hs])] at h
    exact ⟨c, T, fr, hs, hb, h⟩
  · cases h
theorem arr_one {α : Type} {W : World} {enc : α → List Value} (henc : ∀ x, ∃ u, enc x = [u] ∧ one u = true) {a : Addr} {len cap : Nat} {xs : List α} (hlen : xs.length = len) (hc : len ≤ cap) (h47 : len ≤ 140737488355328)
    (hcell : ∀ i (hi : i < xs.length), ∀ u, enc xs[i] = [u] → W.cell? (a.add i) = some u) : Arr (.slice (some a) len cap) enc 1 (heapOf W) xs := by
  subst hlen
  refine ⟨fun x => by obtain ⟨u, hu, _⟩ := henc x; rw [hu]; rfl, ⟨h47, fun x _ c hc => by obtain ⟨u, hu, ho⟩ := henc x; rw [hu] at hc; simp only [List.mem_singleton] at hc; subst hc; exact ho⟩, some a, cap, rfl, hc, (fun h => by cases h), fun hp => ?_⟩
  obtain ⟨u0, hu0, _⟩ := henc (xs[0]'hp)
  have h0 := hcell 0 hp u0 hu0
  obtain ⟨b, k, sp⟩ := a
  obtain ⟨cs, T, fr, hsp, hb, _⟩ := cell_heap h0
  have hsp' : sp = none := by simpa [Addr.add] using hsp
  subst hsp'
  have hb' : W.heap[b]? = some (.cells cs T fr) := by simpa [Addr.add] using hb
  refine ⟨b, k, cs, T, fr, rfl, hb', fun i j hi hj => ?_⟩
  obtain ⟨u, hu, _⟩ := henc (xs[i]'hi)
  have hi' := hcell i hi u hu
  rw [add_none] at hi'
  obtain ⟨cs2, T2, fr2, _, hb2, hc2⟩ := cell_heap hi'
  have hb2' : W.heap[b]? = some (.cells cs2 T2 fr2) := hb2
  rw [hb'] at hb2'
  simp only [Option.some.injEq, Obj.cells.injEq] at hb2'
  obtain ⟨rfl, rfl, rfl⟩ := hb2'
  have hj0 : j = 0 := by omega
  subst hj0
  rw [List.getElem?_eq_getElem hi, Option.bind_some, hu]
  simpa using hc2
section
variable {H : Type} {enc : TypeId × Value → H} {P : Program} {w : World} {held : Bool}
theorem arr_ints {t e : TypeId} {fuel : Nat} {cs : List Value} {x : DataW H × List MemPlace} (ht : P.underlying t = some (.slice e)) (he : P.underlying e = some (.int .i64)) (hc : P.cellsOf e = 1)
    (h : DataW.trod enc P w 0 (fun _ => true) held fuel t cs = some x) (hw : ∀ elems spare, x.1 = .slice elems spare → elems.length + spare.length ≤ 140737488355328) : ∃ v xs, cs = [v] ∧ Arr v encI 1 (heapOf w) xs := by
  rcases open_ints ht he hc h with ⟨rfl, _⟩ | ⟨a, len, cap, zs, rfl, _, hl, hm, hz, hx, hcell, hwz⟩
  · exact ⟨_, [], rfl, Arr.nil (fun _ => rfl)⟩
  · have hz' : zs.length = cap := by simpa using hz
    have hb : len ≤ 140737488355328 := by
      have := hw _ _ (by rw [hx])
      simp [lits] at this
      omega
    refine ⟨_, zs.take len, rfl, arr_one (fun x => ⟨_, rfl, rfl⟩) (by simp; omega) hl hb fun i hi u hu => ?_⟩
    have hi2 : i < zs.length := by simp at hi; omega
    rw [hcell i hi2]
    simp only [encI, List.cons.injEq, and_true] at hu
    rw [← hu]
    simp [List.getD_eq_getElem?_getD, hi2]
theorem arr_bools {t e : TypeId} {fuel : Nat} {cs : List Value} {x : DataW H × List MemPlace} (ht : P.underlying t = some (.slice e)) (he : P.underlying e = some .bool) (hc : P.cellsOf e = 1)
    (h : DataW.trod enc P w 0 (fun _ => true) held fuel t cs = some x) (hw : ∀ elems spare, x.1 = .slice elems spare → elems.length + spare.length ≤ 140737488355328) : ∃ v xs, cs = [v] ∧ Arr v encB 1 (heapOf w) xs := by
  rcases open_bools ht he hc h with ⟨rfl, _⟩ | ⟨a, len, cap, B, rfl, _, hl, hm, hx, hcell⟩
  · exact ⟨_, [], rfl, Arr.nil (fun _ => rfl)⟩
  · have hb : len ≤ 140737488355328 := by
      rcases open_slice ht h with ⟨h1, _⟩ | ⟨a', len', cap', m, n, D, Pl, h1, _, hl', _, hmm, hx', _⟩
      · cases h1
      · simp only [List.cons.injEq, Value.slice.injEq, Option.some.injEq, and_true] at h1
        obtain ⟨rfl, rfl, rfl⟩ := h1
        have := hw _ _ (by rw [hx'])
        simp at this
        omega
    refine ⟨_, (List.range len).map B, rfl, arr_one (fun x => ⟨_, rfl, rfl⟩) (by simp) hl hb fun i hi u hu => ?_⟩
    have hi2 : i < len := by simpa using hi
    rw [hcell i (by omega)]
    simp only [encB, List.cons.injEq, and_true] at hu
    rw [← hu]
    simp
end
end Go.X

/- Arguments of rows opened: small numbers, slices of bytes. No condition. -/
set_option linter.unusedSimpArgs false
set_option linter.unusedVariables false
namespace Go.X
open Go.ChangeShapes Go.WideShapes Go.Deep
section
variable {H : Type} {enc : TypeId × Value → H} {P : Program} {W : World} {base : Nat} {v : Value} {d : DataW H} {ps : List MemPlace}
theorem open_u8 {t : TypeId} (ht : P.underlying t = some (.int .u8)) (hv : Value.okWide P W .any base t v) (h : DataW.Trod enc P W 0 (fun _ => true) true t v d ps) :
    ∃ n : Nat, n < 256 ∧ v = .int .u8 (n : Nat) ∧ d = .lit (.int .u8 (n : Nat)) ∧ ps = [] ∧ (Lit.int .u8 (n : Nat)).wf = true := by
  obtain ⟨m, rfl, rfl, rfl, hw⟩ := open_int ht hv h
  have := bounds_u8 hw
  obtain ⟨n, rfl⟩ := Int.eq_ofNat_of_zero_le this.1
  exact ⟨n, by omega, rfl, rfl, rfl, hw⟩
theorem open_u16 {t : TypeId} (ht : P.underlying t = some (.int .u16)) (hv : Value.okWide P W .any base t v) (h : DataW.Trod enc P W 0 (fun _ => true) true t v d ps) :
    ∃ n : Nat, n < 65536 ∧ v = .int .u16 (n : Nat) ∧ d = .lit (.int .u16 (n : Nat)) ∧ ps = [] ∧ (Lit.int .u16 (n : Nat)).wf = true := by
  obtain ⟨m, rfl, rfl, rfl, hw⟩ := open_int ht hv h
  have := bounds_u16 hw
  obtain ⟨n, rfl⟩ := Int.eq_ofNat_of_zero_le this.1
  exact ⟨n, by omega, rfl, rfl, rfl, hw⟩
theorem bounds_i64 {n : Int} (h : (Lit.int .i64 n).wf = true) : in64 n := by
  simp [Lit.wf, IntKind.min, IntKind.max, IntKind.signed, IntKind.bits] at h
  exact ⟨by omega, by omega⟩
theorem open_i64 {t : TypeId} (ht : P.underlying t = some (.int .i64)) (hv : Value.okWide P W .any base t v) (h : DataW.Trod enc P W 0 (fun _ => true) true t v d ps) :
    ∃ n : Int, in64 n ∧ v = .int .i64 n ∧ d = .lit (.int .i64 n) ∧ ps = [] ∧ (Lit.int .i64 n).wf = true := by
  obtain ⟨m, rfl, rfl, rfl, hw⟩ := open_int ht hv h
  exact ⟨m, bounds_i64 hw, rfl, rfl, rfl, hw⟩
theorem arr_u8s {held : Bool} {t e : TypeId} {fuel : Nat} {cs : List Value} {x : DataW H × List MemPlace} (ht : P.underlying t = some (.slice e)) (he : P.underlying e = some (.int .u8)) (hc : P.cellsOf e = 1)
    (h : DataW.trod enc P W 0 (fun _ => true) held fuel t cs = some x) (hw : ∀ elems spare, x.1 = .slice elems spare → elems.length + spare.length ≤ 140737488355328) : ∃ v xs, cs = [v] ∧ Arr v encU8 1 (heapOf W) xs := by
  rcases open_ints ht he hc h with ⟨rfl, _⟩ | ⟨a, len, cap, zs, rfl, _, hl, hm, hz, hx, hcell, hwz⟩
  · exact ⟨_, [], rfl, Arr.nil (fun _ => rfl)⟩
  · have hz' : zs.length = cap := by simpa using hz
    have hb : len ≤ 140737488355328 := by
      have := hw _ _ (by rw [hx])
      simp [lits] at this
      omega
    refine ⟨_, (zs.take len).map fun n => UInt8.ofNat n.toNat, rfl, arr_one (fun x => ⟨_, rfl, rfl⟩) (by simp; omega) hl hb fun i hi u hu => ?_⟩
    have hi2 : i < zs.length := by simp at hi; omega
    rw [hcell i hi2]
    simp only [encU8, List.cons.injEq, and_true] at hu
    rw [← hu]
    have hb := range_u8 hwz i
    have e : zs[i]?.getD 0 = zs[i] := by simp [hi2]
    rw [e] at hb
    simp only [List.getElem_map, List.getElem_take, List.getD_eq_getElem?_getD, e, UInt8.toNat_ofNat']
    congr 2
    omega
theorem slice_weight {t e : TypeId} (ht : P.underlying t = some (.slice e)) (hb : 0 < P.bytesOf e) (hw : ∀ n ∈ d.weights P t, n ≤ reachBytes) : ∀ elems spare, d = .slice elems spare → elems.length + spare.length ≤ 140737488355328 := by
  rintro elems spare rfl
  have h := hw ((elems.length + spare.length) * P.bytesOf e) (by simp [DataW.weights, ht])
  have h1 : (elems.length + spare.length) * 1 ≤ (elems.length + spare.length) * P.bytesOf e := Nat.mul_le_mul_left _ hb
  have h2 : reachBytes = 140737488351232 := rfl
  omega
theorem slice_cells {t e : TypeId} (ht : P.underlying t = some (.slice e)) (hv : Value.okWide P W .any base t v) : v.cells.toList = [v] := by
  obtain ⟨a, len, cap, rfl⟩ := okWide_slice ht hv
  rfl
theorem open_u8s {t e : TypeId} (ht : P.underlying t = some (.slice e)) (he : P.underlying e = some (.int .u8)) (hc : P.cellsOf e = 1) (hb : 0 < P.bytesOf e) (hv : Value.okWide P W .any base t v)
    (h : DataW.Trod enc P W 0 (fun _ => true) true t v d ps) (hw : ∀ n ∈ d.weights P t, n ≤ reachBytes) : ∃ xs : List UInt8, Arr v encU8 1 (heapOf W) xs := by
  obtain ⟨fuel, hf⟩ := h
  rw [slice_cells ht hv] at hf
  obtain ⟨v', xs, hcs, hA⟩ := arr_u8s ht he hc hf (slice_weight ht hb hw)
  simp only [List.cons.injEq, and_true] at hcs
  subst hcs
  exact ⟨xs, hA⟩
theorem open_i64s {t e : TypeId} (ht : P.underlying t = some (.slice e)) (he : P.underlying e = some (.int .i64)) (hc : P.cellsOf e = 1) (hb : 0 < P.bytesOf e) (hv : Value.okWide P W .any base t v)
    (h : DataW.Trod enc P W 0 (fun _ => true) true t v d ps) (hw : ∀ n ∈ d.weights P t, n ≤ reachBytes) : ∃ xs : List Int, Arr v encI 1 (heapOf W) xs := by
  obtain ⟨fuel, hf⟩ := h
  rw [slice_cells ht hv] at hf
  obtain ⟨v', xs, hcs, hA⟩ := arr_ints ht he hc hf (slice_weight ht hb hw)
  simp only [List.cons.injEq, and_true] at hcs
  subst hcs
  exact ⟨xs, hA⟩
end
end Go.X

/- The type table of this seat as instances; written by program. No condition. -/
namespace Go.X
open Go.Proofs
set_option maxRecDepth 10000
instance : Und Try.prog 0 (Go.TypeDesc.tuple #[]) := ⟨Try.runUnderlying0⟩
instance : IsAgg Try.prog 0 false := ⟨Try.isAgg0⟩
instance : TySize Try.prog 0 1 := ⟨Try.sizeOf0⟩
instance : TyBytes Try.prog 0 0 := ⟨_, Try.typeInfo0, rfl⟩
instance : Zero Try.prog 0 [(Go.Value.tuple #[])] := ⟨_, Try.zeroValue0, rfl⟩
instance : Und Try.prog 1 (Go.TypeDesc.func #[] #[] Bool.false) := ⟨Try.runUnderlying1⟩
instance : IsAgg Try.prog 1 false := ⟨Try.isAgg1⟩
instance : TySize Try.prog 1 1 := ⟨Try.sizeOf1⟩
instance : TyBytes Try.prog 1 8 := ⟨_, Try.typeInfo1, rfl⟩
instance : Zero Try.prog 1 [Go.Value.nilFunc] := ⟨_, Try.zeroValue1, rfl⟩
instance : Und Try.prog 2 (Go.TypeDesc.int Go.IntKind.i64) := ⟨Try.runUnderlying2⟩
instance : IsAgg Try.prog 2 false := ⟨Try.isAgg2⟩
instance : TySize Try.prog 2 1 := ⟨Try.sizeOf2⟩
instance : TyBytes Try.prog 2 8 := ⟨_, Try.typeInfo2, rfl⟩
instance : Zero Try.prog 2 [(Go.Value.int Go.IntKind.i64 0)] := ⟨_, Try.zeroValue2, rfl⟩
instance : Und Try.prog 3 (Go.TypeDesc.int Go.IntKind.i64) := ⟨Try.runUnderlying3⟩
instance : IsAgg Try.prog 3 false := ⟨Try.isAgg3⟩
instance : TySize Try.prog 3 1 := ⟨Try.sizeOf3⟩
instance : TyBytes Try.prog 3 8 := ⟨_, Try.typeInfo3, rfl⟩
instance : Zero Try.prog 3 [(Go.Value.int Go.IntKind.i64 0)] := ⟨_, Try.zeroValue3, rfl⟩
instance : Und Try.prog 4 Go.TypeDesc.bool := ⟨Try.runUnderlying4⟩
instance : IsAgg Try.prog 4 false := ⟨Try.isAgg4⟩
instance : TySize Try.prog 4 1 := ⟨Try.sizeOf4⟩
instance : TyBytes Try.prog 4 1 := ⟨_, Try.typeInfo4, rfl⟩
instance : Zero Try.prog 4 [(Go.Value.bool Bool.false)] := ⟨_, Try.zeroValue4, rfl⟩
instance : Und Try.prog 5 (Go.TypeDesc.int Go.IntKind.u8) := ⟨Try.runUnderlying5⟩
instance : IsAgg Try.prog 5 false := ⟨Try.isAgg5⟩
instance : TySize Try.prog 5 1 := ⟨Try.sizeOf5⟩
instance : TyBytes Try.prog 5 1 := ⟨_, Try.typeInfo5, rfl⟩
instance : Zero Try.prog 5 [(Go.Value.int Go.IntKind.u8 0)] := ⟨_, Try.zeroValue5, rfl⟩
instance : Und Try.prog 6 (Go.TypeDesc.int Go.IntKind.u8) := ⟨Try.runUnderlying6⟩
instance : IsAgg Try.prog 6 false := ⟨Try.isAgg6⟩
instance : TySize Try.prog 6 1 := ⟨Try.sizeOf6⟩
instance : TyBytes Try.prog 6 1 := ⟨_, Try.typeInfo6, rfl⟩
instance : Zero Try.prog 6 [(Go.Value.int Go.IntKind.u8 0)] := ⟨_, Try.zeroValue6, rfl⟩
instance : Und Try.prog 7 (Go.TypeDesc.struct #[(Go.Field.mk "x" 2 0 Bool.false "" "runtime" 0), (Go.Field.mk "y" 3 1 Bool.false "" "runtime" 8), (Go.Field.mk "signed" 4 2 Bool.false "" "runtime" 16), (Go.Field.mk "code" 6 3 Bool.false "" "runtime" 17)]) := ⟨Try.runUnderlying7⟩
instance : IsAgg Try.prog 7 true := ⟨Try.isAgg7⟩
instance : TySize Try.prog 7 4 := ⟨Try.sizeOf7⟩
instance : TyBytes Try.prog 7 24 := ⟨_, Try.typeInfo7, rfl⟩
instance : Zero Try.prog 7 [(Go.Value.int Go.IntKind.i64 0), (Go.Value.int Go.IntKind.i64 0), (Go.Value.bool Bool.false), (Go.Value.int Go.IntKind.u8 0)] := ⟨_, Try.zeroValue7, rfl⟩
instance : Fld Try.prog 7 0 0 := Fld.of (n := 1) ⟨Try.runUnderlying7⟩ rfl ⟨Try.sizeOf2⟩ (by decide) rfl
instance : Fld Try.prog 7 1 1 := Fld.of (n := 1) ⟨Try.runUnderlying7⟩ rfl ⟨Try.sizeOf3⟩ (by decide) rfl
instance : Fld Try.prog 7 2 2 := Fld.of (n := 1) ⟨Try.runUnderlying7⟩ rfl ⟨Try.sizeOf4⟩ (by decide) rfl
instance : Fld Try.prog 7 3 3 := Fld.of (n := 1) ⟨Try.runUnderlying7⟩ rfl ⟨Try.sizeOf6⟩ (by decide) rfl
instance : Places Try.prog 7 (fun i => ([(0, 1), (1, 1), (2, 1), (3, 1)] : List (Nat × Nat))[i]?) := Places.struct ⟨Try.runUnderlying7⟩ (.c Try.sizeOf2 (.c Try.sizeOf3 (.c Try.sizeOf4 (.c Try.sizeOf6 .n))))
instance : Und Try.prog 8 (Go.TypeDesc.struct #[(Go.Field.mk "x" 2 0 Bool.false "" "runtime" 0), (Go.Field.mk "y" 3 1 Bool.false "" "runtime" 8), (Go.Field.mk "signed" 4 2 Bool.false "" "runtime" 16), (Go.Field.mk "code" 6 3 Bool.false "" "runtime" 17)]) := ⟨Try.runUnderlying8⟩
instance : IsAgg Try.prog 8 true := ⟨Try.isAgg8⟩
instance : TySize Try.prog 8 4 := ⟨Try.sizeOf8⟩
instance : TyBytes Try.prog 8 24 := ⟨_, Try.typeInfo8, rfl⟩
instance : Zero Try.prog 8 [(Go.Value.int Go.IntKind.i64 0), (Go.Value.int Go.IntKind.i64 0), (Go.Value.bool Bool.false), (Go.Value.int Go.IntKind.u8 0)] := ⟨_, Try.zeroValue8, rfl⟩
instance : Fld Try.prog 8 0 0 := Fld.of (n := 1) ⟨Try.runUnderlying8⟩ rfl ⟨Try.sizeOf2⟩ (by decide) rfl
instance : Fld Try.prog 8 1 1 := Fld.of (n := 1) ⟨Try.runUnderlying8⟩ rfl ⟨Try.sizeOf3⟩ (by decide) rfl
instance : Fld Try.prog 8 2 2 := Fld.of (n := 1) ⟨Try.runUnderlying8⟩ rfl ⟨Try.sizeOf4⟩ (by decide) rfl
instance : Fld Try.prog 8 3 3 := Fld.of (n := 1) ⟨Try.runUnderlying8⟩ rfl ⟨Try.sizeOf6⟩ (by decide) rfl
instance : Places Try.prog 8 (fun i => ([(0, 1), (1, 1), (2, 1), (3, 1)] : List (Nat × Nat))[i]?) := Places.struct ⟨Try.runUnderlying8⟩ (.c Try.sizeOf2 (.c Try.sizeOf3 (.c Try.sizeOf4 (.c Try.sizeOf6 .n))))
instance : Und Try.prog 9 Go.TypeDesc.string := ⟨Try.runUnderlying9⟩
instance : IsAgg Try.prog 9 false := ⟨Try.isAgg9⟩
instance : TySize Try.prog 9 1 := ⟨Try.sizeOf9⟩
instance : TyBytes Try.prog 9 16 := ⟨_, Try.typeInfo9, rfl⟩
instance : Zero Try.prog 9 [(Go.Value.string (ByteArray.mk #[]))] := ⟨_, Try.zeroValue9, rfl⟩
instance : Und Try.prog 12 (Go.TypeDesc.int Go.IntKind.u64) := ⟨Try.runUnderlying12⟩
instance : IsAgg Try.prog 12 false := ⟨Try.isAgg12⟩
instance : TySize Try.prog 12 1 := ⟨Try.sizeOf12⟩
instance : TyBytes Try.prog 12 8 := ⟨_, Try.typeInfo12, rfl⟩
instance : Zero Try.prog 12 [(Go.Value.int Go.IntKind.u64 0)] := ⟨_, Try.zeroValue12, rfl⟩
instance : Und Try.prog 22 (Go.TypeDesc.slice 3) := ⟨Try.runUnderlying22⟩
instance : IsAgg Try.prog 22 false := ⟨Try.isAgg22⟩
instance : TySize Try.prog 22 1 := ⟨Try.sizeOf22⟩
instance : TyBytes Try.prog 22 24 := ⟨_, Try.typeInfo22, rfl⟩
instance : Zero Try.prog 22 [(Go.Value.slice none 0 0)] := ⟨_, Try.zeroValue22, rfl⟩
instance : Und Try.prog 23 (Go.TypeDesc.slice 4) := ⟨Try.runUnderlying23⟩
instance : IsAgg Try.prog 23 false := ⟨Try.isAgg23⟩
instance : TySize Try.prog 23 1 := ⟨Try.sizeOf23⟩
instance : TyBytes Try.prog 23 24 := ⟨_, Try.typeInfo23, rfl⟩
instance : Zero Try.prog 23 [(Go.Value.slice none 0 0)] := ⟨_, Try.zeroValue23, rfl⟩
instance : Und Try.prog 25 (Go.TypeDesc.struct #[(Go.Field.mk "States" 3 0 Bool.false "" "" 0), (Go.Field.mk "Controls" 3 1 Bool.false "" "" 8), (Go.Field.mk "Shocks" 3 2 Bool.false "" "" 16), (Go.Field.mk "Next" 22 3 Bool.false "" "" 24), (Go.Field.mk "Good" 23 4 Bool.false "" "" 48)]) := ⟨Try.runUnderlying25⟩
instance : IsAgg Try.prog 25 true := ⟨Try.isAgg25⟩
instance : TySize Try.prog 25 5 := ⟨Try.sizeOf25⟩
instance : TyBytes Try.prog 25 72 := ⟨_, Try.typeInfo25, rfl⟩
instance : Zero Try.prog 25 [(Go.Value.int Go.IntKind.i64 0), (Go.Value.int Go.IntKind.i64 0), (Go.Value.int Go.IntKind.i64 0), (Go.Value.slice none 0 0), (Go.Value.slice none 0 0)] := ⟨_, Try.zeroValue25, rfl⟩
instance : Fld Try.prog 25 0 0 := Fld.of (n := 1) ⟨Try.runUnderlying25⟩ rfl ⟨Try.sizeOf3⟩ (by decide) rfl
instance : Fld Try.prog 25 1 1 := Fld.of (n := 1) ⟨Try.runUnderlying25⟩ rfl ⟨Try.sizeOf3⟩ (by decide) rfl
instance : Fld Try.prog 25 2 2 := Fld.of (n := 1) ⟨Try.runUnderlying25⟩ rfl ⟨Try.sizeOf3⟩ (by decide) rfl
instance : Fld Try.prog 25 3 3 := Fld.of (n := 1) ⟨Try.runUnderlying25⟩ rfl ⟨Try.sizeOf22⟩ (by decide) rfl
instance : Fld Try.prog 25 4 4 := Fld.of (n := 1) ⟨Try.runUnderlying25⟩ rfl ⟨Try.sizeOf23⟩ (by decide) rfl
instance : Places Try.prog 25 (fun i => ([(0, 1), (1, 1), (2, 1), (3, 1), (4, 1)] : List (Nat × Nat))[i]?) := Places.struct ⟨Try.runUnderlying25⟩ (.c Try.sizeOf3 (.c Try.sizeOf3 (.c Try.sizeOf3 (.c Try.sizeOf22 (.c Try.sizeOf23 .n)))))
instance : Und Try.prog 28 (Go.TypeDesc.struct #[(Go.Field.mk "States" 3 0 Bool.false "" "" 0), (Go.Field.mk "Controls" 3 1 Bool.false "" "" 8), (Go.Field.mk "Shocks" 3 2 Bool.false "" "" 16), (Go.Field.mk "Next" 22 3 Bool.false "" "" 24), (Go.Field.mk "Good" 23 4 Bool.false "" "" 48)]) := ⟨Try.runUnderlying28⟩
instance : IsAgg Try.prog 28 true := ⟨Try.isAgg28⟩
instance : TySize Try.prog 28 5 := ⟨Try.sizeOf28⟩
instance : TyBytes Try.prog 28 72 := ⟨_, Try.typeInfo28, rfl⟩
instance : Zero Try.prog 28 [(Go.Value.int Go.IntKind.i64 0), (Go.Value.int Go.IntKind.i64 0), (Go.Value.int Go.IntKind.i64 0), (Go.Value.slice none 0 0), (Go.Value.slice none 0 0)] := ⟨_, Try.zeroValue28, rfl⟩
instance : Fld Try.prog 28 0 0 := Fld.of (n := 1) ⟨Try.runUnderlying28⟩ rfl ⟨Try.sizeOf3⟩ (by decide) rfl
instance : Fld Try.prog 28 1 1 := Fld.of (n := 1) ⟨Try.runUnderlying28⟩ rfl ⟨Try.sizeOf3⟩ (by decide) rfl
instance : Fld Try.prog 28 2 2 := Fld.of (n := 1) ⟨Try.runUnderlying28⟩ rfl ⟨Try.sizeOf3⟩ (by decide) rfl
instance : Fld Try.prog 28 3 3 := Fld.of (n := 1) ⟨Try.runUnderlying28⟩ rfl ⟨Try.sizeOf22⟩ (by decide) rfl
instance : Fld Try.prog 28 4 4 := Fld.of (n := 1) ⟨Try.runUnderlying28⟩ rfl ⟨Try.sizeOf23⟩ (by decide) rfl
instance : Places Try.prog 28 (fun i => ([(0, 1), (1, 1), (2, 1), (3, 1), (4, 1)] : List (Nat × Nat))[i]?) := Places.struct ⟨Try.runUnderlying28⟩ (.c Try.sizeOf3 (.c Try.sizeOf3 (.c Try.sizeOf3 (.c Try.sizeOf22 (.c Try.sizeOf23 .n)))))
instance : Und Try.prog 31 (Go.TypeDesc.int Go.IntKind.i64) := ⟨Try.runUnderlying31⟩
instance : IsAgg Try.prog 31 false := ⟨Try.isAgg31⟩
instance : TySize Try.prog 31 1 := ⟨Try.sizeOf31⟩
instance : TyBytes Try.prog 31 8 := ⟨_, Try.typeInfo31, rfl⟩
instance : Zero Try.prog 31 [(Go.Value.int Go.IntKind.i64 0)] := ⟨_, Try.zeroValue31, rfl⟩
instance : Und Try.prog 41 (Go.TypeDesc.slice 5) := ⟨Try.runUnderlying41⟩
instance : IsAgg Try.prog 41 false := ⟨Try.isAgg41⟩
instance : TySize Try.prog 41 1 := ⟨Try.sizeOf41⟩
instance : TyBytes Try.prog 41 24 := ⟨_, Try.typeInfo41, rfl⟩
instance : Zero Try.prog 41 [(Go.Value.slice none 0 0)] := ⟨_, Try.zeroValue41, rfl⟩
instance : Und Try.prog 44 (Go.TypeDesc.struct #[(Go.Field.mk "In" 23 0 Bool.false "" "" 0), (Go.Field.mk "Control" 22 1 Bool.false "" "" 24), (Go.Field.mk "Rank" 22 2 Bool.false "" "" 48)]) := ⟨Try.runUnderlying44⟩
instance : IsAgg Try.prog 44 true := ⟨Try.isAgg44⟩
instance : TySize Try.prog 44 3 := ⟨Try.sizeOf44⟩
instance : TyBytes Try.prog 44 72 := ⟨_, Try.typeInfo44, rfl⟩
instance : Zero Try.prog 44 [(Go.Value.slice none 0 0), (Go.Value.slice none 0 0), (Go.Value.slice none 0 0)] := ⟨_, Try.zeroValue44, rfl⟩
instance : Fld Try.prog 44 0 0 := Fld.of (n := 1) ⟨Try.runUnderlying44⟩ rfl ⟨Try.sizeOf23⟩ (by decide) rfl
instance : Fld Try.prog 44 1 1 := Fld.of (n := 1) ⟨Try.runUnderlying44⟩ rfl ⟨Try.sizeOf22⟩ (by decide) rfl
instance : Fld Try.prog 44 2 2 := Fld.of (n := 1) ⟨Try.runUnderlying44⟩ rfl ⟨Try.sizeOf22⟩ (by decide) rfl
instance : Places Try.prog 44 (fun i => ([(0, 1), (1, 1), (2, 1)] : List (Nat × Nat))[i]?) := Places.struct ⟨Try.runUnderlying44⟩ (.c Try.sizeOf23 (.c Try.sizeOf22 (.c Try.sizeOf22 .n)))
instance : Und Try.prog 48 (Go.TypeDesc.int Go.IntKind.u16) := ⟨Try.runUnderlying48⟩
instance : IsAgg Try.prog 48 false := ⟨Try.isAgg48⟩
instance : TySize Try.prog 48 1 := ⟨Try.sizeOf48⟩
instance : TyBytes Try.prog 48 2 := ⟨_, Try.typeInfo48, rfl⟩
instance : Zero Try.prog 48 [(Go.Value.int Go.IntKind.u16 0)] := ⟨_, Try.zeroValue48, rfl⟩
instance : Und Try.prog 54 (Go.TypeDesc.struct #[(Go.Field.mk "l" 41 0 Bool.false "" "switchgear/switchgearlaw08" 0), (Go.Field.mk "i" 3 1 Bool.false "" "switchgear/switchgearlaw08" 24)]) := ⟨Try.runUnderlying54⟩
instance : IsAgg Try.prog 54 true := ⟨Try.isAgg54⟩
instance : TySize Try.prog 54 2 := ⟨Try.sizeOf54⟩
instance : TyBytes Try.prog 54 32 := ⟨_, Try.typeInfo54, rfl⟩
instance : Zero Try.prog 54 [(Go.Value.slice none 0 0), (Go.Value.int Go.IntKind.i64 0)] := ⟨_, Try.zeroValue54, rfl⟩
instance : Fld Try.prog 54 0 0 := Fld.of (n := 1) ⟨Try.runUnderlying54⟩ rfl ⟨Try.sizeOf41⟩ (by decide) rfl
instance : Fld Try.prog 54 1 1 := Fld.of (n := 1) ⟨Try.runUnderlying54⟩ rfl ⟨Try.sizeOf3⟩ (by decide) rfl
instance : Places Try.prog 54 (fun i => ([(0, 1), (1, 1)] : List (Nat × Nat))[i]?) := Places.struct ⟨Try.runUnderlying54⟩ (.c Try.sizeOf41 (.c Try.sizeOf3 .n))
instance : Und Try.prog 57 (Go.TypeDesc.func #[3] #[3] Bool.false) := ⟨Try.runUnderlying57⟩
instance : IsAgg Try.prog 57 false := ⟨Try.isAgg57⟩
instance : TySize Try.prog 57 1 := ⟨Try.sizeOf57⟩
instance : TyBytes Try.prog 57 8 := ⟨_, Try.typeInfo57, rfl⟩
instance : Zero Try.prog 57 [Go.Value.nilFunc] := ⟨_, Try.zeroValue57, rfl⟩
instance : Und Try.prog 58 (Go.TypeDesc.slice 44) := ⟨Try.runUnderlying58⟩
instance : IsAgg Try.prog 58 false := ⟨Try.isAgg58⟩
instance : TySize Try.prog 58 1 := ⟨Try.sizeOf58⟩
instance : TyBytes Try.prog 58 24 := ⟨_, Try.typeInfo58, rfl⟩
instance : Zero Try.prog 58 [(Go.Value.slice none 0 0)] := ⟨_, Try.zeroValue58, rfl⟩
instance : Und Try.prog 62 (Go.TypeDesc.int Go.IntKind.u64) := ⟨Try.runUnderlying62⟩
instance : IsAgg Try.prog 62 false := ⟨Try.isAgg62⟩
instance : TySize Try.prog 62 1 := ⟨Try.sizeOf62⟩
instance : TyBytes Try.prog 62 8 := ⟨_, Try.typeInfo62, rfl⟩
instance : Zero Try.prog 62 [(Go.Value.int Go.IntKind.u64 0)] := ⟨_, Try.zeroValue62, rfl⟩
instance : Und Try.prog 63 (Go.TypeDesc.pointer 3) := ⟨Try.runUnderlying63⟩
instance : IsAgg Try.prog 63 false := ⟨Try.isAgg63⟩
instance : TySize Try.prog 63 1 := ⟨Try.sizeOf63⟩
instance : TyBytes Try.prog 63 8 := ⟨_, Try.typeInfo63, rfl⟩
instance : Zero Try.prog 63 [(Go.Value.pointer none)] := ⟨_, Try.zeroValue63, rfl⟩
instance : Und Try.prog 64 (Go.TypeDesc.slice 63) := ⟨Try.runUnderlying64⟩
instance : IsAgg Try.prog 64 false := ⟨Try.isAgg64⟩
instance : TySize Try.prog 64 1 := ⟨Try.sizeOf64⟩
instance : TyBytes Try.prog 64 24 := ⟨_, Try.typeInfo64, rfl⟩
instance : Zero Try.prog 64 [(Go.Value.slice none 0 0)] := ⟨_, Try.zeroValue64, rfl⟩
instance : Und Try.prog 71 (Go.TypeDesc.slice 122) := ⟨Try.runUnderlying71⟩
instance : IsAgg Try.prog 71 false := ⟨Try.isAgg71⟩
instance : TySize Try.prog 71 1 := ⟨Try.sizeOf71⟩
instance : TyBytes Try.prog 71 24 := ⟨_, Try.typeInfo71, rfl⟩
instance : Zero Try.prog 71 [(Go.Value.slice none 0 0)] := ⟨_, Try.zeroValue71, rfl⟩
instance : Und Try.prog 72 (Go.TypeDesc.slice 116) := ⟨Try.runUnderlying72⟩
instance : IsAgg Try.prog 72 false := ⟨Try.isAgg72⟩
instance : TySize Try.prog 72 1 := ⟨Try.sizeOf72⟩
instance : TyBytes Try.prog 72 24 := ⟨_, Try.typeInfo72, rfl⟩
instance : Zero Try.prog 72 [(Go.Value.slice none 0 0)] := ⟨_, Try.zeroValue72, rfl⟩
instance : Und Try.prog 73 (Go.TypeDesc.slice 118) := ⟨Try.runUnderlying73⟩
instance : IsAgg Try.prog 73 false := ⟨Try.isAgg73⟩
instance : TySize Try.prog 73 1 := ⟨Try.sizeOf73⟩
instance : TyBytes Try.prog 73 24 := ⟨_, Try.typeInfo73, rfl⟩
instance : Zero Try.prog 73 [(Go.Value.slice none 0 0)] := ⟨_, Try.zeroValue73, rfl⟩
instance : Und Try.prog 74 (Go.TypeDesc.slice 120) := ⟨Try.runUnderlying74⟩
instance : IsAgg Try.prog 74 false := ⟨Try.isAgg74⟩
instance : TySize Try.prog 74 1 := ⟨Try.sizeOf74⟩
instance : TyBytes Try.prog 74 24 := ⟨_, Try.typeInfo74, rfl⟩
instance : Zero Try.prog 74 [(Go.Value.slice none 0 0)] := ⟨_, Try.zeroValue74, rfl⟩
instance : Und Try.prog 76 (Go.TypeDesc.struct #[(Go.Field.mk "Rooms" 71 0 Bool.false "" "" 0), (Go.Field.mk "Walls" 72 1 Bool.false "" "" 24), (Go.Field.mk "Branches" 73 2 Bool.false "" "" 48), (Go.Field.mk "Coolers" 74 3 Bool.false "" "" 72)]) := ⟨Try.runUnderlying76⟩
instance : IsAgg Try.prog 76 true := ⟨Try.isAgg76⟩
instance : TySize Try.prog 76 4 := ⟨Try.sizeOf76⟩
instance : TyBytes Try.prog 76 96 := ⟨_, Try.typeInfo76, rfl⟩
instance : Zero Try.prog 76 [(Go.Value.slice none 0 0), (Go.Value.slice none 0 0), (Go.Value.slice none 0 0), (Go.Value.slice none 0 0)] := ⟨_, Try.zeroValue76, rfl⟩
instance : Fld Try.prog 76 0 0 := Fld.of (n := 1) ⟨Try.runUnderlying76⟩ rfl ⟨Try.sizeOf71⟩ (by decide) rfl
instance : Fld Try.prog 76 1 1 := Fld.of (n := 1) ⟨Try.runUnderlying76⟩ rfl ⟨Try.sizeOf72⟩ (by decide) rfl
instance : Fld Try.prog 76 2 2 := Fld.of (n := 1) ⟨Try.runUnderlying76⟩ rfl ⟨Try.sizeOf73⟩ (by decide) rfl
instance : Fld Try.prog 76 3 3 := Fld.of (n := 1) ⟨Try.runUnderlying76⟩ rfl ⟨Try.sizeOf74⟩ (by decide) rfl
instance : Places Try.prog 76 (fun i => ([(0, 1), (1, 1), (2, 1), (3, 1)] : List (Nat × Nat))[i]?) := Places.struct ⟨Try.runUnderlying76⟩ (.c Try.sizeOf71 (.c Try.sizeOf72 (.c Try.sizeOf73 (.c Try.sizeOf74 .n))))
instance : Und Try.prog 80 (Go.TypeDesc.struct #[(Go.Field.mk "Load" 22 0 Bool.false "" "" 0), (Go.Field.mk "Out" 3 1 Bool.false "" "" 24), (Go.Field.mk "Pump" 3 2 Bool.false "" "" 32)]) := ⟨Try.runUnderlying80⟩
instance : IsAgg Try.prog 80 true := ⟨Try.isAgg80⟩
instance : TySize Try.prog 80 3 := ⟨Try.sizeOf80⟩
instance : TyBytes Try.prog 80 40 := ⟨_, Try.typeInfo80, rfl⟩
instance : Zero Try.prog 80 [(Go.Value.slice none 0 0), (Go.Value.int Go.IntKind.i64 0), (Go.Value.int Go.IntKind.i64 0)] := ⟨_, Try.zeroValue80, rfl⟩
instance : Fld Try.prog 80 0 0 := Fld.of (n := 1) ⟨Try.runUnderlying80⟩ rfl ⟨Try.sizeOf22⟩ (by decide) rfl
instance : Fld Try.prog 80 1 1 := Fld.of (n := 1) ⟨Try.runUnderlying80⟩ rfl ⟨Try.sizeOf3⟩ (by decide) rfl
instance : Fld Try.prog 80 2 2 := Fld.of (n := 1) ⟨Try.runUnderlying80⟩ rfl ⟨Try.sizeOf3⟩ (by decide) rfl
instance : Places Try.prog 80 (fun i => ([(0, 1), (1, 1), (2, 1)] : List (Nat × Nat))[i]?) := Places.struct ⟨Try.runUnderlying80⟩ (.c Try.sizeOf22 (.c Try.sizeOf3 (.c Try.sizeOf3 .n)))
instance : Und Try.prog 83 (Go.TypeDesc.struct #[(Go.Field.mk "Low" 80 0 Bool.false "" "" 0), (Go.Field.mk "High" 80 3 Bool.false "" "" 40)]) := ⟨Try.runUnderlying83⟩
instance : IsAgg Try.prog 83 true := ⟨Try.isAgg83⟩
instance : TySize Try.prog 83 6 := ⟨Try.sizeOf83⟩
instance : TyBytes Try.prog 83 80 := ⟨_, Try.typeInfo83, rfl⟩
instance : Zero Try.prog 83 [(Go.Value.slice none 0 0), (Go.Value.int Go.IntKind.i64 0), (Go.Value.int Go.IntKind.i64 0), (Go.Value.slice none 0 0), (Go.Value.int Go.IntKind.i64 0), (Go.Value.int Go.IntKind.i64 0)] := ⟨_, Try.zeroValue83, rfl⟩
instance : Fld Try.prog 83 0 0 := Fld.of (n := 3) ⟨Try.runUnderlying83⟩ rfl ⟨Try.sizeOf80⟩ (by decide) rfl
instance : Fld Try.prog 83 1 3 := Fld.of (n := 3) ⟨Try.runUnderlying83⟩ rfl ⟨Try.sizeOf80⟩ (by decide) rfl
instance : Places Try.prog 83 (fun i => ([(0, 3), (3, 3)] : List (Nat × Nat))[i]?) := Places.struct ⟨Try.runUnderlying83⟩ (.c Try.sizeOf80 (.c Try.sizeOf80 .n))
instance : Und Try.prog 90 (Go.TypeDesc.slice 25) := ⟨Try.runUnderlying90⟩
instance : IsAgg Try.prog 90 false := ⟨Try.isAgg90⟩
instance : TySize Try.prog 90 1 := ⟨Try.sizeOf90⟩
instance : TyBytes Try.prog 90 24 := ⟨_, Try.typeInfo90, rfl⟩
instance : Zero Try.prog 90 [(Go.Value.slice none 0 0)] := ⟨_, Try.zeroValue90, rfl⟩
instance : Und Try.prog 99 (Go.TypeDesc.func #[25, 3, 3] #[4] Bool.false) := ⟨Try.runUnderlying99⟩
instance : IsAgg Try.prog 99 false := ⟨Try.isAgg99⟩
instance : TySize Try.prog 99 1 := ⟨Try.sizeOf99⟩
instance : TyBytes Try.prog 99 8 := ⟨_, Try.typeInfo99, rfl⟩
instance : Zero Try.prog 99 [Go.Value.nilFunc] := ⟨_, Try.zeroValue99, rfl⟩
instance : Und Try.prog 101 (Go.TypeDesc.struct #[(Go.Field.mk "In" 23 0 Bool.false "" "" 0), (Go.Field.mk "Control" 22 1 Bool.false "" "" 24), (Go.Field.mk "Rank" 22 2 Bool.false "" "" 48)]) := ⟨Try.runUnderlying101⟩
instance : IsAgg Try.prog 101 true := ⟨Try.isAgg101⟩
instance : TySize Try.prog 101 3 := ⟨Try.sizeOf101⟩
instance : TyBytes Try.prog 101 72 := ⟨_, Try.typeInfo101, rfl⟩
instance : Zero Try.prog 101 [(Go.Value.slice none 0 0), (Go.Value.slice none 0 0), (Go.Value.slice none 0 0)] := ⟨_, Try.zeroValue101, rfl⟩
instance : Fld Try.prog 101 0 0 := Fld.of (n := 1) ⟨Try.runUnderlying101⟩ rfl ⟨Try.sizeOf23⟩ (by decide) rfl
instance : Fld Try.prog 101 1 1 := Fld.of (n := 1) ⟨Try.runUnderlying101⟩ rfl ⟨Try.sizeOf22⟩ (by decide) rfl
instance : Fld Try.prog 101 2 2 := Fld.of (n := 1) ⟨Try.runUnderlying101⟩ rfl ⟨Try.sizeOf22⟩ (by decide) rfl
instance : Places Try.prog 101 (fun i => ([(0, 1), (1, 1), (2, 1)] : List (Nat × Nat))[i]?) := Places.struct ⟨Try.runUnderlying101⟩ (.c Try.sizeOf23 (.c Try.sizeOf22 (.c Try.sizeOf22 .n)))
instance : Und Try.prog 114 (Go.TypeDesc.struct #[(Go.Field.mk "l" 41 0 Bool.false "" "switchgear/switchgearlaw07" 0), (Go.Field.mk "i" 3 1 Bool.false "" "switchgear/switchgearlaw07" 24)]) := ⟨Try.runUnderlying114⟩
instance : IsAgg Try.prog 114 true := ⟨Try.isAgg114⟩
instance : TySize Try.prog 114 2 := ⟨Try.sizeOf114⟩
instance : TyBytes Try.prog 114 32 := ⟨_, Try.typeInfo114, rfl⟩
instance : Zero Try.prog 114 [(Go.Value.slice none 0 0), (Go.Value.int Go.IntKind.i64 0)] := ⟨_, Try.zeroValue114, rfl⟩
instance : Fld Try.prog 114 0 0 := Fld.of (n := 1) ⟨Try.runUnderlying114⟩ rfl ⟨Try.sizeOf41⟩ (by decide) rfl
instance : Fld Try.prog 114 1 1 := Fld.of (n := 1) ⟨Try.runUnderlying114⟩ rfl ⟨Try.sizeOf3⟩ (by decide) rfl
instance : Places Try.prog 114 (fun i => ([(0, 1), (1, 1)] : List (Nat × Nat))[i]?) := Places.struct ⟨Try.runUnderlying114⟩ (.c Try.sizeOf41 (.c Try.sizeOf3 .n))
instance : Und Try.prog 116 (Go.TypeDesc.struct #[(Go.Field.mk "A" 3 0 Bool.false "" "" 0), (Go.Field.mk "B" 3 1 Bool.false "" "" 8), (Go.Field.mk "Pass" 3 2 Bool.false "" "" 16)]) := ⟨Try.runUnderlying116⟩
instance : IsAgg Try.prog 116 true := ⟨Try.isAgg116⟩
instance : TySize Try.prog 116 3 := ⟨Try.sizeOf116⟩
instance : TyBytes Try.prog 116 24 := ⟨_, Try.typeInfo116, rfl⟩
instance : Zero Try.prog 116 [(Go.Value.int Go.IntKind.i64 0), (Go.Value.int Go.IntKind.i64 0), (Go.Value.int Go.IntKind.i64 0)] := ⟨_, Try.zeroValue116, rfl⟩
instance : Fld Try.prog 116 0 0 := Fld.of (n := 1) ⟨Try.runUnderlying116⟩ rfl ⟨Try.sizeOf3⟩ (by decide) rfl
instance : Fld Try.prog 116 1 1 := Fld.of (n := 1) ⟨Try.runUnderlying116⟩ rfl ⟨Try.sizeOf3⟩ (by decide) rfl
instance : Fld Try.prog 116 2 2 := Fld.of (n := 1) ⟨Try.runUnderlying116⟩ rfl ⟨Try.sizeOf3⟩ (by decide) rfl
instance : Places Try.prog 116 (fun i => ([(0, 1), (1, 1), (2, 1)] : List (Nat × Nat))[i]?) := Places.struct ⟨Try.runUnderlying116⟩ (.c Try.sizeOf3 (.c Try.sizeOf3 (.c Try.sizeOf3 .n)))
instance : Und Try.prog 118 (Go.TypeDesc.struct #[(Go.Field.mk "Up" 3 0 Bool.false "" "" 0), (Go.Field.mk "Open" 3 1 Bool.false "" "" 8), (Go.Field.mk "Leak" 3 2 Bool.false "" "" 16)]) := ⟨Try.runUnderlying118⟩
instance : IsAgg Try.prog 118 true := ⟨Try.isAgg118⟩
instance : TySize Try.prog 118 3 := ⟨Try.sizeOf118⟩
instance : TyBytes Try.prog 118 24 := ⟨_, Try.typeInfo118, rfl⟩
instance : Zero Try.prog 118 [(Go.Value.int Go.IntKind.i64 0), (Go.Value.int Go.IntKind.i64 0), (Go.Value.int Go.IntKind.i64 0)] := ⟨_, Try.zeroValue118, rfl⟩
instance : Fld Try.prog 118 0 0 := Fld.of (n := 1) ⟨Try.runUnderlying118⟩ rfl ⟨Try.sizeOf3⟩ (by decide) rfl
instance : Fld Try.prog 118 1 1 := Fld.of (n := 1) ⟨Try.runUnderlying118⟩ rfl ⟨Try.sizeOf3⟩ (by decide) rfl
instance : Fld Try.prog 118 2 2 := Fld.of (n := 1) ⟨Try.runUnderlying118⟩ rfl ⟨Try.sizeOf3⟩ (by decide) rfl
instance : Places Try.prog 118 (fun i => ([(0, 1), (1, 1), (2, 1)] : List (Nat × Nat))[i]?) := Places.struct ⟨Try.runUnderlying118⟩ (.c Try.sizeOf3 (.c Try.sizeOf3 (.c Try.sizeOf3 .n)))
instance : Und Try.prog 120 (Go.TypeDesc.struct #[(Go.Field.mk "Room" 3 0 Bool.false "" "" 0), (Go.Field.mk "Branch" 3 1 Bool.false "" "" 8), (Go.Field.mk "Gain" 3 2 Bool.false "" "" 16), (Go.Field.mk "Carry" 3 3 Bool.false "" "" 24), (Go.Field.mk "Supply" 3 4 Bool.false "" "" 32)]) := ⟨Try.runUnderlying120⟩
instance : IsAgg Try.prog 120 true := ⟨Try.isAgg120⟩
instance : TySize Try.prog 120 5 := ⟨Try.sizeOf120⟩
instance : TyBytes Try.prog 120 40 := ⟨_, Try.typeInfo120, rfl⟩
instance : Zero Try.prog 120 [(Go.Value.int Go.IntKind.i64 0), (Go.Value.int Go.IntKind.i64 0), (Go.Value.int Go.IntKind.i64 0), (Go.Value.int Go.IntKind.i64 0), (Go.Value.int Go.IntKind.i64 0)] := ⟨_, Try.zeroValue120, rfl⟩
instance : Fld Try.prog 120 0 0 := Fld.of (n := 1) ⟨Try.runUnderlying120⟩ rfl ⟨Try.sizeOf3⟩ (by decide) rfl
instance : Fld Try.prog 120 1 1 := Fld.of (n := 1) ⟨Try.runUnderlying120⟩ rfl ⟨Try.sizeOf3⟩ (by decide) rfl
instance : Fld Try.prog 120 2 2 := Fld.of (n := 1) ⟨Try.runUnderlying120⟩ rfl ⟨Try.sizeOf3⟩ (by decide) rfl
instance : Fld Try.prog 120 3 3 := Fld.of (n := 1) ⟨Try.runUnderlying120⟩ rfl ⟨Try.sizeOf3⟩ (by decide) rfl
instance : Fld Try.prog 120 4 4 := Fld.of (n := 1) ⟨Try.runUnderlying120⟩ rfl ⟨Try.sizeOf3⟩ (by decide) rfl
instance : Places Try.prog 120 (fun i => ([(0, 1), (1, 1), (2, 1), (3, 1), (4, 1)] : List (Nat × Nat))[i]?) := Places.struct ⟨Try.runUnderlying120⟩ (.c Try.sizeOf3 (.c Try.sizeOf3 (.c Try.sizeOf3 (.c Try.sizeOf3 (.c Try.sizeOf3 .n)))))
instance : Und Try.prog 122 (Go.TypeDesc.struct #[(Go.Field.mk "Store" 3 0 Bool.false "" "" 0), (Go.Field.mk "Limit" 3 1 Bool.false "" "" 8)]) := ⟨Try.runUnderlying122⟩
instance : IsAgg Try.prog 122 true := ⟨Try.isAgg122⟩
instance : TySize Try.prog 122 2 := ⟨Try.sizeOf122⟩
instance : TyBytes Try.prog 122 16 := ⟨_, Try.typeInfo122, rfl⟩
instance : Zero Try.prog 122 [(Go.Value.int Go.IntKind.i64 0), (Go.Value.int Go.IntKind.i64 0)] := ⟨_, Try.zeroValue122, rfl⟩
instance : Fld Try.prog 122 0 0 := Fld.of (n := 1) ⟨Try.runUnderlying122⟩ rfl ⟨Try.sizeOf3⟩ (by decide) rfl
instance : Fld Try.prog 122 1 1 := Fld.of (n := 1) ⟨Try.runUnderlying122⟩ rfl ⟨Try.sizeOf3⟩ (by decide) rfl
instance : Places Try.prog 122 (fun i => ([(0, 1), (1, 1)] : List (Nat × Nat))[i]?) := Places.struct ⟨Try.runUnderlying122⟩ (.c Try.sizeOf3 (.c Try.sizeOf3 .n))
instance : Und Try.prog 123 (Go.TypeDesc.slice 22) := ⟨Try.runUnderlying123⟩
instance : IsAgg Try.prog 123 false := ⟨Try.isAgg123⟩
instance : TySize Try.prog 123 1 := ⟨Try.sizeOf123⟩
instance : TyBytes Try.prog 123 24 := ⟨_, Try.typeInfo123, rfl⟩
instance : Zero Try.prog 123 [(Go.Value.slice none 0 0)] := ⟨_, Try.zeroValue123, rfl⟩
instance : Und Try.prog 145 (Go.TypeDesc.func #[3] #[80] Bool.false) := ⟨Try.runUnderlying145⟩
instance : IsAgg Try.prog 145 false := ⟨Try.isAgg145⟩
instance : TySize Try.prog 145 1 := ⟨Try.sizeOf145⟩
instance : TyBytes Try.prog 145 8 := ⟨_, Try.typeInfo145, rfl⟩
instance : Zero Try.prog 145 [Go.Value.nilFunc] := ⟨_, Try.zeroValue145, rfl⟩
instance : Und Try.prog 154 (Go.TypeDesc.array 3 57) := ⟨Try.runUnderlying154⟩
instance : IsAgg Try.prog 154 true := ⟨Try.isAgg154⟩
instance : TySize Try.prog 154 3 := ⟨Try.sizeOf154⟩
instance : TyBytes Try.prog 154 24 := ⟨_, Try.typeInfo154, rfl⟩
instance : Zero Try.prog 154 [Go.Value.nilFunc, Go.Value.nilFunc, Go.Value.nilFunc] := ⟨_, Try.zeroValue154, rfl⟩
instance : Places Try.prog 154 (fun i => some (i * 1, 1)) := Places.array ⟨Try.runUnderlying154⟩ ⟨Try.sizeOf57⟩
instance : Und Try.prog 160 (Go.TypeDesc.slice 31) := ⟨Try.runUnderlying160⟩
instance : IsAgg Try.prog 160 false := ⟨Try.isAgg160⟩
instance : TySize Try.prog 160 1 := ⟨Try.sizeOf160⟩
instance : TyBytes Try.prog 160 24 := ⟨_, Try.typeInfo160, rfl⟩
instance : Zero Try.prog 160 [(Go.Value.slice none 0 0)] := ⟨_, Try.zeroValue160, rfl⟩
instance : Und Try.prog 162 (Go.TypeDesc.slice 80) := ⟨Try.runUnderlying162⟩
instance : IsAgg Try.prog 162 false := ⟨Try.isAgg162⟩
instance : TySize Try.prog 162 1 := ⟨Try.sizeOf162⟩
instance : TyBytes Try.prog 162 24 := ⟨_, Try.typeInfo162, rfl⟩
instance : Zero Try.prog 162 [(Go.Value.slice none 0 0)] := ⟨_, Try.zeroValue162, rfl⟩
instance : Und Try.prog 165 (Go.TypeDesc.struct #[(Go.Field.mk "Hall" 76 0 Bool.true "" "" 0), (Go.Field.mk "Case" 80 4 Bool.true "" "" 96), (Go.Field.mk "t" 22 7 Bool.false "" "switchgear/heat" 136), (Go.Field.mk "taken" 22 8 Bool.false "" "switchgear/heat" 160)]) := ⟨Try.runUnderlying165⟩
instance : IsAgg Try.prog 165 true := ⟨Try.isAgg165⟩
instance : TySize Try.prog 165 9 := ⟨Try.sizeOf165⟩
instance : TyBytes Try.prog 165 184 := ⟨_, Try.typeInfo165, rfl⟩
instance : Zero Try.prog 165 [(Go.Value.slice none 0 0), (Go.Value.slice none 0 0), (Go.Value.slice none 0 0), (Go.Value.slice none 0 0), (Go.Value.slice none 0 0), (Go.Value.int Go.IntKind.i64 0), (Go.Value.int Go.IntKind.i64 0), (Go.Value.slice none 0 0), (Go.Value.slice none 0 0)] := ⟨_, Try.zeroValue165, rfl⟩
instance : Fld Try.prog 165 0 0 := Fld.of (n := 4) ⟨Try.runUnderlying165⟩ rfl ⟨Try.sizeOf76⟩ (by decide) rfl
instance : Fld Try.prog 165 1 4 := Fld.of (n := 3) ⟨Try.runUnderlying165⟩ rfl ⟨Try.sizeOf80⟩ (by decide) rfl
instance : Fld Try.prog 165 2 7 := Fld.of (n := 1) ⟨Try.runUnderlying165⟩ rfl ⟨Try.sizeOf22⟩ (by decide) rfl
instance : Fld Try.prog 165 3 8 := Fld.of (n := 1) ⟨Try.runUnderlying165⟩ rfl ⟨Try.sizeOf22⟩ (by decide) rfl
instance : Places Try.prog 165 (fun i => ([(0, 4), (4, 3), (7, 1), (8, 1)] : List (Nat × Nat))[i]?) := Places.struct ⟨Try.runUnderlying165⟩ (.c Try.sizeOf76 (.c Try.sizeOf80 (.c Try.sizeOf22 (.c Try.sizeOf22 .n))))
instance : Und Try.prog 167 (Go.TypeDesc.int Go.IntKind.u32) := ⟨Try.runUnderlying167⟩
instance : IsAgg Try.prog 167 false := ⟨Try.isAgg167⟩
instance : TySize Try.prog 167 1 := ⟨Try.sizeOf167⟩
instance : TyBytes Try.prog 167 4 := ⟨_, Try.typeInfo167, rfl⟩
instance : Zero Try.prog 167 [(Go.Value.int Go.IntKind.u32 0)] := ⟨_, Try.zeroValue167, rfl⟩
instance : Und Try.prog 170 (Go.TypeDesc.int Go.IntKind.u64) := ⟨Try.runUnderlying170⟩
instance : IsAgg Try.prog 170 false := ⟨Try.isAgg170⟩
instance : TySize Try.prog 170 1 := ⟨Try.sizeOf170⟩
instance : TyBytes Try.prog 170 8 := ⟨_, Try.typeInfo170, rfl⟩
instance : Zero Try.prog 170 [(Go.Value.int Go.IntKind.u64 0)] := ⟨_, Try.zeroValue170, rfl⟩
instance : Und Try.prog 176 (Go.TypeDesc.func #[3, 3] #[] Bool.false) := ⟨Try.runUnderlying176⟩
instance : IsAgg Try.prog 176 false := ⟨Try.isAgg176⟩
instance : TySize Try.prog 176 1 := ⟨Try.sizeOf176⟩
instance : TyBytes Try.prog 176 8 := ⟨_, Try.typeInfo176, rfl⟩
instance : Zero Try.prog 176 [Go.Value.nilFunc] := ⟨_, Try.zeroValue176, rfl⟩
theorem _root_.Go.Proofs.Try.mixed : Try.prog.follows .mixedOrders = true := by kernel_rfl
end Go.X

set_option linter.unusedSimpArgs false
set_option linter.unusedVariables false
namespace Go.X
open Go.Proofs
theorem mul64_one (n : Nat) (h : n ≤ 4294967295) : Spec Try.prog 102 #[.int .u64 1, .int .u64 (n : Nat)] [] [] (fun v hs => v = .tuple #[.int .u64 0, .int .u64 (n : Nat)] ∧ hs = []) := by
  have h1 : (1 : Int) % 4294967296 = 1 := by decide
  have h2 : (1 : Int) / 4294967296 = 0 := by decide
  have h3 : (n : Int) % 4294967296 = n := by omega
  have h4 : (n : Int) / 4294967296 = 0 := by omega
  have h5 : (0 : Int) % 4294967296 = 0 := by decide
  have h6 : (0 : Int) / 4294967296 = 0 := by decide
  refine Spec.intro (fn := Try.f102) (N := 51) Try.func102 rfl Try.ntmps102 rfl fun B => ?_
  refine XK.seq ?_
  refine XK.region rfl ?_
  refine XO.q (Q.assign rfl) ?_
  refine XO.q (Q.assign rfl) ?_
  refine XO.done ?_
  refine XK.seq ?_
  refine XK.region rfl ?_
  refine XO.q (Q.move rfl) ?_
  refine XO.q (Q.mask32 rfl rfl (by omega)) ?_
  rw [h1]
  refine XO.q (Q.assign rfl) ?_
  refine XO.done ?_
  refine XK.seq ?_
  refine XK.region rfl ?_
  refine XO.q (Q.move rfl) ?_
  refine XO.q (Q.shr32 rfl rfl) ?_
  rw [h2]
  refine XO.q (Q.assign rfl) ?_
  refine XO.done ?_
  refine XK.seq ?_
  refine XK.region rfl ?_
  refine XO.q (Q.move rfl) ?_
  refine XO.q (Q.mask32 rfl rfl (by omega)) ?_
  rw [h3]
  refine XO.q (Q.assign rfl) ?_
  refine XO.done ?_
  refine XK.seq ?_
  refine XK.region rfl ?_
  refine XO.q (Q.move rfl) ?_
  refine XO.q (Q.shr32 rfl rfl) ?_
  rw [h4]
  refine XO.q (Q.assign rfl) ?_
  refine XO.done ?_
  refine XK.seq ?_
  refine XK.region rfl ?_
  refine XO.q (Q.move rfl) ?_
  refine XO.q (Q.move rfl) ?_
  refine XO.q (Q.mulU rfl rfl (by omega)) ?_
  rw [Int.one_mul]
  refine XO.q (Q.assign rfl) ?_
  refine XO.done ?_
  refine XK.seq ?_
  refine XK.region rfl ?_
  refine XO.q (Q.move rfl) ?_
  refine XO.q (Q.move rfl) ?_
  refine XO.q (Q.mulU rfl rfl (by omega)) ?_
  rw [Int.zero_mul]
  refine XO.q (Q.move rfl) ?_
  refine XO.q (Q.shr32 rfl rfl) ?_
  rw [h4]
  refine XO.q (Q.addU rfl rfl (by omega)) ?_
  rw [Int.add_zero]
  refine XO.q (Q.assign rfl) ?_
  refine XO.done ?_
  refine XK.seq ?_
  refine XK.region rfl ?_
  refine XO.q (Q.move rfl) ?_
  refine XO.q (Q.mask32 rfl rfl (by omega)) ?_
  rw [h5]
  refine XO.q (Q.assign rfl) ?_
  refine XO.done ?_
  refine XK.seq ?_
  refine XK.region rfl ?_
  refine XO.q (Q.move rfl) ?_
  refine XO.q (Q.shr32 rfl rfl) ?_
  rw [h6]
  refine XO.q (Q.assign rfl) ?_
  refine XO.done ?_
  refine XK.seq ?_
  refine XK.region rfl ?_
  refine XO.q (Q.move rfl) ?_
  refine XO.q (Q.move rfl) ?_
  refine XO.q (Q.move rfl) ?_
  refine XO.q (Q.mulU rfl rfl (by omega)) ?_
  rw [Int.mul_zero]
  refine XO.q (Q.addU rfl rfl (by omega)) ?_
  rw [Int.add_zero]
  refine XO.q (Q.assign rfl) ?_
  refine XO.done ?_
  refine XK.seq ?_
  refine XK.region rfl ?_
  refine XO.q (Q.move rfl) ?_
  refine XO.q (Q.move rfl) ?_
  refine XO.q (Q.mulU rfl rfl (by omega)) ?_
  rw [Int.mul_zero]
  refine XO.q (Q.move rfl) ?_
  refine XO.q (Q.addU rfl rfl (by omega)) ?_
  rw [Int.add_zero]
  refine XO.q (Q.move rfl) ?_
  refine XO.q (Q.shr32 rfl rfl) ?_
  rw [h6]
  refine XO.q (Q.addU rfl rfl (by omega)) ?_
  rw [Int.add_zero]
  refine XO.q (Q.assign rfl) ?_
  refine XO.done ?_
  refine XK.seq ?_
  refine XK.region rfl ?_
  refine XO.q (Q.move rfl) ?_
  refine XO.q (Q.move rfl) ?_
  refine XO.q (Q.mulU rfl rfl (by omega)) ?_
  rw [Int.one_mul]
  refine XO.q (Q.assign rfl) ?_
  refine XO.done ?_
  refine XK.rt [] Try.func102 Try.results102 (.t rfl (.t rfl .n)) ?_
  exact ⟨rfl, rfl⟩
theorem mul_one' (n : Nat) (h : n ≤ 4294967295) : Spec Try.prog 91 #[.int .u64 1, .int .u64 (n : Nat)] [] [] (fun v hs => v = .tuple #[.int .u64 0, .int .u64 (n : Nat)] ∧ hs = []) := by
  refine Spec.intro (fn := Try.f91) (N := 30) Try.func91 rfl Try.ntmps91 rfl fun B => ?_
  refine XK.seq ?_
  refine XK.region rfl ?_
  refine XO.q (Q.assign rfl) ?_
  refine XO.q (Q.assign rfl) ?_
  refine XO.done ?_
  refine XK.seq ?_
  refine XK.if rfl (fun c0 => ?_) (fun c0 => ?_)
  · have _t0 := True.intro
    exact c0.elim
  · have _t0 := True.intro
    refine XK.skip ?_
    refine XK.seq ?_
    refine XK.region rfl ?_
    refine XO.q (Q.move rfl) ?_
    refine XO.q (Q.move rfl) ?_
    refine XO.call Try.call102 rfl rfl rfl (mul64_one n h) fun v25 s25 R25 => ?_
    obtain ⟨rfl, rfl⟩ := R25
    dsimp only [List.cons_append, List.nil_append]
    refine XO.q (Q.move rfl) ?_
    refine XO.q (Q.extract rfl rfl) ?_
    refine XO.q (Q.extract rfl rfl) ?_
    refine XO.q (Q.assign rfl) ?_
    refine XO.q (Q.assign rfl) ?_
    refine XO.done ?_
    refine XK.seq ?_
    refine XK.region rfl ?_
    refine XO.q (Q.move rfl) ?_
    refine XO.q (Q.move rfl) ?_
    refine XO.q (Q.assign rfl) ?_
    refine XO.q (Q.assign rfl) ?_
    refine XO.done ?_
    refine XK.rt [] Try.func91 Try.results91 (.t rfl (.t rfl .n)) ?_
    exact ⟨rfl, rfl⟩
theorem repeatI (v : Value) (h : PHeap) (x : Int) [s : Arr v encI 1 h [x]] (n : Nat) (hn : n ≤ 4294967295) : Spec Try.prog 66 #[v, .int .i64 (n : Nat)] [] [h] (fun v' hs => ∃ h', hs = [h'] ∧ OArr v' encI 1 3 h' (List.replicate n x)) := by
  have hw1 : IntKind.u64.wrap ((([x] : List Int).length : Nat) : Int) = 1 := rfl
  have hw2 : IntKind.u64.wrap ((n : Nat) : Int) = n := wrapu64 (by omega)
  have hw3 : IntKind.i64.wrap ((n : Nat) : Int) = n := wrap64_of ⟨by omega, by omega⟩
  have hl1 : ([x] : List Int).length = 1 := rfl
  refine Spec.intro (fn := Try.f66) (N := 48) Try.func66 rfl Try.ntmps66 rfl fun B => ?_
  refine XK.seq ?_
  refine XK.region rfl ?_
  refine XO.q (Q.assign rfl) ?_
  refine XO.done ?_
  refine XK.seq ?_
  refine XK.seq ?_
  refine XK.region rfl ?_
  refine XO.q (Q.move rfl) ?_
  refine XO.q (Q.lss rfl rfl) ?_
  refine XO.done ?_
  refine XK.if rfl (fun c0 => ?_) (fun c0 => ?_)
  · have _t0 := True.intro
    exact absurd c0 (by omega)
  · have _t0 := True.intro
    refine XK.skip ?_
    refine XK.seq ?_
    refine XK.region rfl ?_
    refine XO.q (Q.move rfl) ?_
    refine XO.len rfl fun l14 => ?_
    refine XO.q (Q.conv rfl) ?_
    rw [hw1]
    refine XO.q (Q.move rfl) ?_
    refine XO.q (Q.conv rfl) ?_
    rw [hw2]
    refine XO.call Try.call91 rfl rfl rfl (mul_one' n hn) fun v18 s18 R18 => ?_
    obtain ⟨rfl, rfl⟩ := R18
    dsimp only [List.cons_append, List.nil_append]
    refine XO.q (Q.move rfl) ?_
    refine XO.q (Q.extract rfl rfl) ?_
    refine XO.q (Q.extract rfl rfl) ?_
    refine XO.q (Q.assign rfl) ?_
    refine XO.q (Q.assign rfl) ?_
    refine XO.done ?_
    refine XK.seq ?_
    refine XK.seq ?_
    refine XK.region rfl ?_
    refine XO.q (Q.move rfl) ?_
    refine XO.q (Q.gtr rfl rfl) ?_
    refine XO.q (Q.move rfl) ?_
    refine XO.q (Quiet.guardF rfl rfl fun g24 p24 => Q.move rfl) ?_
    refine XO.q (Quiet.guardF rfl rfl fun g25 p25 => Q.gtr (lzv g25 rfl) rfl) ?_
    refine XO.q (Q.or rfl (fun hp => lzv hp rfl)) ?_
    refine XO.done ?_
    refine XK.if rfl (fun c1 => ?_) (fun c1 => ?_)
    · have _t1 := True.intro
      exact absurd c1 (by omega)
    · have _t1 := True.intro
      refine XK.skip ?_
      refine XK.seq ?_
      refine XK.region rfl ?_
      refine XO.q (Q.move rfl) ?_
      refine XO.q (Q.conv rfl) ?_
      rw [hw3]
      refine XO.make encI (0) rfl rfl rfl (by omega) (by omega) (fun _ => rfl) rfl rfl rfl (by dsimp only [encI]; infer_instance) fun v30 h30 O30 => ?_
      refine XO.q (Q.assign rfl) ?_
      refine XO.done ?_
      refine XK.seq ?_
      refine XK.region rfl ?_
      refine XO.q (Q.move rfl) ?_
      refine XO.q (Q.move rfl) ?_
      refine XO.copy rfl (tailv_zero (s := O30)).symm rfl (by omega) fun h33 O33 => ?_
      rw [show min ([x] : List Int).length ((List.replicate n (0 : Int)).length - 0) = min 1 n by simp]
      refine XO.q (Q.assign rfl) ?_
      refine XO.done ?_
      refine XK.seq ?_
      refine XK.block ?_
      refine XK.while (X := Nat × PHeap) [8, 34, 35, 36, 37, 38, 39, 40, 41, 42, 43, 44, 45, 46] (fun ⟨m, hM⟩ => [(8, some (.int .i64 (m : Nat)))]) (fun ⟨m, hM⟩ => [hM]) (fun ⟨m, hM⟩ => m ≤ n ∧ (0 < n → 0 < m) ∧ OArr v30 encI 1 3 hM (List.replicate m x ++ List.replicate (n - m) 0)) (fun ⟨m, hM⟩ => n - m) (min 1 n, h33) [h33] rfl ⟨by omega, by omega, by have := O33; rw [repeat_first] at this; exact this⟩ (.c rfl (.base 0 rfl rfl)) ?_
      rintro ⟨m, hM⟩ ⟨hm, hm0, OM⟩ ih0
      dsimp only [List.cons_append, List.nil_append] at ih0 ⊢
      have hlm : (List.replicate m x ++ List.replicate (n - m) 0).length = n := by rw [List.length_append, List.length_replicate, List.length_replicate]; omega
      have hmm : min (((List.replicate m x ++ List.replicate (n - m) (0 : Int)).drop 0).take (m - 0)).length ((List.replicate m x ++ List.replicate (n - m) (0 : Int)).length - m) = min m (n - m) := by
        rw [hlm, List.drop_zero, List.length_take, hlm]; omega
      refine XK.seq ?_
      refine XK.seq ?_
      refine XK.region rfl ?_
      refine XO.q (Q.move rfl) ?_
      refine XO.q (Q.move rfl) ?_
      refine XO.len rfl fun l36 => ?_
      refine XO.q (Q.lss rfl rfl) ?_
      refine XO.done ?_
      refine XK.if rfl (fun c2 => ?_) (fun c2 => ?_)
      · have _t2 := True.intro
        refine XK.skip ?_
        refine XK.block ?_
        refine XK.drawn [0, 1, 2, 3, 4, 5, 6, 8, 9] [] [] (.q 0 (.q 1 (.q 2 (.q 3 (.q 4 (.q 5 (.q 6 (.br 7 true (.q 8 (.q 9 .done)) .stop)))))))) Try.mixed rfl (by kernel_rfl) ?_
        refine XT.q rfl rfl (Q.move rfl) ?_
        refine XT.q rfl rfl (Q.move rfl) ?_
        refine XT.q rfl rfl (Q.move rfl) ?_
        refine XT.q rfl rfl (Q.tail (i := m) rfl (.s rfl (by omega)) (by omega)) ?_
        refine XT.q rfl rfl (Q.move rfl) ?_
        refine XT.q rfl rfl (Q.move rfl) ?_
        refine XT.q rfl rfl (Q.cut (i := 0) (j := m) rfl .n (.s rfl (by omega)) (by omega) (by omega)) ?_
        have A44 := Arr.cut (v := v30) (i := 0) (j := m) inferInstance (by omega) (by omega)
        refine XT.copy rfl rfl rfl rfl rfl (by omega) (fun h45 O45 => ⟨inferInstance, ?_⟩) XT.stop
        rw [hmm]
        refine XT.q rfl rfl (Q.add rfl rfl ⟨by omega, by omega⟩) ?_
        rw [show ((m : Int) + ((min m (n - m) : Nat) : Int)) = ((m + min m (n - m) : Nat) : Int) from rfl]
        refine XT.q rfl rfl (Q.assign rfl) ?_
        refine XT.done ?_
        refine XK.inBlock ?_
        exact ih0 (m + min m (n - m), h45) _ _ ⟨by omega, by omega, by have := O45; rw [repeat_step x 0 hm] at this; exact this⟩ (by first | omega | (dsimp only; omega)) (.c rfl (.base 29 rfl rfl)) inferInstance
      · have _t2 := True.intro
        refine XK.exit rfl ?_
        refine XK.seq ?_
        refine XK.region rfl ?_
        refine XO.q (Q.move rfl) ?_
        refine XO.q (Q.assign rfl) ?_
        refine XO.done ?_
        refine XK.rt [hM] Try.func66 Try.results66 (.t rfl .n) ?_
        have hmn : m = n := by omega
        subst hmn
        exact ⟨hM, rfl, by simpa using OM⟩
end Go.X
