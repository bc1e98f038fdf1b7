/- A part of the proof: a small program logic, plain laws and contracts of functions, each proved by a walk through its operations. No condition but those that stand in each theorem. -/
import Derived.Test.YtmpbiclgfnjjeaaA1
import Derived.Carry
import Derived.Deep.Grids
import Derived.KernelRfl
import Derived.OpenShut
import Derived.ProofKit
import Derived.SizedLaws
import Derived.Test.YtmpbiclgfnjjeaaProg
/- Loops over functions: the rounds, the loop, an iterator's contract. No condition. -/
set_option linter.unusedSimpArgs false
set_option linter.unusedVariables false
namespace Go.X

/-! ### a round -/
def rdy (l : Nat) (rec : Loop) : PHeap := sing l (.loop { rec with state := .ready, pending := none })
def bsy (l : Nat) (rec : Loop) : PHeap := sing l (.loop { rec with state := .busy, pending := none })
def ovr (l : Nat) (rec : Loop) (j : Option Code) : PHeap := sing l (.loop { rec with state := if j.isNone then .ready else .done, pending := j })
theorem ovr_none (l : Nat) (rec : Loop) : ovr l rec none = rdy l rec := rfl
def Leaves : Option Code → List Item → Prop
  | none, [] => True
  | some .ret, .code .ret :: _ => True
  | some (.exit id), .code (.exit id') :: k => id = id' ∧ exitTo id k = none
  | _, _ => False
/-- The frame of a round; at its end: the jump, the heaps. -/
abbrev rcx (P : Program) (f : FuncId) (N : Nat) (l : Nat) (rec : Loop) (B : PHeap) (R : Option Code → List PHeap → Prop) : Cx :=
  { P, f, rd := some l, N, B, E := fun fr w' => ∃ j k a ds hs, fr = mk f (some l) a (marks ds) k ∧ Leaves j k ∧ R j hs ∧ Sep (bsy l rec :: hs) [B] w' }
section
variable {P : Program} {f : FuncId} {N l : Nat} {rec : Loop} {B : PHeap} {R : Option Code → List PHeap → Prop} {k : List Item} {e : Env} {o o1 r : List PHeap}
theorem Sep.turn {b : Nat} {x y : Obj} {o r : List PHeap} {w : World} (s : Sep (sing b x :: o) r w) : Sep (sing b y :: o) r (w.putObj b y) ∧ w.heap[b]? = some x := by
  have hb : w.heap[b]? = some x := s.so _ List.mem_cons_self b x (sing_self b x)
  have hlt : b < w.heap.size := (Array.getElem?_eq_some_iff.1 hb).1
  refine ⟨s.swap (fun x' hx' => ?_) (fun x' ob hx' => ?_) (fun x' hx' => ?_) rfl rfl, hb⟩
  · unfold sing at *; dsimp only at hx' ⊢; split at hx'
    · cases hx'
    · simp [*]
  · obtain ⟨rfl, rfl⟩ := sing_some hx'
    exact World.putObj_heap_same hlt
  · refine World.putObj_heap_other ?_
    rintro rfl
    rw [sing_self] at hx'; cases hx'
theorem XK.beginRound [t : Take (rdy l rec) o o1] (h : XK (rcx P f N l rec B R) k e (bsy l rec :: o1) r) : XK (rcx P f N l rec B R) (.beginRound :: k) e o r := fun D ds a w cs ha he hD hm => by
  have hp : (D :: o).Perm (rdy l rec :: D :: o1) := (t.pf.cons D).trans (List.Perm.swap _ _ _)
  obtain ⟨h1, hb⟩ := Sep.turn (y := .loop { rec with state := .busy, pending := none }) (hm.perm hp)
  obtain ⟨fr, w', hE, st⟩ := h D ds a _ cs ha he hD (h1.perm (List.Perm.swap _ _ _))
  refine ⟨fr, w', hE, .head (step_lone_go ?_) st⟩
  have hr := run_beginRound (P := P) hb rfl
  simp [stepG, stepG.exec, stepG.apply, mk, Sem.runT_eq, hr, Result.andThen, Frame.finish]
theorem XK.leave {j : Option Code} (hs : List PHeap) [p : Wk o (bsy l rec :: hs)] (hj : Leaves j k) (hR : R j hs) : XK (rcx P f N l rec B R) k e o r := fun D ds a w cs ha he hD hm =>
  ⟨_, w, ⟨j, k, a, ds, hs, rfl, hj, hR, (p.sep hm.tail).reads (fun g hg => by simp at hg; subst hg; exact List.mem_cons_self)⟩, .refl _ _⟩
theorem step_leave {j : Option Code} {a : Array Value} {ds : List Deferred} {c0 : Frame} {cs : List Frame} {w w' : World} {v : Value} (hj : Leaves j k) (hr : (Instr.endRound l j).run P w = .ok v w') :
    step P (lone (mk f (some l) a ds k) (c0 :: cs) w) = .next (lone (c0.finish v) cs w') := by
  unfold Leaves at hj
  split at hj
  · exact step_lone_go (by simp [stepG, stepG.exec, mk, Sem.runT_eq, hr, doReturn])
  · exact step_lone_go (by simp [stepG, stepG.exec, mk, Sem.runT_eq, hr, doReturn])
  · obtain ⟨rfl, hx⟩ := hj
    exact step_lone_go (by simp [stepG, stepG.exec, mk, hx, Sem.runT_eq, hr, doReturn])
  · exact hj.elim
def pars : List Tmp → List Value → Env → Env
  | p :: ps, v :: vs, e => pars ps vs ((p, some v) :: e)
  | _, _, e => e
theorem pars_rel : ∀ (ps : List Tmp) (vs : List Value) (e : Env) (a : Array Value), (∀ p ∈ ps, p < a.size) → ERel e a →
    ERel (pars ps vs e) ((ps.zip vs).foldl (fun tmps (t, x) => tmps.setIfInBounds t x) a) ∧ ((ps.zip vs).foldl (fun tmps (t, x) => tmps.setIfInBounds t x) a).size = a.size
  | [], vs, e, a, _, he => by cases vs <;> exact ⟨he, rfl⟩
  | p :: ps, [], e, a, _, he => ⟨he, rfl⟩
  | p :: ps, v :: vs, e, a, hp, he => by
    have h1 : ERel ((p, some v) :: e) (a.setIfInBounds p v) := he.put (hp p List.mem_cons_self)
    obtain ⟨h2, h3⟩ := pars_rel ps vs _ (a.setIfInBounds p v) (fun q hq => by simp; exact hp q (List.mem_cons_of_mem _ hq)) h1
    exact ⟨h2, by rw [List.zip_cons_cons, List.foldl_cons]; rw [h3]; simp⟩
/-- A call of yield is a round. -/
theorem VSpec.round {Hr hs0 : List PHeap} {ps : List Tmp} {vs : List Value} {asn bd : Code} {L0 : Nat} {a : Array Value} (hrec : rec = { state := .ready, pending := none, fn := f, tmps := a, params := ps.toArray, assign := asn, body := bd, defers := L0 })
    (hN : a.size = N) (he : ERel e a) (hps : ∀ p ∈ ps, p < N) (hlen : vs.length = ps.length)
    (h : ∀ B, XK (rcx P f N l rec B R) [.code asn, .beginRound, .code bd] (pars ps vs e) (rdy l rec :: hs0) Hr) :
    VSpec P (.func (.yield l) #[] #[]) vs (rdy l rec :: hs0) Hr (fun v hs => ∃ j hs', v = .bool (Option.isNone j) ∧ hs = ovr l rec j :: hs' ∧ R j hs') := fun o r w hs hr => by
  have hb : w.heap[l]? = some (.loop { rec with state := .ready, pending := none }) := hs.so _ List.mem_cons_self l _ (sing_self _ _)
  have hrun : (callv (.func (.yield l) #[] #[]) vs.toArray).run P w =
      .ok (.round l f ((ps.zip vs).foldl (fun tmps (t, x) => tmps.setIfInBounds t x) a) asn bd) w := by
    unfold callv
    have e1 : (Deferred.ofValue (.func (.yield l) #[] #[]) vs.toArray).run P w = .ok { target := .fn (.yield l) #[], args := #[] ++ vs.toArray } w := rfl
    rw [bind_ok e1]
    simp only [invoke, Array.empty_append]
    rw [run_yield hb (by subst hrec; simp [hlen])]
    subst hrec
    simp [List.zip_toArray, List.foldl_toArray]
  unfold NDoes
  rw [hrun]
  intro c0 cs
  obtain ⟨hr1, hr2⟩ := pars_rel ps vs e a (fun p hp => hN ▸ hps p hp) he
  obtain ⟨fr, w', ⟨j, k, a', ds, hs', rfl, hj, hR, hS⟩, st⟩ := h (hole w (rdy l rec :: hs0)) emp [] _ w (c0 :: cs) (hr2.trans hN) hr1 ⟨List.nodup_nil, fun b => by simp [emp]⟩ (frame_in hs hr).empC
  obtain ⟨hS2, hb2⟩ := Sep.turn (y := .loop { rec with state := if j.isNone then .ready else .done, pending := j }) hS
  have hend := run_endRound (P := P) j hb2
  refine ⟨_, _, ⟨_, ⟨j, hs', rfl, rfl, hR⟩, frame_out hs hS2⟩, ?_⟩
  refine Steps.trans ?_ (.one (step_leave (f := f) (a := a') (ds := marks ds) (c0 := c0) (cs := cs) hj hend))
  exact st
end

/-! ### the loop -/
theorem NDoes.mono {P : Program} {s : Sem Next} {w : World} {Q R : Value → World → Prop} (h : NDoes P s w Q) (m : ∀ v w', Q v w' → R v w') : NDoes P s w R := by
  unfold NDoes at *
  split at h
  · exact h.mono fun e w'' ⟨v, he, hv⟩ => ⟨v, he, m _ _ hv⟩
  · exact fun c0 cs => let ⟨v, w', hv, hs⟩ := h c0 cs; ⟨v, w', m _ _ hv, hs⟩
  · exact h.elim
theorem VSpec.mono {P : Program} {y : Value} {vs : List Value} {Hm Hr : List PHeap} {R R' : Value → List PHeap → Prop} (h : VSpec P y vs Hm Hr R) (m : ∀ v hs, R v hs → R' v hs) : VSpec P y vs Hm Hr R' :=
  fun o r w hs hr => (h o r w hs hr).mono fun v _ ⟨hs', hR, hS⟩ => ⟨hs', m v hs' hR, hS⟩
theorem VSpec.joined {P : Program} {y : Value} {vs : List Value} {Hm Hr : List PHeap} {R : Value → List PHeap → Prop} (h : VSpec P y vs Hm Hr R) (hp : PD Hm) :
    VSpec P y vs [join Hm] Hr (fun v hs => ∃ hs', R v hs' ∧ PD hs' ∧ hs = [join hs']) := fun o r w hs hr =>
  (h o r w (Sep.split hp hs) hr).mono fun v _ ⟨hs', hR, hS⟩ => ⟨_, ⟨hs', hR, ⟨hS.left.pw, hS.left.no⟩, rfl⟩, hS.join⟩
/-- An iterator: it yields the items, one after the other, till a call of yield answers false. -/
def It (P : Program) (y : Value) (items : List (List Value)) (Hg : List PHeap) : Prop :=
  ∀ (f : Value) (Hr : List PHeap) (Q : Nat → PHeap → Prop) (X : PHeap → Prop),
    (∀ i, i < items.length → ∀ q, Q i q → VSpec P f (items.getD i []) [q] Hr (fun v hs => ∃ b q', v = .bool b ∧ hs = [q'] ∧ (b = true → Q (i + 1) q') ∧ (b = false → X q'))) →
    ∀ q, Q 0 q → VSpec P y [f] [q] (Hg ++ Hr) (fun _ hs => ∃ q', hs = [q'] ∧ (Q items.length q' ∨ X q'))
theorem step_range {P : Program} {f : FuncId} {a : Array Value} {ds mark : List Deferred} {k : List Item} {cs : List Frame} {w w1 : World} {l : Nat} {x : Operand} {y : Value} {ps : Array Tmp} {asn bd : Code}
    {Post : Value → World → Prop} (he : (Instr.enterLoop f a ps asn bd none).run P w = .ok (l, mark) w1) (hx : evA a x = y) (h : NDoes P (callv y #[.func (.yield l) #[] #[]]) w1 Post) :
    ∃ v w', Post v w' ∧ Steps P (lone (mk f none a ds (.code (.rangeFunc x ps asn bd) :: k)) cs w) (lone (mk f none a (mark ++ ds) (.endRangeFunc l :: k)) cs w') := by
  have hev : ∀ z, (mk f none a (mark ++ ds) (.inRangeFunc l :: k)).eval z = evA a z := fun z => eval_mk z
  have hcall : (do
      let d ← resolve (mk f none a (mark ++ ds) (.inRangeFunc l :: k)).eval { callee := .value x, args := #[.const (.func (.yield l) #[] #[])], argTypes := #[] } 0
      invoke d.target d.args : Sem Next) = callv y #[.func (.yield l) #[] #[]] := by
    simp only [resolve, hev, hx, callv]
    simp [eval_mk, evA]
  simp only [mk] at hcall
  have hfin : ∀ v, (mk f none a (mark ++ ds) (.inRangeFunc l :: k)).finish v = mk f none a (mark ++ ds) (.endRangeFunc l :: k) := fun v => by simp [Frame.finish, mk]
  unfold NDoes at h
  split at h
  · rename_i g args w' hr
    obtain ⟨e, w'', fr, ⟨v, rfl, hp⟩, hsteps, _, hleave⟩ := h (mk f none a (mark ++ ds) (.inRangeFunc l :: k) :: cs)
    have henter : step P (lone (mk f none a ds (.code (.rangeFunc x ps asn bd) :: k)) cs w) =
        .next (lone (Frame.enter P g args .normal) (mk f none a (mark ++ ds) (.inRangeFunc l :: k) :: cs) w') :=
      step_lone_go (by simp [stepG, stepG.exec, stepG.apply, mk, Sem.runT_eq, he, hcall, hr, GStep.bare_after])
    refine ⟨v, w'', hp, .head henter (Steps.trans hsteps ?_)⟩
    rw [← hfin v]; exact finish_returns hleave
  · rename_i l' g tmps asn' bd' w' hr
    obtain ⟨v, w'', hp, hs⟩ := h (mk f none a (mark ++ ds) (.inRangeFunc l :: k)) cs
    have henter : step P (lone (mk f none a ds (.code (.rangeFunc x ps asn bd) :: k)) cs w) =
        .next (lone (Frame.round l' g tmps asn' bd' .normal) (mk f none a (mark ++ ds) (.inRangeFunc l :: k) :: cs) w') :=
      step_lone_go (by simp [stepG, stepG.exec, stepG.apply, mk, Sem.runT_eq, he, hcall, hr, GStep.bare_after])
    refine ⟨v, w'', hp, .head henter ?_⟩
    rw [← hfin v]; exact hs
  · exact h.elim
theorem step_endRange {P : Program} {f : FuncId} {a : Array Value} {ds : List Deferred} {k : List Item} {cs : List Frame} {w w1 : World} {l : Nat} {j : Option Code}
    (h : (Instr.endLoop l).run P w = .ok j w1) : step P (lone (mk f none a ds (.endRangeFunc l :: k)) cs w) = .next (lone (mk f none a ds ((j.map Item.code).toList ++ k)) cs w1) :=
  step_lone_go (by simp [stepG, stepG.exec, mk, Sem.runT_eq, h, GStep.bare_after])
def RoundR {X : Type} (oc : X → List PHeap) (I : X → Prop) (J : Code → X → Prop) : Option Code → List PHeap → Prop
  | none, hs => ∃ x, I x ∧ hs = oc x
  | some j, hs => ∃ x, J j x ∧ hs = oc x
/-- A loop over a function in a frame that is no round. 'I i x': ahead of item i; 'J j x': a round has left the loop by the jump j. -/
theorem XK.range {P : Program} {f : FuncId} {N : Nat} {B : PHeap} {E : Frame → World → Prop} {X : Type} {k : List Item} {e : Env} {o ok r : List PHeap} {x : Operand} {y : Value} {ps : List Tmp} {asn bd : Code} {Hg : List PHeap} (items : List (List Value))
    (oc : X → List PHeap) (I : Nat → X → Prop) (J : Code → X → Prop) (x0 : X) (o0 : List PHeap) [rst : Rest o0 o ok] (ho0 : oc x0 = o0) (h0 : I 0 x0) (hx : ev e x = some y)
    (hit : It P y items Hg) [al : AllIn Hg ok (B :: r)] (hps : ps.all (fun p => Nat.blt p N) = true) (hlen : ∀ i, i < items.length → (items.getD i []).length = ps.length)
    (round : ∀ l rec B' i x, i < items.length → I i x → XK (rcx P f N l rec B' (RoundR oc (I (i + 1)) J)) [.code asn, .beginRound, .code bd] (pars ps (items.getD i []) e) (rdy l rec :: oc x) (ok ++ r))
    (cont : ∀ x, I items.length x → XK ⟨P, f, none, N, B, E⟩ k e (oc x ++ ok) r)
    (jump : ∀ j x, J j x → XK ⟨P, f, none, N, B, E⟩ (.code j :: k) e (oc x ++ ok) r) :
    XK ⟨P, f, none, N, B, E⟩ (.code (.rangeFunc x ps.toArray asn bd) :: k) e o r := fun D ds a w cs ha he hD hm => by
  have hm1 : Sep (D :: (o0 ++ ok)) (B :: r) w := rst.wk.sepD hm
  let rec' : Loop := { state := .ready, pending := none, fn := f, tmps := a, params := ps.toArray, assign := asn, body := bd, defers := w.heap.size }
  let l := w.heap.size + 1
  let w1 := (w.alloc (.deferred (some []))).alloc (.loop rec')
  have henter : (Instr.enterLoop f a ps.toArray asn bd none).run P w = .ok (l, [{ target := .collected w.heap.size, args := #[] }]) w1 := run_enterLoop_outer f a ps.toArray asn bd
  have hs1 : Sep (rdy l rec' :: sing w.heap.size (.deferred (some [])) :: D :: (o0 ++ ok)) (B :: r) w1 := by
    have := (hm1.push (.deferred (some []))).push (.loop rec')
    simp only [Array.size_push] at this
    exact this
  let D' := Go.X.join [sing w.heap.size (.deferred (some [])), D]
  have hs2 : Sep (D' :: rdy l rec' :: (o0 ++ ok)) (B :: r) w1 := by
    refine Sep.join (hs := [sing w.heap.size (.deferred (some [])), D]) (hs1.perm ?_)
    exact (List.Perm.swap _ _ _).trans ((List.Perm.swap _ _ _).cons _)
  have hD' : Marked D' (w.heap.size :: ds) := by
    refine ⟨List.nodup_cons.2 ⟨fun hmem => ?_, hD.1⟩, fun b => ?_⟩
    · have := sub_lt (hm.so D List.mem_cons_self) (b := w.heap.size) (o := .deferred (some [])) (by rw [hD.2, if_pos hmem])
      omega
    · simp only [D', Go.X.join, sing, emp, Option.or_none, hD.2 b, List.mem_cons]
      by_cases hb : b = w.heap.size
      · simp [hb]
      · simp [hb]
  have hs3 : Sep (Go.X.join (rdy l rec' :: o0) :: D' :: ok) (B :: r) w1 := Sep.join (hs := rdy l rec' :: o0) (hs2.perm (by
    simp only [List.cons_append]
    exact (List.Perm.swap _ _ _).trans (List.perm_middle.symm.cons _)))
  have hp0 : PD (rdy l rec' :: oc x0) := by
    rw [ho0]
    have hsub : (rdy l rec' :: o0).Sublist (rdy l rec' :: (o0 ++ ok)) := List.Sublist.cons_cons _ (List.sublist_append_left _ _)
    exact ⟨hs2.tail.pw.sublist hsub, fun h hh => hs2.tail.no h (hsub.mem hh)⟩
  have hpsN : ∀ p ∈ ps, p < N := fun p hp => by
    have := List.all_eq_true.1 hps p hp
    rwa [Nat.blt_eq] at this
  have hyield : ∀ i, i < items.length → ∀ q, (∃ x, I i x ∧ PD (rdy l rec' :: oc x) ∧ q = Go.X.join (rdy l rec' :: oc x)) →
      VSpec P (.func (.yield l) #[] #[]) (items.getD i []) [q] (ok ++ r) (fun v hs => ∃ b q', v = .bool b ∧ hs = [q'] ∧
        (b = true → ∃ x, I (i + 1) x ∧ PD (rdy l rec' :: oc x) ∧ q' = Go.X.join (rdy l rec' :: oc x)) ∧
        (b = false → ∃ j x, J j x ∧ PD (ovr l rec' (some j) :: oc x) ∧ q' = Go.X.join (ovr l rec' (some j) :: oc x))) := by
    rintro i hi q ⟨x, hI, hp, rfl⟩
    refine ((VSpec.round (rec := rec') (N := N) (e := e) rfl ha he hpsN (hlen i hi) (fun B' => round l rec' B' i x hi hI)).joined hp).mono ?_
    rintro v hs ⟨hs', ⟨j, hs'', rfl, rfl, hR⟩, hpw, rfl⟩
    refine ⟨_, _, rfl, rfl, ?_, ?_⟩
    · intro hj
      cases j with
      | some j => cases hj
      | none =>
        obtain ⟨x', h1, rfl⟩ := hR
        exact ⟨x', h1, hpw, rfl⟩
    · intro hj
      cases j with
      | none => cases hj
      | some j =>
        obtain ⟨x', h1, rfl⟩ := hR
        exact ⟨j, x', h1, hpw, rfl⟩
  have hN := hit _ (ok ++ r) _ _ hyield (Go.X.join (rdy l rec' :: o0)) ⟨x0, h0, hp0, by rw [ho0]⟩ (D' :: ok) (B :: r) w1 hs3 (fun h hh => by
    rcases List.mem_append.1 hh with hh | hh
    · exact orMap (al.pf h hh) (List.mem_cons_of_mem _) id
    · rcases List.mem_append.1 hh with hh | hh
      · exact .inl (List.mem_cons_of_mem _ hh)
      · exact .inr (List.mem_cons_of_mem _ hh))
  obtain ⟨v, w', ⟨hs', ⟨q', rfl, hq⟩, hS⟩, st⟩ := step_range (ds := marks ds) (k := k) (cs := cs) henter (ev_rel he hx) hN
  rcases hq with ⟨x', hI, hpw, rfl⟩ | ⟨j, x', hJ, hpw, rfl⟩
  · obtain ⟨hS2, hb⟩ := Sep.turn (y := .loop { rec' with state := .exhausted, pending := none }) (Sep.split hpw hS)
    obtain ⟨fr, w2, hE, st2⟩ := cont x' hI D' (w.heap.size :: ds) a _ cs ha he hD' (hS2.tail.perm List.perm_middle)
    exact ⟨fr, w2, hE, Steps.trans st (.head (step_endRange (run_endLoop hb (by simp))) st2)⟩
  · obtain ⟨hS2, hb⟩ := Sep.turn (y := .loop { rec' with state := .exhausted, pending := some j }) (Sep.split hpw hS)
    obtain ⟨fr, w2, hE, st2⟩ := jump j x' hJ D' (w.heap.size :: ds) a _ cs ha he hD' (hS2.tail.perm List.perm_middle)
    exact ⟨fr, w2, hE, Steps.trans st (.head (step_endRange (run_endLoop hb (by simp))) st2)⟩
end Go.X

/- Bits of unsigned numbers; copies between slices. No condition. -/
set_option linter.unusedSimpArgs false
set_option linter.unusedVariables false
namespace Go.X
section
variable {P : Program} {ops : Array Oper} {e : Env} {o r : List PHeap} {d : Option Tmp} {ty : TypeId} {pos : String} {aft : Array Edge}
theorem wrapu64 {n : Int} (h : 0 ≤ n ∧ n < 18446744073709551616) : IntKind.u64.wrap n = n := by
  have : IntKind.u64.wrap n = n % 18446744073709551616 := rfl
  rw [this]; omega
theorem Q.addU {t t2 : TypeId} {x y : Operand} {m n : Int} (hx : ev e x = some (.int .u64 m)) (hy : ev e y = some (.int .u64 n)) (h : 0 ≤ m + n ∧ m + n < 18446744073709551616) :
    Quiet P ops ⟨d, .binOp .add t x y t2, ty, pos, aft, none⟩ e o r (.int .u64 (m + n)) := by
  have := Q.addW (P := P) (ops := ops) (o := o) (r := r) (d := d) (ty := ty) (pos := pos) (aft := aft) (t := t) (t2 := t2) hx hy
  rwa [wrapu64 h] at this
theorem Q.mulU {t t2 : TypeId} {x y : Operand} {m n : Int} (hx : ev e x = some (.int .u64 m)) (hy : ev e y = some (.int .u64 n)) (h : 0 ≤ m * n ∧ m * n < 18446744073709551616) :
    Quiet P ops ⟨d, .binOp .mul t x y t2, ty, pos, aft, none⟩ e o r (.int .u64 (m * n)) := by
  have := Q.mulW (P := P) (ops := ops) (o := o) (r := r) (d := d) (ty := ty) (pos := pos) (aft := aft) (t := t) (t2 := t2) hx hy
  rwa [wrapu64 h] at this
/-- & with 2^32 - 1 -/
theorem Q.mask32 {t t2 : TypeId} {x y : Operand} {m : Int} (hx : ev e x = some (.int .u64 m)) (hy : ev e y = some (.int .u64 4294967295)) (h : 0 ≤ m ∧ m < 18446744073709551616) :
    Quiet P ops ⟨d, .binOp .and t x y t2, ty, pos, aft, none⟩ e o r (.int .u64 (m % 4294967296)) := Q.bin hx hy fun w => by
  obtain ⟨n, rfl⟩ := Int.eq_ofNat_of_zero_le h.1
  have hn : n < 18446744073709551616 := by omega
  have e1 : binOp .and t (.int .u64 (n : Int)) (.int .u64 4294967295) = Op.intBits .and .u64 (n : Int) 4294967295 := by simp [binOp]
  rw [e1]
  have e2 : (BitVec.ofInt 64 (n : Int) &&& BitVec.ofInt 64 4294967295).toNat = n % 4294967296 := by
    have e3 : BitVec.ofInt 64 (4294967295 : Int) = BitVec.ofNat 64 (2 ^ 32 - 1) := by decide
    rw [e3, BitVec.ofInt_natCast, BitVec.toNat_and, BitVec.toNat_ofNat, BitVec.toNat_ofNat, Nat.mod_eq_of_lt hn, Nat.mod_eq_of_lt (show 2 ^ 32 - 1 < 2 ^ 64 by decide), Nat.and_two_pow_sub_one_eq_mod]
  have e4 : Op.intBits .and .u64 (n : Int) 4294967295 = (pure (.int .u64 (IntKind.u64.wrap ((BitVec.ofInt 64 (n : Int) &&& BitVec.ofInt 64 4294967295).toNat : Int))) : Sem Value) := rfl
  rw [e4, e2, wrapu64 (by omega)]
  simp
theorem Q.shr32 {t t2 : TypeId} {x y : Operand} {k' : IntKind} {m : Int} (hx : ev e x = some (.int .u64 m)) (hy : ev e y = some (.int k' 32)) :
    Quiet P ops ⟨d, .binOp .shr t x y t2, ty, pos, aft, none⟩ e o r (.int .u64 (m / 4294967296)) := Q.bin hx hy fun w => by
  have e1 : binOp .shr t (.int .u64 m) (.int k' 32) = Op.shift .shr .u64 m k' 32 := by simp [binOp]
  rw [e1]
  have e2 : Op.shift .shr .u64 m k' 32 = (pure (.int .u64 (m.fdiv (2 ^ 32))) : Sem Value) := rfl
  rw [e2, Int.fdiv_eq_ediv_of_nonneg _ (by decide)]
  rfl
end

/-! ### copies -/
theorem flat_take {α : Type} {enc : α → List Value} {sz : Nat} (he : ∀ x, (enc x).length = sz) : ∀ (xs : List α) (i : Nat), (xs.take i).flatMap enc = (xs.flatMap enc).take (i * sz)
  | [], i => by simp
  | x :: xs, 0 => by simp
  | x :: xs, i + 1 => by
    rw [List.take_succ_cons, List.flatMap_cons, List.flatMap_cons, flat_take he xs i, Nat.add_mul, Nat.one_mul, List.take_append, he]
    rw [List.take_of_length_le (l := enc x) (by rw [he]; omega), show i * sz + sz - sz = i * sz by omega]
theorem flat_drop {α : Type} {enc : α → List Value} {sz : Nat} (he : ∀ x, (enc x).length = sz) : ∀ (xs : List α) (i : Nat), (xs.drop i).flatMap enc = (xs.flatMap enc).drop (i * sz)
  | [], i => by simp
  | x :: xs, 0 => by simp
  | x :: xs, i + 1 => by
    rw [List.drop_succ_cons, List.flatMap_cons, flat_drop he xs i, Nat.add_mul, Nat.one_mul, List.drop_append, he]
    rw [List.drop_of_length_le (l := enc x) (by rw [he]; omega), show i * sz + sz - sz = i * sz by omega, List.nil_append]
def tailv (v : Value) (sz i : Nat) : Value := match v with
  | .slice ad n c => .slice (if c = i then ad else ad.map (·.add (i * sz))) (n - i) (c - i)
  | v => v
def splice {α : Type} (xs ys : List α) (i : Nat) : List α := xs.take i ++ ys.take (min ys.length (xs.length - i)) ++ xs.drop (i + min ys.length (xs.length - i))
section
variable {P : Program} {ops : Array Oper} {e : Env} {o r : List PHeap} {d : Option Tmp} {ty : TypeId} {pos : String} {aft : Array Edge}
variable {α : Type} {enc : α → List Value} {sz : Nat} {h : PHeap} {xs : List α} {v : Value}
theorem tailv_zero {T : TypeId} [s : OArr v enc sz T h xs] : tailv v sz 0 = v := by
  obtain ⟨he, hm, ⟨rfl, rfl, rfl⟩ | ⟨b, c, cs, rfl, rfl, hle, hlen, ht⟩⟩ := s.pf
  · rfl
  · simp only [tailv, Nat.zero_mul, Nat.sub_zero, Option.map_some, add_none]
    split <;> simp
theorem Q.tail {t el : TypeId} [u : Und P t (.slice el)] [z : TySize P el sz] {x : Operand} {lo : Option Operand} {i : Nat} (hx : ev e x = some v) [s : Arr v enc sz h xs] (hlo : Bd e 0 lo i) (hi : i ≤ xs.length) :
    Quiet P ops ⟨d, .slice t x lo none none, ty, pos, aft, none⟩ e o r (tailv v sz i) := .mk fun a w he _ => by
  obtain ⟨henc, hm, ad, c, rfl, hle, hnn, hc⟩ := s.pf
  have hrun : (Instr.sliceAt t (.slice ad xs.length c) (lo.map (evA a)) none none).run P w =
      .ok (.slice (if c = i then ad else ad.map (·.add (i * sz))) (xs.length - i) (c - i)) w := by
    unfold Instr.sliceAt
    rw [bind_ok (u.pf w)]
    simp only
    unfold Instr.slice
    rw [bind_ok (u.pf w)]
    simp only
    have hb : (Instr.sliceBounds true xs.length c (lo.map (evA a)) none none).run P w = .ok (i, xs.length, c) w := by
      unfold Instr.sliceBounds
      simp only [pure_bind]
      rcases Bd.run (P := P) he hlo xs.length .sliceB (by omega) w with ⟨h3, h4⟩ | ⟨v3, h3, h4⟩
      · rw [h3, h4]; rfl
      · rw [h3]
        simp only [Option.isSome_none, Bool.false_eq_true, if_false]
        rw [bind_ok h4]; rfl
    rw [bind_ok hb]
    simp only
    rw [bind_ok (z.pf w)]
    rfl
  simp only [execOp, ev_rel he hx, Option.map_none]
  exact run_val hrun
theorem run_copy {t0 t1 ty el : TypeId} [u : Und P t0 (.slice el)] [z : TySize P el sz] {v2 : Value} {h2 : PHeap} {ys : List α} [s2 : Arr v2 enc sz h2 ys] {w w' : World} (hsub2 : sub h2 w) {ad : Option Addr} {m c : Nat}
    (hst : ((match ad with | some a => storeCells a ((ys.take (min ys.length m)).flatMap enc) 0 | none => pure () : Sem Unit)).run P w = .ok () w') :
    (Builtin.copy_ #[t0, t1] ty #[.slice ad m c, v2]).run P w = .ok (.int .i64 ((min ys.length m : Nat) : Int)) w' := by
  obtain ⟨henc2, hm2, a2, c2, hv2, hle2, hnn2, hc2⟩ := s2.pf
  have hlen2 : (Builtin.lenOf v2).run P w = .ok ys.length w := by rw [hv2]; rfl
  have hcells : (Builtin.firstCells sz (min ys.length m) v2).run P w = .ok ((ys.take (min ys.length m)).flatMap enc).toArray w := s2.cells hsub2 _ (by omega)
  unfold Builtin.copy_
  simp only [List.getElem?_toArray, List.getElem?_cons_zero, List.getElem?_cons_succ]
  rw [bind_ok (u.pf w)]
  simp only
  rw [bind_ok hlen2, bind_ok (z.pf w)]
  have hcells' : (Builtin.firstCells sz (Nat.min ys.length m) v2).run P w = .ok ((ys.take (min ys.length m)).flatMap enc).toArray w := hcells
  rw [bind_ok hcells']
  cases ad with
  | none =>
    simp only at hst ⊢
    have : w' = w := by
      have h1 : (pure () : Sem Unit).run P w = .ok () w := rfl
      rw [h1] at hst
      injection hst with h2 h3
      exact h3.symm
    subst this
    rfl
  | some a =>
    simp only at hst ⊢
    rw [bind_ok hst]
    rfl
theorem Stp0.copy {t0 t1 el T : TypeId} [u : Und P t0 (.slice el)] [z : TySize P el sz] {x y : Operand} {vd v2 : Value} {h2 : PHeap} {ys : List α} {i : Nat} {o1 : List PHeap} (hx : ev e x = some vd) (hd : vd = tailv v sz i) (hy : ev e y = some v2)
    [s : OArr v enc sz T h xs] [tk : Take h o o1] [s2 : Arr v2 enc sz h2 ys] [m : InM h2 o r] (hi : i ≤ xs.length) :
    Stp0 P ops ⟨d, .call ⟨.builtin .copy, #[x, y], #[t0, t1]⟩, ty, pos, aft, none⟩ e o r (fun v' o2 => ∃ h', v' = .int .i64 ((min ys.length (xs.length - i) : Nat) : Int) ∧ OArr v enc sz T h' (splice xs ys i) ∧ o2 = h' :: o1) := fun a w he hs => by
  subst hd
  have hs1 := hs.perm tk.pf
  have hsub2 : sub h2 w := m.pf.elim (hs.so _) (hs.sr _)
  have hx' := ev_rel he hx
  have hy' := ev_rel he hy
  obtain ⟨henc2, hm2, a2, c2, hv2, hle2, hnn2, hc2⟩ := s2.pf
  have hexec : ∀ w', (Builtin.copy_ #[t0, t1] ty #[tailv v sz i, v2]).run P w = .ok (.int .i64 ((min ys.length (xs.length - i) : Nat) : Int)) w' →
      (execOp (evA a) (⟨d, .call ⟨.builtin .copy, #[x, y], #[t0, t1]⟩, ty, pos, aft, none⟩ : Oper)).run P w = .ok (.value (.int .i64 ((min ys.length (xs.length - i) : Nat) : Int))) w' := by
    intro w' hw'
    simp only [execOp, resolve, List.map_toArray, List.map_cons, List.map_nil, hx', hy']
    exact run_val hw'
  obtain ⟨henc, hm, ⟨rfl, rfl, rfl⟩ | ⟨b, c, cs, rfl, rfl, hle, hlen, ht⟩⟩ := s.pf
  · unfold Does
    rw [if_pos (by simp [Region.wanted]), hexec w (by
      have hi0 : i = 0 := by simpa using hi
      subst hi0
      have := run_copy (t0 := t0) (t1 := t1) (ty := ty) (el := el) (s2 := s2) (w := w) (w' := w) (P := P) hsub2 (ad := none) (m := 0) (c := 0) rfl
      simpa [tailv] using this)]
    refine ⟨emp :: o1, ⟨emp, rfl, ?_, rfl⟩, hs1⟩
    simp [splice]
    exact s
  · have hn' : min ys.length (xs.length - i) ≤ xs.length - i := Nat.min_le_right _ _
    have hny : min ys.length (xs.length - i) ≤ ys.length := Nat.min_le_left _ _
    generalize hne : min ys.length (xs.length - i) = n' at *
    have hZ : ((ys.take n').flatMap enc).length = n' * sz := by rw [flat_len henc, List.length_take, Nat.min_eq_left hny]
    have hmul1 : i * sz + n' * sz ≤ xs.length * sz := by rw [← Nat.add_mul]; exact Nat.mul_le_mul_right _ (by omega)
    have hmul2 : xs.length * sz ≤ c * sz := Nat.mul_le_mul_right _ hle
    have hh : w.heap[b]? = some (.cells cs.toArray T (0, 0)) := hs1.so _ List.mem_cons_self b _ (sing_self _ _)
    have hones : ∀ v ∈ (ys.take n').flatMap enc, one v = true := fun v hv => by
      obtain ⟨y, hy1, hy2⟩ := List.mem_flatMap.1 hv
      exact hm2.2 y (List.mem_of_mem_take hy1) v hy2
    obtain ⟨w', h1, h2, h3, h4⟩ := run_storeCells (P := P) (b := b) (k := i * sz) (T := T) ((ys.take n').flatMap enc) 0 w cs hones hh (by omega)
    have hst : ((match (if c = i then some (⟨b, 0, none⟩ : Addr) else (some (⟨b, 0, none⟩ : Addr)).map (·.add (i * sz))) with | some a => storeCells a ((ys.take n').flatMap enc) 0 | none => pure () : Sem Unit)).run P w = .ok () w' := by
      by_cases hci : c = i
      · rw [if_pos hci]
        have hn0 : n' = 0 := by omega
        subst hn0
        simp only [List.take_zero, List.flatMap_nil] at h1 ⊢
        exact h1
      · rw [if_neg hci]
        simp only [Option.map_some, add_none, Nat.zero_add]
        exact h1
    unfold Does
    rw [if_pos (by simp [Region.wanted]), hexec w' (by
      have := run_copy (t0 := t0) (t1 := t1) (ty := ty) (el := el) (s2 := s2) (w := w) (w' := w') (P := P) hsub2 (ad := (if c = i then some (⟨b, 0, none⟩ : Addr) else (some (⟨b, 0, none⟩ : Addr)).map (·.add (i * sz)))) (m := xs.length - i) (c := c - i) (by rw [hne]; exact hst)
      rw [hne] at this
      exact this)]
    simp only [Nat.add_zero, hZ] at h2
    refine ⟨blk b (cs.take (i * sz) ++ (ys.take n').flatMap enc ++ cs.drop (i * sz + n' * sz)) T :: o1, ⟨_, rfl, ?_, rfl⟩, Sep.swap hs1 ?_ ?_ ?_ rfl h4⟩
    · have hlen' : (splice xs ys i).length = xs.length := by
        unfold splice; rw [hne]; simp only [List.length_append, List.length_take, List.length_drop]; omega
      refine ⟨henc, ⟨by rw [hlen']; exact hm.1, fun y hy cc hcc => ?_⟩, .inr ⟨b, c, _, by rw [hlen'], rfl, by rw [hlen']; exact hle, ?_, ?_⟩⟩
      · unfold splice at hy
        rcases List.mem_append.1 hy with hy | hy
        · rcases List.mem_append.1 hy with hy | hy
          · exact hm.2 y (List.mem_of_mem_take hy) cc hcc
          · exact hm2.2 y (List.mem_of_mem_take hy) cc hcc
        · exact hm.2 y (List.mem_of_mem_drop hy) cc hcc
      · simp only [List.length_append, List.length_take, List.length_drop, hZ]; omega
      · rw [hlen']
        unfold splice
        rw [hne, List.flatMap_append, List.flatMap_append, flat_take henc xs, flat_drop henc xs, ← ht, Nat.add_mul]
        rw [List.take_append, List.take_append]
        simp only [List.length_append, List.length_take, hZ]
        rw [List.take_of_length_le (l := cs.take (i * sz)) (by rw [List.length_take]; omega), List.take_of_length_le (l := (ys.take n').flatMap enc) (by rw [hZ]; omega)]
        congr 1
        · congr 1
          rw [List.take_take, Nat.min_eq_left (by omega)]
        · rw [List.drop_take]
          congr 1
          omega
    · exact fun x hx => none_blk (blk_none hx)
    · intro x ob hb
      obtain ⟨rfl, rfl⟩ := sing_some hb
      exact h2
    · exact fun x hx => h3 x (blk_none hx)
theorem Stp.copy {t0 t1 el T : TypeId} [u : Und P t0 (.slice el)] [z : TySize P el sz] {x y : Operand} {vd v2 : Value} {h2 : PHeap} {ys : List α} {i : Nat} {o1 : List PHeap} (hx : ev e x = some vd) (hd : vd = tailv v sz i) (hy : ev e y = some v2)
    [s : OArr v enc sz T h xs] [tk : Take h o o1] [s2 : Arr v2 enc sz h2 ys] [m : InM h2 o r] (hi : i ≤ xs.length) :
    Stp P ops ⟨d, .call ⟨.builtin .copy, #[x, y], #[t0, t1]⟩, ty, pos, aft, none⟩ e o r (fun v' o2 => ∃ h', v' = .int .i64 ((min ys.length (xs.length - i) : Nat) : Int) ∧ OArr v enc sz T h' (splice xs ys i) ∧ o2 = h' :: o1) := fun D a w he hs =>
  (Stp0.copy (tk := tk.more D) (m := m.more D) hx hd hy hi a w he hs).mono fun v w' ⟨o2, ⟨h', h1, h2, h3⟩, hs'⟩ => ⟨o2, ⟨h' :: o1, ⟨h', h1, h2, rfl⟩, by rw [h3]; exact List.Perm.swap _ _ _⟩, hs'⟩
end
section
variable {c : Cx} {ops : Array Oper} {rest : List Oper} {k : List Item} {e : Env} {o r : List PHeap} {d : Nat} {ty : TypeId} {pos : String} {aft : Array Edge}
variable {α : Type} {enc : α → List Value} {sz : Nat} {h : PHeap} {xs : List α} {v : Value}
theorem XO.copy {t0 t1 el T : TypeId} [u : Und c.P t0 (.slice el)] [z : TySize c.P el sz] {x y : Operand} {vd v2 : Value} {h2 : PHeap} {ys : List α} {i : Nat} {o1 : List PHeap} (hx : ev e x = some vd) (hd : vd = tailv v sz i) (hy : ev e y = some v2)
    [s : OArr v enc sz T h xs] [tk : Take h o o1] [s2 : Arr v2 enc sz h2 ys] [m : InM h2 o (c.B :: r)] (hi : i ≤ xs.length)
    (hn : ∀ h', OArr v enc sz T h' (splice xs ys i) → XO c ops rest k ((d, some (.int .i64 ((min ys.length (xs.length - i) : Nat) : Int))) :: e) (h' :: o1) r) :
    XO c ops (⟨some d, .call ⟨.builtin .copy, #[x, y], #[t0, t1]⟩, ty, pos, aft, none⟩ :: rest) k e o r :=
  XO.s (Stp.copy hx hd hy hi) fun v' o2 ⟨h', h1, h2, h3⟩ => by subst h1 h3; exact hn h' h2
variable {fl : List Nat} {f : List PHeap} {i0 : Nat} {bb : Bool} {tt uu : Plan}
theorem XT.copy {t0 t1 el T : TypeId} [u : Und c.P t0 (.slice el)] [z : TySize c.P el sz] {x y : Operand} {vd v2 : Value} {h2 : PHeap} {ys : List α} {i : Nat} {o1 : List PHeap}
    (hi0 : ops[i0]? = some ⟨some d, .call ⟨.builtin .copy, #[x, y], #[t0, t1]⟩, ty, pos, aft, none⟩) (hok : okOper c.N ⟨some d, .call ⟨.builtin .copy, #[x, y], #[t0, t1]⟩, ty, pos, aft, none⟩ = true)
    (hx : ev e x = some vd) (hd : vd = tailv v sz i) (hy : ev e y = some v2)
    [s : OArr v enc sz T h xs] [tk : Take h o o1] [s2 : Arr v2 enc sz h2 ys] [m : InM h2 o (c.B :: r)] (hi : i ≤ xs.length)
    (hn : ∀ h', OArr v enc sz T h' (splice xs ys i) → Keeps bb f (h' :: o1) ∧ XT c ops fl f k r tt ((d, some (.int .i64 ((min ys.length (xs.length - i) : Nat) : Int))) :: e) (h' :: o1)) (hu : XT c ops fl f k r uu e o) :
    XT c ops fl f k r (.br i0 bb tt uu) e o :=
  XT.s hi0 hok (Stp.copy hx hd hy hi) (fun v' o2 ⟨h', h1, h2, h3⟩ => by subst h1 h3; exact hn h' h2) hu
end
def cutv (v : Value) (sz i j : Nat) : Value := match v with
  | .slice ad n c => .slice (if c = i then ad else ad.map (·.add (i * sz))) (j - i) (c - i)
  | v => v
section
variable {P : Program} {ops : Array Oper} {e : Env} {o r : List PHeap} {d : Option Tmp} {ty : TypeId} {pos : String} {aft : Array Edge}
variable {α : Type} {enc : α → List Value} {sz : Nat} {h : PHeap} {xs : List α} {v : Value}
theorem Arr.cut (s : Arr v enc sz h xs) {i j : Nat} (hij : i ≤ j) (hj : j ≤ xs.length) : Arr (cutv v sz i j) enc sz h ((xs.drop i).take (j - i)) := ⟨by
  obtain ⟨henc, hm, ad, c, rfl, hle, hnn, hc⟩ := s.pf
  have hl : ((xs.drop i).take (j - i)).length = j - i := by simp; omega
  refine ⟨henc, ⟨by omega, fun y hy cc hcc => hm.2 y (List.mem_of_mem_drop (List.mem_of_mem_take hy)) cc hcc⟩, (if c = i then ad else ad.map (·.add (i * sz))), c - i, by rw [hl]; rfl, by omega, ?_, fun hp => ?_⟩
  · intro hnone
    split at hnone
    · rw [hnn hnone]; omega
    · cases ad with
      | none => rw [hnn rfl]; omega
      | some a => simp at hnone
  · obtain ⟨b, k, cs, T, fr, rfl, hb, hcs⟩ := hc (by omega)
    refine ⟨b, k + i * sz, cs, T, fr, ?_, hb, fun m n hm' hn => ?_⟩
    · rw [if_neg (by omega)]
      simp [add_none]
    · have := hcs (i + m) n (by omega) hn
      rw [Nat.add_mul, ← Nat.add_assoc] at this
      rw [this]
      congr 1
      rw [List.getElem?_take, if_pos (by omega), List.getElem?_drop]⟩
theorem Q.cut {t el : TypeId} [u : Und P t (.slice el)] [z : TySize P el sz] {x : Operand} {lo hi : Option Operand} {i j : Nat} (hx : ev e x = some v) [s : Arr v enc sz h xs] (hlo : Bd e 0 lo i) (hhi : Bd e xs.length hi j) (hij : i ≤ j) (hj : j ≤ xs.length) :
    Quiet P ops ⟨d, .slice t x lo hi none, ty, pos, aft, none⟩ e o r (cutv v sz i j) := .mk fun a w he _ => by
  obtain ⟨henc, hm, ad, c, rfl, hle, hnn, hc⟩ := s.pf
  have hrun : (Instr.sliceAt t (.slice ad xs.length c) (lo.map (evA a)) (hi.map (evA a)) none).run P w =
      .ok (.slice (if c = i then ad else ad.map (·.add (i * sz))) (j - i) (c - i)) w := by
    unfold Instr.sliceAt
    rw [bind_ok (u.pf w)]
    simp only
    unfold Instr.slice
    rw [bind_ok (u.pf w)]
    simp only
    have hb : (Instr.sliceBounds true xs.length c (lo.map (evA a)) (hi.map (evA a)) none).run P w = .ok (i, j, c) w := by
      unfold Instr.sliceBounds
      simp only [pure_bind]
      rcases Bd.run (P := P) he hhi c .sliceAcap (by omega) w with ⟨h1, h2⟩ | ⟨v1, h1, h2⟩
      · rw [h1, h2]
        simp only [pure_bind]
        rcases Bd.run (P := P) he hlo xs.length .sliceB (by omega) w with ⟨h3, h4⟩ | ⟨v3, h3, h4⟩
        · rw [h3, h4]; rfl
        · rw [h3]
          simp only [Option.isSome_none, Bool.false_eq_true, if_false]
          rw [bind_ok h4]; rfl
      · rw [h1]
        simp only [if_true]
        rw [bind_ok h2]
        rcases Bd.run (P := P) he hlo j .sliceB hij w with ⟨h3, h4⟩ | ⟨v3, h3, h4⟩
        · rw [h3, h4]; rfl
        · rw [h3]
          simp only [Option.isSome_none, Bool.false_eq_true, if_false]
          rw [bind_ok h4]; rfl
    rw [bind_ok hb]
    simp only
    rw [bind_ok (z.pf w)]
    rfl
  simp only [execOp, ev_rel he hx, Option.map_none]
  exact run_val hrun
end
end Go.X

/- Operations under a guard that is known to hold. No condition. -/
set_option linter.unusedSimpArgs false
set_option linter.unusedVariables false
namespace Go.X
section
variable {P : Program} {ops : Array Oper} {e : Env} {o r : List PHeap} {d : Option Tmp} {ty : TypeId} {pos : String} {aft : Array Edge}
theorem Stp.want {op : Op} {j gt : Nat} {want b : Bool} {Ψ : Value → List PHeap → Prop} (hj : (ops[j]?).bind (·.dst) = some gt) (hg : find e gt = some (.bool b)) (hb : b = want)
    (s : Stp P ops ⟨d, op, ty, pos, aft, none⟩ e o r Ψ) : Stp P ops ⟨d, op, ty, pos, aft, some (j, want)⟩ e o r Ψ := fun D a w he hs => by
  have h := s D a w he hs
  have hw := wanted_guard (d := d) (ty := ty) (pos := pos) (aft := aft) (want := want) (op := op) hj (he gt _ hg)
  have hx : execOp (evA a) (⟨d, op, ty, pos, aft, some (j, want)⟩ : Oper) = execOp (evA a) (⟨d, op, ty, pos, aft, none⟩ : Oper) := rfl
  unfold Does at h ⊢
  rw [hw, hx, if_pos (by simp [hb])]
  rwa [if_pos (by simp [Region.wanted])] at h
end
section
variable {c : Cx} {ops : Array Oper} {rest : List Oper} {k : List Item} {e : Env} {o r : List PHeap} {d : Nat} {ty : TypeId} {pos : String} {aft : Array Edge}
variable {α : Type} {enc : α → List Value} {sz : Nat} {h : PHeap} {xs : List α} {v : Value}
theorem XO.litG {t el : TypeId} [u : Und c.P t (.slice el)] [z : TySize c.P el sz] {zs : List Value} [zz : Zero c.P el zs] {n : Nat} {l : List (Nat × Operand)} {j gt : Nat} {want b : Bool} (zl cs : List Value) (xs : List α) (enc : α → List Value)
    (hj : (ops[j]?).bind (·.dst) = some gt) (hg : find e gt = some (.bool b)) (hb : b = want)
    (hzs : zs.length = sz) (hsz : Nat.blt 0 sz = true) (hn : Nat.ble (n * sz) 16777216 = true) (hzl : (List.replicate n zs).flatten = zl) (hf : Fill e (fun i => some (i * sz, sz)) l zl cs)
    (henc : ∀ x, (enc x).length = sz) (hcs : xs.flatMap enc = cs) (hxn : xs.length = n) (ho : Ones cs) (hle : Nat.ble n 16777216 = true)
    (hnx : ∀ v' h', OArr v' enc sz el h' xs → XO c ops rest k ((d, some v') :: e) (h' :: o) r) :
    XO c ops (⟨some d, .buildSlice t n l.toArray, ty, pos, aft, some (j, want)⟩ :: rest) k e o r :=
  XO.s (Stp.want hj hg hb ((Makes.lit cs hzs hsz hn (by rw [hzl]; exact hf)).stp _ _)) fun _ _ ⟨b, hv, ho'⟩ => by subst hv ho'; exact hnx _ _ (OArr.lit xs enc henc hcs hxn ho hle)
end
end Go.X

/- Guards within guards. No condition. -/
set_option linter.unusedSimpArgs false
set_option linter.unusedVariables false
namespace Go.X
theorem bpT {b : Bool} {p : Prop} [t : BoolP b p] (h : b = true) : p := t.pf.1 h
theorem bpF {b : Bool} {p : Prop} [t : BoolP b p] (h : b = false) : ¬ p := fun hp => by rw [t.pf.2 hp] at h; cases h
theorem wanted_val {ops : Array Oper} {d : Option Tmp} {op : Op} {ty : TypeId} {pos : String} {aft : Array Edge} {j : Nat} {want : Bool} {g : Nat} {a : Array Value} {v : Value} (hj : (ops[j]?).bind (·.dst) = some g) (hv : a.getD g undef = v) (hn : v ≠ .bool want) :
    Region.wanted ⟨d, op, ty, pos, aft, some (j, want)⟩ (yielded ops a) = false := by
  have hy : yielded ops a j ≠ some want := by
    unfold yielded
    rw [hj]
    simp only [Option.bind_some]
    rcases Nat.lt_or_ge g a.size with hlt | hge
    · have e1 : a[g]? = some a[g] := Array.getElem?_eq_getElem hlt
      have e2 : a[g] = v := by simpa [hlt] using hv
      rw [e1, e2]
      intro h
      cases v <;> simp_all
    · rw [Array.getElem?_eq_none hge]
      simp
  simp only [Region.wanted]
  simpa using hy
/-- What the value at g tells: φ, or not. -/
def Tells (e : Env) (g : Nat) (want : Bool) (φ : Prop) : Prop := ∃ v, find e g = some v ∧ (φ → v = .bool want) ∧ (¬ φ → v ≠ .bool want)
theorem undef_ne {b : Bool} : undef ≠ .bool b := by simp [undef]
theorem Tells.d1 {e : Env} {g : Nat} {want b : Bool} (h : find e g = some (.bool b)) : Tells e g want (b = want) :=
  ⟨_, h, fun hb => by rw [hb], fun hb hv => hb (by simpa using hv)⟩
theorem Tells.d2 {e : Env} {g : Nat} {want b b1 w1 : Bool} (h : find e g = some (lz b1 w1 (.bool b))) : Tells e g want (b1 = w1 ∧ b = want) :=
  ⟨_, h, fun ⟨h1, h2⟩ => by simp [lz, h1, h2], fun hn hv => by
    unfold lz at hv
    split at hv
    · exact hn ⟨‹_›, by simpa using hv⟩
    · exact undef_ne hv⟩
theorem Tells.d3 {e : Env} {g : Nat} {want b b1 w1 b2 w2 : Bool} (h : find e g = some (lz b1 w1 (lz b2 w2 (.bool b)))) : Tells e g want (b1 = w1 ∧ b2 = w2 ∧ b = want) :=
  ⟨_, h, fun ⟨h1, h2, h3⟩ => by simp [lz, h1, h2, h3], fun hn hv => by
    unfold lz at hv
    split at hv
    · split at hv
      · exact hn ⟨‹_›, ‹_›, by simpa using hv⟩
      · exact undef_ne hv
    · exact undef_ne hv⟩
section
variable {P : Program} {ops : Array Oper} {e : Env} {o r : List PHeap} {d : Option Tmp} {ty : TypeId} {pos : String} {aft : Array Edge}
theorem Tells.no {φ : Prop} {j : Nat} {want : Bool} {g : Nat} {op : Op} {a : Array Value} (hj : (ops[j]?).bind (·.dst) = some g) (t : Tells e g want φ) (he : ERel e a) (hn : ¬ φ) :
    Region.wanted ⟨d, op, ty, pos, aft, some (j, want)⟩ (yielded ops a) = false := by
  obtain ⟨v, h1, _, h3⟩ := t
  exact wanted_val hj (he _ _ h1) (h3 hn)
theorem Tells.yes {φ : Prop} {j : Nat} {want : Bool} {g : Nat} {op : Op} {a : Array Value} (hj : (ops[j]?).bind (·.dst) = some g) (t : Tells e g want φ) (he : ERel e a) (hn : φ) :
    Region.wanted ⟨d, op, ty, pos, aft, some (j, want)⟩ (yielded ops a) = true := by
  obtain ⟨v, h1, h2, _⟩ := t
  have := he _ _ h1
  rw [h2 hn] at this
  rw [wanted_guard hj this]
  simp
theorem Quiet.tells {φ : Prop} {op : Op} {v v' : Value} {j : Nat} {want : Bool} {g : Nat} (hj : (ops[j]?).bind (·.dst) = some g) (t : Tells e g want φ) (h1 : φ → v' = v) (h2 : ¬ φ → v' = undef)
    (h : φ → Quiet P ops ⟨d, op, ty, pos, aft, none⟩ e o r v) : Quiet P ops ⟨d, op, ty, pos, aft, some (j, want)⟩ e o r v' := by
  intro a w he hr
  by_cases hp : φ
  · rcases h hp a w he hr with ⟨_, h3⟩ | ⟨h3, _⟩
    · left
      refine ⟨t.yes hj he hp, ?_⟩
      rw [h1 hp]
      exact h3
    · simp [Region.wanted] at h3
  · exact .inr ⟨t.no hj he hp, h2 hp⟩
theorem Quiet.guard2 {op : Op} {v : Value} {j : Nat} {want b b1 w1 : Bool} {g : Nat} (hj : (ops[j]?).bind (·.dst) = some g) (hg : find e g = some (lz b1 w1 (.bool b)))
    (h : b1 = w1 → b = want → Quiet P ops ⟨d, op, ty, pos, aft, none⟩ e o r v) : Quiet P ops ⟨d, op, ty, pos, aft, some (j, want)⟩ e o r (lz b1 w1 (lz b want v)) :=
  Quiet.tells hj (.d2 hg) (fun ⟨h1, h2⟩ => by simp [lz, h1, h2]) (fun hn => by
    unfold lz
    split
    · split
      · exact absurd ⟨‹_›, ‹_›⟩ hn
      · rfl
    · rfl) (fun ⟨h1, h2⟩ => h h1 h2)
theorem Quiet.guard3 {op : Op} {v : Value} {j : Nat} {want b b1 w1 b2 w2 : Bool} {g : Nat} (hj : (ops[j]?).bind (·.dst) = some g) (hg : find e g = some (lz b1 w1 (lz b2 w2 (.bool b))))
    (h : b1 = w1 → b2 = w2 → b = want → Quiet P ops ⟨d, op, ty, pos, aft, none⟩ e o r v) : Quiet P ops ⟨d, op, ty, pos, aft, some (j, want)⟩ e o r (lz b1 w1 (lz b2 w2 (lz b want v))) :=
  Quiet.tells hj (.d3 hg) (fun ⟨h1, h2, h3⟩ => by simp [lz, h1, h2, h3]) (fun hn => by
    unfold lz
    split
    · split
      · split
        · exact absurd ⟨‹_›, ‹_›, ‹_›⟩ hn
        · rfl
      · rfl
    · rfl) (fun ⟨h1, h2, h3⟩ => h h1 h2 h3)
/-- A call of a function value that only computes, under guards. -/
theorem Stp.vtells {φ : Prop} {x : Operand} {l : List Operand} {tys : Array TypeId} {y : Value} {vs : List Value} {Hr : List PHeap} {u u' : Value} {j : Nat} {want : Bool} {g : Nat}
    (hj : (ops[j]?).bind (·.dst) = some g) (t : Tells e g want φ) (h1 : φ → u' = u) (h2 : ¬ φ → u' = undef) (hx : φ → ev e x = some y) (hl : φ → EvL e l vs) (hS : φ → VSpec P y vs [] Hr (fun v hs => v = u ∧ hs = [])) [al : AllIn Hr o r] :
    Stp P ops ⟨d, .call ⟨.value x, l.toArray, tys⟩, ty, pos, aft, some (j, want)⟩ e o r (fun v o2 => v = u' ∧ o2 = o) := fun D a w he hs => by
  by_cases hp : φ
  · have hw := t.yes (d := d) (ty := ty) (pos := pos) (aft := aft) (op := .call ⟨.value x, l.toArray, tys⟩) hj he hp
    have hx' : (execOp (evA a) (⟨d, .call ⟨.value x, l.toArray, tys⟩, ty, pos, aft, some (j, want)⟩ : Oper)) = callv y vs.toArray := by
      simp only [execOp, resolve, ev_rel he (hx hp), List.map_toArray, (hl hp).rel he, callv]
    have h := hS hp (D :: o) r w hs (al.more D).pf
    unfold Does
    rw [hw, if_pos rfl, hx']
    unfold NDoes at h
    split at h <;> rename_i heq
    · rw [heq]
      refine h.mono ?_
      rintro e' w' ⟨v, rfl, hs', ⟨rfl, rfl⟩, hS'⟩
      exact ⟨v, rfl, D :: o, ⟨o, ⟨(h1 hp).symm, rfl⟩, List.Perm.refl _⟩, hS'⟩
    · rw [heq]
      intro c0 cs
      obtain ⟨v, w', ⟨hs', ⟨rfl, rfl⟩, hS'⟩, st⟩ := h c0 cs
      exact ⟨v, w', ⟨D :: o, ⟨o, ⟨(h1 hp).symm, rfl⟩, List.Perm.refl _⟩, hS'⟩, st⟩
    · exact h.elim
  · unfold Does
    rw [t.no hj he hp]
    exact ⟨D :: o, ⟨o, ⟨(h2 hp).symm, rfl⟩, List.Perm.refl _⟩, hs⟩
end
section
variable {c : Cx} {ops : Array Oper} {rest : List Oper} {k : List Item} {e : Env} {o r : List PHeap} {d : Nat} {ty : TypeId} {pos : String} {aft : Array Edge}
variable {fl : List Nat} {f : List PHeap} {i0 : Nat} {bb : Bool} {tt uu : Plan}
section
variable {x : Operand} {l : List Operand} {tys : Array TypeId} {y : Value} {vs : List Value} {Hr : List PHeap} {u : Value} {j g : Nat} {want b b1 w1 b2 w2 : Bool}
theorem XO.vg1 (hj : (ops[j]?).bind (·.dst) = some g) (hg : find e g = some (.bool b)) (hx : b = want → ev e x = some y) (hl : b = want → EvL e l vs)
    (hS : b = want → VSpec c.P y vs [] Hr (fun v hs => v = u ∧ hs = [])) [al : AllIn Hr o (c.B :: r)] (h : XO c ops rest k ((d, some (lz b want u)) :: e) o r) :
    XO c ops (⟨some d, .call ⟨.value x, l.toArray, tys⟩, ty, pos, aft, some (j, want)⟩ :: rest) k e o r :=
  XO.s (Stp.vtells hj (.d1 hg) (u' := lz b want u) (fun h => by simp [lz, h]) (fun h => by simp [lz, h]) hx hl hS) fun v o2 ⟨h1, h2⟩ => by subst h1 h2; exact h
theorem XO.vg2 (hj : (ops[j]?).bind (·.dst) = some g) (hg : find e g = some (lz b1 w1 (.bool b))) (hx : b1 = w1 → b = want → ev e x = some y) (hl : b1 = w1 → b = want → EvL e l vs)
    (hS : b1 = w1 → b = want → VSpec c.P y vs [] Hr (fun v hs => v = u ∧ hs = [])) [al : AllIn Hr o (c.B :: r)] (h : XO c ops rest k ((d, some (lz b1 w1 (lz b want u))) :: e) o r) :
    XO c ops (⟨some d, .call ⟨.value x, l.toArray, tys⟩, ty, pos, aft, some (j, want)⟩ :: rest) k e o r :=
  XO.s (Stp.vtells hj (.d2 hg) (u' := lz b1 w1 (lz b want u)) (fun h => by simp [lz, h.1, h.2]) (fun h => by
    unfold lz
    split
    · split
      · exact absurd ⟨‹_›, ‹_›⟩ h
      · rfl
    · rfl) (fun h => hx h.1 h.2) (fun h => hl h.1 h.2) (fun h => hS h.1 h.2)) fun v o2 ⟨h1, h2⟩ => by subst h1 h2; exact h
theorem XT.vg1 (hi : ops[i0]? = some ⟨some d, .call ⟨.value x, l.toArray, tys⟩, ty, pos, aft, some (j, want)⟩) (hok : okOper c.N ⟨some d, .call ⟨.value x, l.toArray, tys⟩, ty, pos, aft, some (j, want)⟩ = true)
    (hj : (ops[j]?).bind (·.dst) = some g) (hg : find e g = some (.bool b)) (hx : b = want → ev e x = some y) (hl : b = want → EvL e l vs)
    (hS : b = want → VSpec c.P y vs [] Hr (fun v hs => v = u ∧ hs = [])) [al : AllIn Hr o (c.B :: r)] (h : Keeps bb f o ∧ XT c ops fl f k r tt ((d, some (lz b want u)) :: e) o) (hu : XT c ops fl f k r uu e o) :
    XT c ops fl f k r (.br i0 bb tt uu) e o :=
  XT.s hi hok (Stp.vtells hj (.d1 hg) (u' := lz b want u) (fun h => by simp [lz, h]) (fun h => by simp [lz, h]) hx hl hS) (fun v o2 ⟨h1, h2⟩ => by subst h1 h2; exact h) hu
theorem XT.vg2 (hi : ops[i0]? = some ⟨some d, .call ⟨.value x, l.toArray, tys⟩, ty, pos, aft, some (j, want)⟩) (hok : okOper c.N ⟨some d, .call ⟨.value x, l.toArray, tys⟩, ty, pos, aft, some (j, want)⟩ = true)
    (hj : (ops[j]?).bind (·.dst) = some g) (hg : find e g = some (lz b1 w1 (.bool b))) (hx : b1 = w1 → b = want → ev e x = some y) (hl : b1 = w1 → b = want → EvL e l vs)
    (hS : b1 = w1 → b = want → VSpec c.P y vs [] Hr (fun v hs => v = u ∧ hs = [])) [al : AllIn Hr o (c.B :: r)] (h : Keeps bb f o ∧ XT c ops fl f k r tt ((d, some (lz b1 w1 (lz b want u))) :: e) o) (hu : XT c ops fl f k r uu e o) :
    XT c ops fl f k r (.br i0 bb tt uu) e o :=
  XT.s hi hok (Stp.vtells hj (.d2 hg) (u' := lz b1 w1 (lz b want u)) (fun h => by simp [lz, h.1, h.2]) (fun h => by
    unfold lz
    split
    · split
      · exact absurd ⟨‹_›, ‹_›⟩ h
      · rfl
    · rfl) (fun h => hx h.1 h.2) (fun h => hl h.1 h.2) (fun h => hS h.1 h.2)) (fun v o2 ⟨h1, h2⟩ => by subst h1 h2; exact h) hu
end
end
end Go.X

/- Shifts and bits, whatever they give. No condition. -/
set_option linter.unusedSimpArgs false
set_option linter.unusedVariables false
namespace Go.X
def andI (k : IntKind) (m n : Int) : Int := k.wrap ((BitVec.ofInt k.bits m &&& BitVec.ofInt k.bits n).toNat : Int)
def shrI (k : IntKind) (m n : Int) : Int := m.fdiv (2 ^ min n.toNat k.bits)
section
variable {P : Program} {ops : Array Oper} {e : Env} {o r : List PHeap} {d : Option Tmp} {ty : TypeId} {pos : String} {aft : Array Edge}
theorem Q.shrW {t t2 : TypeId} {x y : Operand} {k k' : IntKind} {m n : Int} (hx : ev e x = some (.int k m)) (hy : ev e y = some (.int k' n)) (h : 0 ≤ n) :
    Quiet P ops ⟨d, .binOp .shr t x y t2, ty, pos, aft, none⟩ e o r (.int k (shrI k m n)) := Q.bin hx hy fun w => by
  have e1 : binOp .shr t (.int k m) (.int k' n) = Op.shift .shr k m k' n := by simp [binOp]
  rw [e1]
  unfold Op.shift
  rw [if_neg (by omega)]
  rfl
theorem Q.andW {t t2 : TypeId} {x y : Operand} {k : IntKind} {m n : Int} (hx : ev e x = some (.int k m)) (hy : ev e y = some (.int k n)) :
    Quiet P ops ⟨d, .binOp .and t x y t2, ty, pos, aft, none⟩ e o r (.int k (andI k m n)) := Q.bin hx hy fun w => by
  have e1 : binOp .and t (.int k m) (.int k n) = Op.intBits .and k m n := by simp [binOp]
  rw [e1]
  rfl
end
end Go.X

/- Calls under a guard that is known to hold. No condition. -/
set_option linter.unusedSimpArgs false
set_option linter.unusedVariables false
namespace Go.X
section
variable {c : Cx} {ops : Array Oper} {rest : List Oper} {k : List Item} {e : Env} {o r : List PHeap} {d : Nat} {ty : TypeId} {pos : String} {aft : Array Edge}
variable {fl : List Nat} {f : List PHeap} {i0 : Nat} {bb : Bool} {tt uu : Plan}
theorem EvL.evs {e : Env} : ∀ {l : List Operand} {vs : List Value}, EvL e l vs → evs e l = some vs
  | [], _, .n => rfl
  | x :: l, _, .c h r => by simp only [X.evs, h, EvL.evs r]
theorem XO.callS {g : FuncId} {x : Operand} {l : List Operand} {tys : Array TypeId} {fst vs cap A : List Value} {Hm Hr : List PHeap} {R : Value → List PHeap → Prop} {o1 : List PHeap} {j gt : Nat} {want b : Bool}
    (hj : (ops[j]?).bind (·.dst) = some gt) (hg : find e gt = some (.bool b)) (hb : b = want)
    (hc : ∀ args w, (callFunc g args).run c.P w = .ok (.enter g args) w) (hx : ev e x = some (.func (.func g) fst.toArray cap.toArray)) (hl : EvL e l vs) (hA : fst ++ vs ++ cap = A)
    (hS : Spec c.P g A.toArray Hm Hr R) [t : Takes Hm o o1] [al : AllIn Hr o1 (c.B :: r)] (h : ∀ v hs, R v hs → XO c ops rest k ((d, some v) :: e) (hs ++ o1) r) :
    XO c ops (⟨some d, .call ⟨.value x, l.toArray, tys⟩, ty, pos, aft, some (j, want)⟩ :: rest) k e o r :=
  XO.s (Stp.want hj hg hb (Stp.call hc hx hl.evs hA hS)) fun v o2 ⟨hs, hR, h2⟩ => by subst h2; exact h v hs hR
theorem XT.callS {g : FuncId} {x : Operand} {l : List Operand} {tys : Array TypeId} {fst vs cap A : List Value} {Hm Hr : List PHeap} {R : Value → List PHeap → Prop} {o1 : List PHeap} {j gt : Nat} {want b : Bool}
    (hi : ops[i0]? = some ⟨some d, .call ⟨.value x, l.toArray, tys⟩, ty, pos, aft, some (j, want)⟩) (hok : okOper c.N ⟨some d, .call ⟨.value x, l.toArray, tys⟩, ty, pos, aft, some (j, want)⟩ = true)
    (hj : (ops[j]?).bind (·.dst) = some gt) (hg : find e gt = some (.bool b)) (hb : b = want)
    (hc : ∀ args w, (callFunc g args).run c.P w = .ok (.enter g args) w) (hx : ev e x = some (.func (.func g) fst.toArray cap.toArray)) (hl : EvL e l vs) (hA : fst ++ vs ++ cap = A)
    (hS : Spec c.P g A.toArray Hm Hr R) [tk : Takes Hm o o1] [al : AllIn Hr o1 (c.B :: r)] (h : ∀ v hs, R v hs → Keeps bb f (hs ++ o1) ∧ XT c ops fl f k r tt ((d, some v) :: e) (hs ++ o1)) (hu : XT c ops fl f k r uu e o) :
    XT c ops fl f k r (.br i0 bb tt uu) e o :=
  XT.s hi hok (Stp.want hj hg hb (Stp.call hc hx hl.evs hA hS)) (fun v o2 ⟨hs, hR, h2⟩ => by subst h2; exact h v hs hR) hu
end
end Go.X

/- The place of a field of an element. No condition. -/
namespace Go.X
variable {P : Program} {ops : Array Oper} {e : Env} {o r : List PHeap} {d : Option Tmp} {ty : TypeId} {pos : String} {aft : Array Edge}
variable {α : Type} {enc : α → List Value} {sz : Nat} {h : PHeap} {xs : List α} {v : Value}
theorem Q.fieldQ {s' f off : Nat} [fl : Fld P s' f off] {x : Operand} {i k : Nat} (hx : ev e x = some (pat v sz i k)) [s : Arr v enc sz h xs] (hi : i < xs.length) :
    Quiet P ops ⟨d, .fieldAddr s' x f, ty, pos, aft, none⟩ e o r (pat v sz i (k + off)) := Q.fieldP (n := 0) hx hi
end Go.X

/- Plain facts on lists. No condition. -/
set_option linter.unusedVariables false
namespace Go.X
theorem take_step {α : Type} [Inhabited α] {xs ys : List α} {i : Nat} (h : xs.take i = ys.take i) (hx : i < xs.length) (hy : i < ys.length) (he : xs.getD i default = ys.getD i default) : xs.take (i + 1) = ys.take (i + 1) := by
  rw [List.take_succ_eq_append_getElem hx, List.take_succ_eq_append_getElem hy, h]
  simp [hx, hy] at he
  rw [he]
theorem take_all {α : Type} {xs ys : List α} {i : Nat} (h : xs.take i = ys.take i) (hx : ¬ (i : Int) < xs.length) (hl : xs.length = ys.length) : xs = ys := by
  rw [List.take_of_length_le (by omega), List.take_of_length_le (by omega)] at h
  exact h
theorem getD_mem {α : Type} [Inhabited α] {xs : List α} {i : Nat} (h : i < xs.length) : xs.getD i default ∈ xs := by
  simp [h]
/-- The first place that a test takes; -1 if there is none. -/
def findFirst {α : Type} (p : α → Bool) (xs : List α) : Int := match xs.findIdx? p with
  | some i => i
  | none => -1
theorem any_step {α : Type} [Inhabited α] {p : α → Bool} {xs : List α} {i : Nat} (h : (xs.take i).any p = false) (hx : i < xs.length) (hp : p (xs.getD i default) = false) : (xs.take (i + 1)).any p = false := by
  rw [List.take_succ_eq_append_getElem hx, List.any_append, h]
  simp [hx] at hp
  simp [hp]
theorem findFirst_here {α : Type} [Inhabited α] {p : α → Bool} {xs : List α} {i : Nat} (h : (xs.take i).any p = false) (hx : i < xs.length) (hp : p (xs.getD i default) = true) : findFirst p xs = i := by
  unfold findFirst
  have : xs.findIdx? p = some i := by
    rw [List.findIdx?_eq_some_iff_getElem]
    simp [hx] at hp
    refine ⟨hx, hp, fun j hj => ?_⟩
    have := List.any_eq_false.1 h xs[j] (by rw [List.mem_take_iff_getElem]; exact ⟨j, by omega, rfl⟩)
    simpa using this
  rw [this]
theorem findFirst_none {α : Type} {p : α → Bool} {xs : List α} {i : Nat} (h : (xs.take i).any p = false) (hx : ¬ (i : Int) < xs.length) : findFirst p xs = -1 := by
  rw [List.take_of_length_le (by omega)] at h
  unfold findFirst
  have : xs.findIdx? p = none := by
    rw [List.findIdx?_eq_none_iff]
    intro x hx
    have := List.any_eq_false.1 h x hx
    simpa using this
  rw [this]
theorem findFirst_any {α : Type} {p : α → Bool} {xs : List α} : decide ((0 : Int) ≤ findFirst p xs) = xs.any p := by
  unfold findFirst
  cases h : xs.findIdx? p with
  | none =>
    rw [List.findIdx?_eq_none_iff] at h
    have : xs.any p = false := List.any_eq_false.2 (fun x hx => by simp [h x hx])
    simp [this]
  | some i =>
    rw [List.findIdx?_eq_some_iff_getElem] at h
    obtain ⟨hi, hp, _⟩ := h
    have : xs.any p = true := List.any_eq_true.2 ⟨xs[i], List.getElem_mem hi, hp⟩
    simp only [this, decide_eq_true_eq]
    omega
end Go.X

/- Halls, in plain numbers and lists. No condition. -/
set_option linter.unusedVariables false
namespace Go.X
structure HRoom where
  store : Int
  limit : Int
structure HWall where
  a : Int
  b : Int
  pass : Int
structure HBranch where
  up : Int
  opn : Int
  leak : Int
structure HCooler where
  room : Int
  br : Int
  gain : Int
  carry : Int
  supply : Int
instance : Inhabited HRoom := ⟨⟨0, 0⟩⟩
instance : Inhabited HWall := ⟨⟨0, 0, 0⟩⟩
instance : Inhabited HBranch := ⟨⟨0, 0, 0⟩⟩
instance : Inhabited HCooler := ⟨⟨0, 0, 0, 0, 0⟩⟩
structure Hall where
  rooms : List HRoom
  walls : List HWall
  branches : List HBranch
  coolers : List HCooler
structure HCase where
  load : List Int
  out : Int
  pump : Int
def sumTo (f : Nat → Int) : Nat → Int
  | 0 => 0
  | n + 1 => sumTo f n + f n
def inP (n m : Int) : Bool := decide (0 ≤ n) && decide (n ≤ m)
def ixP (n : Int) (len : Nat) : Bool := decide (0 ≤ n) && decide (n < (len : Int))
def okRoom (x : HRoom) : Bool := (decide (1 ≤ x.store) && decide (x.store ≤ 1000000)) && inP x.limit 1000000
def okWall (n : Nat) (x : HWall) : Bool := ((ixP x.a n && (decide (x.b = -1) || ixP x.b n)) && decide (x.a ≠ x.b)) && inP x.pass 100000
def okBranch (i : Nat) (x : HBranch) : Bool := ((if i = 0 then decide (x.up = -1) else ixP x.up i) && inP x.opn 100) && inP x.leak 100000
def okCooler (n m : Nat) (x : HCooler) : Bool := (((ixP x.room n && ixP x.br m) && inP x.gain 100000) && inP x.carry 1000) && inP x.supply 1000000
/-- All of the first n. -/
def allTo (p : Nat → Bool) (n : Nat) : Bool := (List.range n).all p
theorem allTo_succ {p : Nat → Bool} {n : Nat} : allTo p (n + 1) = (allTo p n && p n) := by
  unfold allTo; rw [List.range_succ, List.all_append]; simp
theorem allTo_false {p : Nat → Bool} {n s : Nat} (hs : s < n) (h : p s = false) : allTo p n = false := by
  unfold allTo
  rw [List.all_eq_false]
  exact ⟨s, List.mem_range.2 hs, by simp [h]⟩
theorem allTo_at {p : Nat → Bool} {n s : Nat} (h : allTo p n = true) (hs : s < n) : p s = true := by
  unfold allTo at h
  rw [List.all_eq_true] at h
  exact h s (List.mem_range.2 hs)
def roomsOk (h : Hall) (n : Nat) : Bool := allTo (fun i => okRoom (h.rooms.getD i default)) n
def wallsOk (h : Hall) (n : Nat) : Bool := allTo (fun i => okWall h.rooms.length (h.walls.getD i default)) n
def branchesOk (h : Hall) (n : Nat) : Bool := allTo (fun i => okBranch i (h.branches.getD i default)) n
def coolersOk (h : Hall) (n : Nat) : Bool := allTo (fun i => okCooler h.rooms.length h.branches.length (h.coolers.getD i default)) n
def allowedP (h : Hall) : Bool := ((roomsOk h h.rooms.length && wallsOk h h.walls.length) && branchesOk h h.branches.length) && coolersOk h h.coolers.length
def wslope (h : Hall) (i : Nat) (k : Nat) : Int := if (h.walls.getD k default).a = i ∨ (h.walls.getD k default).b = i then (h.walls.getD k default).pass else 0
def cslope (h : Hall) (i : Nat) (k : Nat) : Int := if (h.coolers.getD k default).room = i then (h.coolers.getD k default).gain else 0
def slope (h : Hall) (i : Nat) : Int := sumTo (wslope h i) h.walls.length + sumTo (cslope h i) h.coolers.length
def hcheck (h : Hall) : Int :=
  if (((((h.rooms.length : Int) < 1 ∨ 8 < (h.rooms.length : Int)) ∨ 16 < (h.walls.length : Int)) ∨ 16 < (h.branches.length : Int)) ∨ 16 < (h.coolers.length : Int)) then 2
  else if allowedP h = false then 6
  else if allTo (fun i => decide (slope h i ≤ (h.rooms.getD i default).store)) h.rooms.length = true then 0 else 70
/-- What is known of a valid hall. -/
structure HOk (h : Hall) : Prop where
  r1 : 1 ≤ h.rooms.length
  r2 : h.rooms.length ≤ 8
  w2 : h.walls.length ≤ 16
  b2 : h.branches.length ≤ 16
  c2 : h.coolers.length ≤ 16
  room : ∀ i, i < h.rooms.length → 1 ≤ (h.rooms.getD i default).store ∧ (h.rooms.getD i default).store ≤ 1000000 ∧ 0 ≤ (h.rooms.getD i default).limit ∧ (h.rooms.getD i default).limit ≤ 1000000
  wall : ∀ i, i < h.walls.length → (0 ≤ (h.walls.getD i default).a ∧ (h.walls.getD i default).a < h.rooms.length) ∧ ((h.walls.getD i default).b = -1 ∨ (0 ≤ (h.walls.getD i default).b ∧ (h.walls.getD i default).b < h.rooms.length)) ∧
    (h.walls.getD i default).a ≠ (h.walls.getD i default).b ∧ 0 ≤ (h.walls.getD i default).pass ∧ (h.walls.getD i default).pass ≤ 100000
  branch : ∀ i, i < h.branches.length → (if i = 0 then (h.branches.getD i default).up = -1 else 0 ≤ (h.branches.getD i default).up ∧ (h.branches.getD i default).up < i) ∧ (0 ≤ (h.branches.getD i default).opn ∧ (h.branches.getD i default).opn ≤ 100) ∧
    0 ≤ (h.branches.getD i default).leak ∧ (h.branches.getD i default).leak ≤ 100000
  cooler : ∀ i, i < h.coolers.length → (0 ≤ (h.coolers.getD i default).room ∧ (h.coolers.getD i default).room < h.rooms.length) ∧ (0 ≤ (h.coolers.getD i default).br ∧ (h.coolers.getD i default).br < h.branches.length) ∧
    (0 ≤ (h.coolers.getD i default).gain ∧ (h.coolers.getD i default).gain ≤ 100000) ∧ (0 ≤ (h.coolers.getD i default).carry ∧ (h.coolers.getD i default).carry ≤ 1000) ∧ 0 ≤ (h.coolers.getD i default).supply ∧ (h.coolers.getD i default).supply ≤ 1000000
  slope : ∀ i, i < h.rooms.length → X.slope h i ≤ (h.rooms.getD i default).store
theorem hcheck_ok {h : Hall} (hc : hcheck h = 0) : HOk h := by
  unfold hcheck at hc
  split at hc
  · omega
  · rename_i h1
    split at hc
    · omega
    · rename_i h2
      split at hc
      · rename_i h3
        simp only [Bool.not_eq_false, allowedP, Bool.and_eq_true] at h2
        obtain ⟨⟨⟨a1, a2⟩, a3⟩, a4⟩ := h2
        refine ⟨by omega, by omega, by omega, by omega, by omega, fun i hi => ?_, fun i hi => ?_, fun i hi => ?_, fun i hi => ?_, fun i hi => ?_⟩
        · have := allTo_at a1 hi
          simp only [okRoom, inP, Bool.and_eq_true, decide_eq_true_eq] at this
          omega
        · have := allTo_at a2 hi
          simp only [okWall, inP, ixP, Bool.and_eq_true, Bool.or_eq_true, decide_eq_true_eq] at this
          omega
        · have := allTo_at a3 hi
          simp only [okBranch, inP, ixP, Bool.and_eq_true, decide_eq_true_eq] at this
          by_cases h0 : i = 0
          · subst h0; simp only [if_true, decide_eq_true_eq] at this ⊢; omega
          · rw [if_neg h0] at this ⊢
            simp only [Bool.and_eq_true, decide_eq_true_eq] at this
            omega
        · have := allTo_at a4 hi
          simp only [okCooler, inP, ixP, Bool.and_eq_true, decide_eq_true_eq] at this
          omega
        · have := allTo_at h3 hi
          simpa using this
      · omega
/-- The sum of what is open below a branch. -/
def sumOpen (h : Hall) (u : Int) (n : Nat) : Int := sumTo (fun k => if (h.branches.getD k default).up = u then (h.branches.getD k default).opn else 0) n
def feedOf (h : Hall) (pump : Int) (out : List Int) (n : Nat) : Int :=
  if n = 0 then pump
  else if 0 < sumOpen h (h.branches.getD n default).up h.branches.length then
    out.getD (h.branches.getD n default).up.toNat 0 * (h.branches.getD n default).opn / sumOpen h (h.branches.getD n default).up h.branches.length
  else 0
def flowsTo (h : Hall) (pump : Int) : Nat → List Int
  | 0 => []
  | n + 1 => flowsTo h pump n ++ [max (feedOf h pump (flowsTo h pump n) n - (h.branches.getD n default).leak) 0]
def flowsL (h : Hall) (pump : Int) : List Int := flowsTo h pump h.branches.length
def onBr (h : Hall) (b : Int) (n : Nat) : Int := sumTo (fun k => if (h.coolers.getD k default).br = b then 1 else 0) n
def takenAt (h : Hall) (t f : List Int) (k : Nat) : Int :=
  min (max ((h.coolers.getD k default).gain * (t.getD (h.coolers.getD k default).room.toNat 0 - (h.coolers.getD k default).supply)) 0)
    ((h.coolers.getD k default).carry * f.getD (h.coolers.getD k default).br.toNat 0 / onBr h (h.coolers.getD k default).br h.coolers.length)
def takenL (h : Hall) (t : List Int) (pump : Int) : List Int := (List.range h.coolers.length).map (takenAt h t (flowsL h pump))
def wheat (h : Hall) (t : List Int) (out : Int) (i : Nat) (k : Nat) : Int :=
  if (h.walls.getD k default).a = i then (h.walls.getD k default).pass * ((if 0 ≤ (h.walls.getD k default).b then t.getD (h.walls.getD k default).b.toNat 0 else out) - t.getD i 0)
  else if (h.walls.getD k default).b = i then (h.walls.getD k default).pass * (t.getD (h.walls.getD k default).a.toNat 0 - t.getD i 0)
  else 0
def cheat (h : Hall) (taken : List Int) (i : Nat) (k : Nat) : Int := if (h.coolers.getD k default).room = i then - taken.getD k 0 else 0
def heatOf (h : Hall) (t : List Int) (c : HCase) (i : Nat) : Int :=
  (h.rooms.getD i default).store * t.getD i 0 + c.load.getD i 0 + sumTo (wheat h t c.out i) h.walls.length + sumTo (cheat h (takenL h t c.pump) i) h.coolers.length
def nextAt (h : Hall) (t : List Int) (c : HCase) (i : Nat) : Int := min (heatOf h t c i / (h.rooms.getD i default).store) 1000000
def nextL (h : Hall) (t : List Int) (c : HCase) : List Int := (List.range h.rooms.length).map (nextAt h t c)
def warmP (h : Hall) (t : List Int) : Int := if (t.length : Int) ≠ h.rooms.length then 1 else if t.any (fun n => !inP n 1000000) = true then 6 else 0
def casedP (h : Hall) (c : HCase) : Int := if (c.load.length : Int) ≠ h.rooms.length then 1 else if (c.load.any (fun n => !inP n 10000000) = true ∨ ¬ inP c.out 1000000 = true) ∨ ¬ inP c.pump 100000 = true then 6 else 0
def bothP (l : List Int) : Int := if 1 ∈ l then 1 else if 6 ∈ l then 6 else 0
def nextG (h : Hall) (t : List Int) (c : HCase) : List Int × Int :=
  if hcheck h ≠ 0 then ([], hcheck h) else if bothP [warmP h t, casedP h c] ≠ 0 then ([], bothP [warmP h t, casedP h c]) else (nextL h t c, 0)
def flowsG (h : Hall) (pump : Int) : List Int × Int := if hcheck h ≠ 0 then ([], hcheck h) else if ¬ inP pump 100000 = true then ([], 6) else (flowsL h pump, 0)
structure TOk (h : Hall) (t : List Int) : Prop where
  len : t.length = h.rooms.length
  rng : ∀ i, i < t.length → 0 ≤ t.getD i 0 ∧ t.getD i 0 ≤ 1000000
structure COk (h : Hall) (c : HCase) : Prop where
  len : c.load.length = h.rooms.length
  rng : ∀ i, i < c.load.length → 0 ≤ c.load.getD i 0 ∧ c.load.getD i 0 ≤ 10000000
  out : 0 ≤ c.out ∧ c.out ≤ 1000000
  pump : 0 ≤ c.pump ∧ c.pump ≤ 100000
theorem any_no {l : List Int} {m : Int} (h : ¬ l.any (fun n => !inP n m) = true) (i : Nat) (hi : i < l.length) : 0 ≤ l.getD i 0 ∧ l.getD i 0 ≤ m := by
  have h1 : l.any (fun n => !inP n m) = false := by simpa using h
  have := List.any_eq_false.1 h1 (l.getD i 0) (getD_mem hi)
  simp only [inP, Bool.not_eq_true', Bool.and_eq_false_iff, decide_eq_false_iff_not] at this
  omega
theorem warm_ok {h : Hall} {t : List Int} (hw : warmP h t = 0) : TOk h t := by
  unfold warmP at hw
  split at hw
  · omega
  · split at hw
    · omega
    · rename_i h1 h2
      exact ⟨by omega, any_no h2⟩
theorem cased_ok {h : Hall} {c : HCase} (hw : casedP h c = 0) : COk h c := by
  unfold casedP at hw
  split at hw
  · omega
  · split at hw
    · omega
    · rename_i h1 h2
      simp only [not_or, Classical.not_not] at h2
      obtain ⟨⟨a, b⟩, d⟩ := h2
      simp only [inP, Bool.and_eq_true, decide_eq_true_eq] at b d
      exact ⟨by omega, any_no a, b, d⟩
theorem warm_vals (h : Hall) (t : List Int) : warmP h t = 0 ∨ warmP h t = 1 ∨ warmP h t = 6 := by
  unfold warmP; split
  · simp
  · split <;> simp
theorem cased_vals (h : Hall) (c : HCase) : casedP h c = 0 ∨ casedP h c = 1 ∨ casedP h c = 6 := by
  unfold casedP; split
  · simp
  · split <;> simp
theorem both_ok {h : Hall} {t : List Int} {c : HCase} (hb : bothP [warmP h t, casedP h c] = 0) : TOk h t ∧ COk h c := by
  have h1 := warm_vals h t
  have h2 := cased_vals h c
  unfold bothP at hb
  split at hb
  · omega
  · split at hb
    · omega
    · rename_i h3 h4
      simp only [List.mem_cons, List.not_mem_nil, or_false, not_or] at h3 h4
      exact ⟨warm_ok (by omega), cased_ok (by omega)⟩
end Go.X

/- Flows: what a branch has; below which branch it hangs. No condition. -/
set_option linter.unusedVariables false
namespace Go.X
theorem sum_zero {f : Nat → Int} : ∀ {n : Nat}, (∀ k, k < n → f k = 0) → sumTo f n = 0
  | 0, _ => rfl
  | n + 1, h => by rw [sumTo, sum_zero fun k hk => h k (by omega), h n (by omega)]; rfl
theorem sum_nonneg {f : Nat → Int} : ∀ {n : Nat}, (∀ k, k < n → 0 ≤ f k) → 0 ≤ sumTo f n
  | 0, _ => Int.le_refl _
  | n + 1, h => by
    have h1 := sum_nonneg (f := f) (n := n) fun k hk => h k (by omega)
    have h2 := h n (by omega)
    rw [sumTo]; omega
theorem sum_mono {f g : Nat → Int} : ∀ {n : Nat}, (∀ k, k < n → f k ≤ g k) → sumTo f n ≤ sumTo g n
  | 0, _ => Int.le_refl _
  | n + 1, h => by
    have h1 := sum_mono (f := f) (g := g) (n := n) fun k hk => h k (by omega)
    have h2 := h n (by omega)
    rw [sumTo, sumTo]; omega
theorem sum_add {f g : Nat → Int} : ∀ {n : Nat}, sumTo (fun k => f k + g k) n = sumTo f n + sumTo g n
  | 0 => rfl
  | n + 1 => by rw [sumTo, sumTo, sumTo, sum_add]; omega
theorem sum_mul {f : Nat → Int} {c : Int} : ∀ {n : Nat}, sumTo (fun k => c * f k) n = c * sumTo f n
  | 0 => by simp [sumTo]
  | n + 1 => by rw [sumTo, sumTo, sum_mul, Int.mul_add]
theorem sum_congr {f g : Nat → Int} : ∀ {n : Nat}, (∀ k, k < n → f k = g k) → sumTo f n = sumTo g n
  | 0, _ => rfl
  | n + 1, h => by rw [sumTo, sumTo, sum_congr fun k hk => h k (by omega), h n (by omega)]
theorem sum_le {f : Nat → Int} {M : Int} : ∀ {n : Nat}, (∀ k, k < n → f k ≤ M) → sumTo f n ≤ n * M
  | 0, _ => by simp [sumTo]
  | n + 1, h => by
    have h1 := sum_le (f := f) (n := n) (M := M) fun k hk => h k (by omega)
    have h2 := h n (by omega)
    have h3 : ((n + 1 : Nat) : Int) * M = n * M + M := by rw [Int.natCast_add, Int.add_mul]; simp
    rw [sumTo, h3]; omega
theorem sum_part {f : Nat → Int} {n m : Nat} (h : m ≤ n) (hf : ∀ k, k < n → 0 ≤ f k) : sumTo f m ≤ sumTo f n := by
  induction n with
  | zero => rw [show m = 0 by omega]; exact Int.le_refl _
  | succ n ih =>
    rcases Nat.lt_or_ge m (n + 1) with h1 | h1
    · have h2 := ih (by omega) fun k hk => hf k (by omega)
      have h3 := hf n (by omega)
      rw [sumTo]; omega
    · rw [show m = n + 1 by omega]; exact Int.le_refl _
theorem sum_one {f : Nat → Int} {n k : Nat} (h : k < n) (hf : ∀ k, k < n → 0 ≤ f k) : f k ≤ sumTo f n := by
  have h1 := sum_part (f := f) (n := n) (m := k + 1) (by omega) hf
  have h2 := sum_nonneg (f := f) (n := k) fun j hj => hf j (by omega)
  rw [sumTo] at h1; omega
theorem flowsTo_len (h : Hall) (pump : Int) : ∀ n, (flowsTo h pump n).length = n
  | 0 => rfl
  | n + 1 => by rw [flowsTo, List.length_append, flowsTo_len]; rfl
theorem flowsTo_getD (h : Hall) (pump : Int) {n i : Nat} (hi : i < n) : (flowsTo h pump n).getD i 0 = max (feedOf h pump (flowsTo h pump i) i - (h.branches.getD i default).leak) 0 := by
  induction n with
  | zero => omega
  | succ n ih =>
    rw [flowsTo]
    rcases Nat.lt_or_ge i n with h1 | h1
    · rw [List.getD_eq_getElem?_getD, List.getElem?_append_left (by rw [flowsTo_len]; exact h1), ← List.getD_eq_getElem?_getD]
      exact ih h1
    · have h2 : i = n := by omega
      subst h2
      rw [List.getD_eq_getElem?_getD, List.getElem?_append_right (by rw [flowsTo_len]; exact Nat.le_refl _), flowsTo_len, Nat.sub_self]
      rfl
theorem flows_len (h : Hall) (pump : Int) : (flowsL h pump).length = h.branches.length := flowsTo_len ..
section
variable {h : Hall} (ok : HOk h)
include ok
theorem up_of {i : Nat} (hi : i < h.branches.length) (h0 : i ≠ 0) : 0 ≤ (h.branches.getD i default).up ∧ (h.branches.getD i default).up < i := by
  have := (ok.branch i hi).1
  rw [if_neg h0] at this
  exact this
theorem up_zero (hi : 0 < h.branches.length) : (h.branches.getD 0 default).up = -1 := by
  have := (ok.branch 0 hi).1
  rw [if_pos rfl] at this
  exact this
theorem feed_same {pump : Int} {i : Nat} (hi : i < h.branches.length) : feedOf h pump (flowsTo h pump i) i = feedOf h pump (flowsL h pump) i := by
  unfold feedOf
  by_cases h0 : i = 0
  · rw [if_pos h0, if_pos h0]
  · rw [if_neg h0, if_neg h0]
    obtain ⟨h1, h2⟩ := up_of ok hi h0
    have e : (flowsTo h pump i).getD (h.branches.getD i default).up.toNat 0 = (flowsL h pump).getD (h.branches.getD i default).up.toNat 0 := by
      unfold flowsL
      rw [flowsTo_getD h pump (by omega), flowsTo_getD h pump (by omega)]
    rw [e]
theorem flows_at {pump : Int} {i : Nat} (hi : i < h.branches.length) : (flowsL h pump).getD i 0 = max (feedOf h pump (flowsL h pump) i - (h.branches.getD i default).leak) 0 := by
  rw [← feed_same ok hi]
  exact flowsTo_getD h pump hi
theorem open_nonneg (u : Int) {n : Nat} (hn : n ≤ h.branches.length) : 0 ≤ sumOpen h u n := sum_nonneg fun k hk => by
  have := (ok.branch k (by omega)).2.1
  split <;> omega
theorem open_le (u : Int) {n : Nat} (hn : n ≤ h.branches.length) : sumOpen h u n ≤ 1600 := by
  have h1 := sum_le (f := fun k => if (h.branches.getD k default).up = u then (h.branches.getD k default).opn else 0) (n := n) (M := 100) fun k hk => by
    have := (ok.branch k (by omega)).2.1
    split <;> omega
  have h2 := ok.b2
  change sumOpen h u n ≤ _ at h1
  omega
theorem open_one {k : Nat} (hk : k < h.branches.length) : (h.branches.getD k default).opn ≤ sumOpen h (h.branches.getD k default).up h.branches.length := by
  have := sum_one (f := fun j => if (h.branches.getD j default).up = (h.branches.getD k default).up then (h.branches.getD j default).opn else 0) hk fun j hj => by
    have := (ok.branch j hj).2.1
    split <;> omega
  rw [if_pos rfl] at this
  exact this
omit ok in
theorem share_le {x o s : Int} (hx : 0 ≤ x) (ho : 0 ≤ o) (hos : o ≤ s) (hs : 0 < s) : 0 ≤ x * o / s ∧ x * o / s ≤ x := by
  constructor
  · exact Int.ediv_nonneg (Int.mul_nonneg hx ho) (by omega)
  · have h1 : x * o ≤ x * s := Int.mul_le_mul_of_nonneg_left hos hx
    have h2 := Int.ediv_le_ediv hs h1
    rwa [Int.mul_ediv_cancel _ (by omega)] at h2
theorem flows_rng {pump : Int} (hp : 0 ≤ pump) : ∀ i, i < h.branches.length → 0 ≤ (flowsL h pump).getD i 0 ∧ (flowsL h pump).getD i 0 ≤ pump := by
  intro i
  induction i using Nat.strongRecOn with
  | _ i ih =>
    intro hi
    rw [flows_at ok hi]
    have hlk := (ok.branch i hi).2.2
    have hfd : 0 ≤ feedOf h pump (flowsL h pump) i ∧ feedOf h pump (flowsL h pump) i ≤ pump := by
      unfold feedOf
      by_cases h0 : i = 0
      · rw [if_pos h0]; omega
      · rw [if_neg h0]
        obtain ⟨h1, h2⟩ := up_of ok hi h0
        split
        · rename_i hs
          have h3 := ih _ (show (h.branches.getD i default).up.toNat < i by omega) (by omega)
          have h4 := (ok.branch i hi).2.1
          have h5 := share_le h3.1 h4.1 (open_one ok hi) hs
          omega
        · omega
    omega
end
/-- i is j, or j hangs on it, directly or not. -/
inductive Sub (h : Hall) : Nat → Nat → Prop
  | self (i : Nat) : Sub h i i
  | step {i j : Nat} (hj : j < h.branches.length) (h0 : j ≠ 0) (s : Sub h i (h.branches.getD j default).up.toNat) : Sub h i j
section
variable {h : Hall} (ok : HOk h)
include ok
theorem Sub.le {i j : Nat} (s : Sub h i j) : i ≤ j := by
  induction s with
  | self => exact Nat.le_refl _
  | step hj h0 s ih =>
    have := up_of ok hj h0
    omega
omit ok in
theorem Sub.chain {a b j : Nat} (s : Sub h a j) : Sub h b j → Sub h a b ∨ Sub h b a := by
  induction s with
  | self => intro t; exact .inr t
  | step hj h0 s ih =>
    intro t
    cases t with
    | self => exact .inl (.step hj h0 s)
    | step hj' h0' t => exact ih t
theorem Sub.one {c d i j : Nat} (s : Sub h c j) (t : Sub h d j) (hc : c < h.branches.length) (hd : d < h.branches.length) (hc0 : c ≠ 0) (hd0 : d ≠ 0) (uc : (h.branches.getD c default).up = i) (ud : (h.branches.getD d default).up = i) : c = d := by
  have h1 := up_of ok hc hc0
  have h2 := up_of ok hd hd0
  rcases s.chain t with h3 | h3
  · cases h3 with
    | self => rfl
    | step hj h0 h4 =>
      have := h4.le ok
      omega
  · cases h3 with
    | self => rfl
    | step hj h0 h4 =>
      have := h4.le ok
      omega
theorem Sub.split {i j : Nat} (s : Sub h i j) : i = j ∨ ∃ c, c < h.branches.length ∧ c ≠ 0 ∧ (h.branches.getD c default).up = i ∧ Sub h c j := by
  induction s with
  | self => exact .inl rfl
  | @step j hj h0 s ih =>
    right
    have h1 := up_of ok hj h0
    rcases ih with h2 | ⟨c, a, b, d, e⟩
    · exact ⟨j, hj, h0, by omega, .self j⟩
    · exact ⟨c, a, b, d, .step hj h0 e⟩
omit ok in
theorem Sub.under {i c j : Nat} (hc : c < h.branches.length) (h0 : c ≠ 0) (u : (h.branches.getD c default).up = i) (s : Sub h c j) : Sub h i j := by
  induction s with
  | self => exact .step hc h0 (by rw [u]; simpa using Sub.self i)
  | step hj h0 s ih => exact .step hj h0 ih
theorem zero_below {pump : Int} {i j : Nat} (hs : ¬ 0 < sumOpen h i h.branches.length) (s : Sub h i j) : j ≠ i → (flowsL h pump).getD j 0 = 0 := by
  induction s with
  | self => intro hn; exact absurd rfl hn
  | @step j hj h0 s ih =>
    intro _
    have h1 := up_of ok hj h0
    have h2 := (ok.branch j hj).2.2
    rw [flows_at ok hj]
    have h3 : feedOf h pump (flowsL h pump) j = 0 := by
      unfold feedOf
      rw [if_neg h0]
      by_cases hu : (h.branches.getD j default).up.toNat = i
      · rw [if_neg]
        rw [show (h.branches.getD j default).up = (i : Int) by omega]
        exact hs
      · rw [ih hu]
        split
        · simp
        · rfl
    rw [h3]
    omega
end
end Go.X

/- What a hall whose numbers are allowed has; slopes. No condition. -/
set_option linter.unusedVariables false
namespace Go.X
theorem allowed_facts {h : Hall} (ha : allowedP h = true) :
    (∀ i, i < h.rooms.length → 1 ≤ (h.rooms.getD i default).store ∧ (h.rooms.getD i default).store ≤ 1000000 ∧ 0 ≤ (h.rooms.getD i default).limit ∧ (h.rooms.getD i default).limit ≤ 1000000) ∧
    (∀ i, i < h.walls.length → (0 ≤ (h.walls.getD i default).a ∧ (h.walls.getD i default).a < h.rooms.length) ∧ ((h.walls.getD i default).b = -1 ∨ (0 ≤ (h.walls.getD i default).b ∧ (h.walls.getD i default).b < h.rooms.length)) ∧
      (h.walls.getD i default).a ≠ (h.walls.getD i default).b ∧ 0 ≤ (h.walls.getD i default).pass ∧ (h.walls.getD i default).pass ≤ 100000) ∧
    (∀ i, i < h.coolers.length → (0 ≤ (h.coolers.getD i default).room ∧ (h.coolers.getD i default).room < h.rooms.length) ∧ (0 ≤ (h.coolers.getD i default).br ∧ (h.coolers.getD i default).br < h.branches.length) ∧
      (0 ≤ (h.coolers.getD i default).gain ∧ (h.coolers.getD i default).gain ≤ 100000) ∧ (0 ≤ (h.coolers.getD i default).carry ∧ (h.coolers.getD i default).carry ≤ 1000) ∧ 0 ≤ (h.coolers.getD i default).supply ∧ (h.coolers.getD i default).supply ≤ 1000000) := by
  simp only [allowedP, Bool.and_eq_true] at ha
  obtain ⟨⟨⟨a1, a2⟩, a3⟩, a4⟩ := ha
  refine ⟨fun i hi => ?_, fun i hi => ?_, fun i hi => ?_⟩
  · have := allTo_at a1 hi
    simp only [okRoom, inP, Bool.and_eq_true, decide_eq_true_eq] at this
    omega
  · have := allTo_at a2 hi
    simp only [okWall, inP, ixP, Bool.and_eq_true, Bool.or_eq_true, decide_eq_true_eq] at this
    omega
  · have := allTo_at a4 hi
    simp only [okCooler, inP, ixP, Bool.and_eq_true, decide_eq_true_eq] at this
    omega
theorem wslope_rng {h : Hall} (ha : allowedP h = true) (i : Nat) {k : Nat} (hk : k < h.walls.length) : 0 ≤ wslope h i k ∧ wslope h i k ≤ 100000 := by
  have := (allowed_facts ha).2.1 k hk
  unfold wslope
  split <;> omega
theorem cslope_rng {h : Hall} (ha : allowedP h = true) (i : Nat) {k : Nat} (hk : k < h.coolers.length) : 0 ≤ cslope h i k ∧ cslope h i k ≤ 100000 := by
  have := (allowed_facts ha).2.2 k hk
  unfold cslope
  split <;> omega
theorem wsum_rng {h : Hall} (ha : allowedP h = true) (hw : h.walls.length ≤ 16) (i : Nat) {k : Nat} (hk : k ≤ h.walls.length) : 0 ≤ sumTo (wslope h i) k ∧ sumTo (wslope h i) k ≤ 1600000 := by
  have h1 := sum_nonneg (f := wslope h i) (n := k) fun j hj => (wslope_rng ha i (by omega)).1
  have h2 := sum_le (f := wslope h i) (n := k) (M := 100000) fun j hj => (wslope_rng ha i (by omega)).2
  omega
theorem csum_rng {h : Hall} (ha : allowedP h = true) (hc : h.coolers.length ≤ 16) (i : Nat) {k : Nat} (hk : k ≤ h.coolers.length) : 0 ≤ sumTo (cslope h i) k ∧ sumTo (cslope h i) k ≤ 1600000 := by
  have h1 := sum_nonneg (f := cslope h i) (n := k) fun j hj => (cslope_rng ha i (by omega)).1
  have h2 := sum_le (f := cslope h i) (n := k) (M := 100000) fun j hj => (cslope_rng ha i (by omega)).2
  omega
end Go.X

/- Feeding the branches, one after the other. No condition. -/
set_option linter.unusedVariables false
namespace Go.X
theorem open_pos {h : Hall} {u : Int} {k : Nat} (hu : (h.branches.getD k default).up = u) : sumOpen h u k + (h.branches.getD k default).opn = sumOpen h u (k + 1) := by
  unfold sumOpen; rw [sumTo, if_pos hu]
theorem open_neg {h : Hall} {u : Int} {k : Nat} (hu : ¬ (h.branches.getD k default).up = u) : sumOpen h u k = sumOpen h u (k + 1) := by
  unfold sumOpen; rw [sumTo, if_neg hu, Int.add_zero]
def Done (h : Hall) (i k j : Nat) : Prop := j = i ∨ ∃ c, c < k ∧ c ≠ 0 ∧ (h.branches.getD c default).up = (i : Int) ∧ Sub h c j
theorem done_succ {h : Hall} {i k j : Nat} : Done h i (k + 1) j ↔ Done h i k j ∨ (k ≠ 0 ∧ (h.branches.getD k default).up = (i : Int) ∧ Sub h k j) := by
  unfold Done
  constructor
  · rintro (h1 | ⟨c, a, b, d, e⟩)
    · exact .inl (.inl h1)
    · rcases Nat.lt_or_ge c k with h2 | h2
      · exact .inl (.inr ⟨c, h2, b, d, e⟩)
      · have h3 : c = k := by omega
        subst h3
        exact .inr ⟨b, d, e⟩
  · rintro ((h1 | ⟨c, a, b, d, e⟩) | ⟨b, d, e⟩)
    · exact .inl h1
    · exact .inr ⟨c, by omega, b, d, e⟩
    · exact .inr ⟨k, by omega, b, d, e⟩
/-- The state of the list while the branches below i are fed: the first k are looked at. -/
structure Fed (h : Hall) (pump : Int) (i k : Nat) (o z : List Int) : Prop where
  len : z.length = h.branches.length
  yes : ∀ j, j < h.branches.length → Done h i k j → z.getD j 0 = (flowsL h pump).getD j 0
  no : ∀ j, ¬ Done h i k j → z.getD j 0 = o.getD j 0
section
variable {h : Hall} (ok : HOk h) {pump : Int} {i : Nat} {o z : List Int}
include ok
theorem done_sub {j : Nat} (hi : i < h.branches.length) : Sub h i j ↔ Done h i h.branches.length j := by
  constructor
  · intro s
    rcases s.split ok with h1 | ⟨c, a, b, d, e⟩
    · exact .inl h1.symm
    · exact .inr ⟨c, a, b, d, e⟩
  · rintro (h1 | ⟨c, a, b, d, e⟩)
    · rw [h1]; exact .self i
    · exact Sub.under a b d e
theorem not_zero {k : Nat} (hk : k < h.branches.length) (u : (h.branches.getD k default).up = (i : Int)) : k ≠ 0 := by
  rintro rfl
  have := up_zero ok hk
  omega
theorem apart {k j : Nat} (hk : k < h.branches.length) (u : (h.branches.getD k default).up = (i : Int)) (s : Sub h k j) : ¬ Done h i k j := by
  have h0 := not_zero ok hk u
  have h1 := up_of ok hk h0
  rintro (h2 | ⟨c, a, b, d, e⟩)
  · have := s.le ok
    omega
  · have := Sub.one ok e s (by omega) hk b h0 d u
    omega
theorem feed_child {k : Nat} (hk : k < h.branches.length) (u : (h.branches.getD k default).up = (i : Int)) (hs : 0 < sumOpen h i h.branches.length) :
    (flowsL h pump).getD k 0 = max ((flowsL h pump).getD i 0 * (h.branches.getD k default).opn / sumOpen h i h.branches.length - (h.branches.getD k default).leak) 0 := by
  rw [flows_at ok hk]
  unfold feedOf
  rw [if_neg (not_zero ok hk u), u, if_pos hs, Int.toNat_natCast]
omit ok in
theorem fed_start (hi : i < h.branches.length) (ho : o.length = h.branches.length) : Fed h pump i 0 o (o.set i ((flowsL h pump).getD i 0)) where
  len := by rw [List.length_set]; exact ho
  yes := fun j hj hd => by
    rcases hd with h1 | ⟨c, a, _⟩
    · subst h1
      rw [List.getD_eq_getElem?_getD, List.getElem?_set, if_pos rfl, if_pos (by omega)]; rfl
    · omega
  no := fun j hn => by
    rw [List.getD_eq_getElem?_getD, List.getElem?_set, if_neg (fun h1 => hn (.inl h1.symm)), ← List.getD_eq_getElem?_getD]
theorem fed_skip {k : Nat} (f : Fed h pump i k o z) (hk : k < h.branches.length) (hz : ∀ j, Sub h i j → o.getD j 0 = 0) (hn : ¬ ((h.branches.getD k default).up = (i : Int) ∧ 0 < sumOpen h i h.branches.length)) : Fed h pump i (k + 1) o z where
  len := f.len
  yes := fun j hj hd => by
    rcases done_succ.1 hd with h1 | ⟨h0, u, s⟩
    · exact f.yes j hj h1
    · have hs : ¬ 0 < sumOpen h i h.branches.length := fun h => hn ⟨u, h⟩
      have hu := up_of ok hk h0
      have hsi : Sub h i j := Sub.under hk h0 u s
      rw [f.no j (apart ok hk u s), hz j hsi, zero_below ok hs hsi (by have := s.le ok; omega)]
  no := fun j hd => f.no j fun h1 => hd (done_succ.2 (.inl h1))
theorem fed_call {k : Nat} {y : List Int} (f : Fed h pump i k o z) (hk : k < h.branches.length) (u : (h.branches.getD k default).up = (i : Int)) (hl : y.length = h.branches.length)
    (hy : ∀ j, j < h.branches.length → Sub h k j → y.getD j 0 = (flowsL h pump).getD j 0) (hn : ∀ j, ¬ Sub h k j → y.getD j 0 = z.getD j 0) : Fed h pump i (k + 1) o y where
  len := hl
  yes := fun j hj hd => by
    by_cases s : Sub h k j
    · exact hy j hj s
    · rcases done_succ.1 hd with h1 | ⟨_, _, s'⟩
      · rw [hn j s]; exact f.yes j hj h1
      · exact absurd s' s
  no := fun j hd => by
    have h1 : ¬ Sub h k j := fun s => hd (done_succ.2 (.inr ⟨not_zero ok hk u, u, s⟩))
    rw [hn j h1]
    exact f.no j fun h2 => hd (done_succ.2 (.inl h2))
theorem fed_zero {k : Nat} (f : Fed h pump i k o z) (hk : k < h.branches.length) (u : (h.branches.getD k default).up = (i : Int)) (hz : ∀ j, Sub h i j → o.getD j 0 = 0) : ∀ j, Sub h k j → z.getD j 0 = 0 := fun j s => by
  rw [f.no j (apart ok hk u s)]
  exact hz j (Sub.under hk (not_zero ok hk u) u s)
theorem sub_root : ∀ j, j < h.branches.length → Sub h 0 j := by
  intro j
  induction j using Nat.strongRecOn with
  | _ j ih =>
    intro hj
    by_cases h0 : j = 0
    · rw [h0]; exact .self 0
    · have h1 := up_of ok hj h0
      exact .step hj h0 (ih _ (by omega) (by omega))
end
end Go.X

/- What coolers take; the heat that walls and coolers bring: in range. No condition. -/
set_option linter.unusedVariables false
set_option linter.unusedSectionVars false
namespace Go.X
theorem onBr_rng {h : Hall} (b : Int) (n : Nat) : 0 ≤ onBr h b n ∧ onBr h b n ≤ n := by
  have h1 := sum_nonneg (f := fun k => if (h.coolers.getD k default).br = b then (1 : Int) else 0) (n := n) fun k _ => by split <;> omega
  have h2 := sum_le (f := fun k => if (h.coolers.getD k default).br = b then (1 : Int) else 0) (n := n) (M := 1) fun k _ => by split <;> omega
  unfold onBr
  omega
theorem onBr_pos {h : Hall} {k : Nat} (hk : k < h.coolers.length) : 1 ≤ onBr h (h.coolers.getD k default).br h.coolers.length := by
  have := sum_one (f := fun j => if (h.coolers.getD j default).br = (h.coolers.getD k default).br then (1 : Int) else 0) hk fun j _ => by split <;> omega
  rw [if_pos rfl] at this
  exact this
theorem onBr_succ {h : Hall} {b : Int} {n : Nat} : onBr h b (n + 1) = onBr h b n + if (h.coolers.getD n default).br = b then 1 else 0 := rfl
theorem mul_abs {p d P D : Int} (hp : 0 ≤ p) (hp2 : p ≤ P) (hd : -D ≤ d) (hd2 : d ≤ D) (hD : 0 ≤ D) : -(P * D) ≤ p * d ∧ p * d ≤ P * D := by
  have h1 : p * d ≤ p * D := Int.mul_le_mul_of_nonneg_left hd2 hp
  have h2 : p * D ≤ P * D := Int.mul_le_mul_of_nonneg_right hp2 hD
  have h3 : p * (-D) ≤ p * d := Int.mul_le_mul_of_nonneg_left hd hp
  rw [Int.mul_neg] at h3
  omega
theorem sum_abs {f : Nat → Int} {M : Int} : ∀ {n : Nat}, (∀ k, k < n → -M ≤ f k ∧ f k ≤ M) → -(n * M) ≤ sumTo f n ∧ sumTo f n ≤ n * M
  | 0, _ => by simp [sumTo]
  | n + 1, h => by
    have h1 := sum_abs (f := f) (n := n) (M := M) fun k hk => h k (by omega)
    have h2 := h n (by omega)
    have h3 : ((n + 1 : Nat) : Int) * M = n * M + M := by rw [Int.natCast_add, Int.add_mul]; simp
    rw [sumTo, h3]; omega
section
variable {h : Hall} (ok : HOk h) {t : List Int} (ht : TOk h t)
include ok ht
theorem temp_at {i : Int} (h0 : 0 ≤ i) (h1 : i < h.rooms.length) : 0 ≤ t.getD i.toNat 0 ∧ t.getD i.toNat 0 ≤ 1000000 := ht.rng _ (by have := ht.len; omega)
theorem taken_rng {pump : Int} (hp : 0 ≤ pump) (hp2 : pump ≤ 100000) {k : Nat} (hk : k < h.coolers.length) : 0 ≤ takenAt h t (flowsL h pump) k ∧ takenAt h t (flowsL h pump) k ≤ 100000000000 := by
  have hc := ok.cooler k hk
  have hT := temp_at ok ht hc.1.1 hc.1.2
  have hF := flows_rng ok hp (h.coolers.getD k default).br.toNat (by omega)
  have hm := mul_abs (p := (h.coolers.getD k default).gain) (d := t.getD (h.coolers.getD k default).room.toNat 0 - (h.coolers.getD k default).supply) (P := 100000) (D := 1000000) hc.2.2.1.1 hc.2.2.1.2 (by omega) (by omega) (by omega)
  have hon := onBr_pos hk
  have hq : 0 ≤ (h.coolers.getD k default).carry * (flowsL h pump).getD (h.coolers.getD k default).br.toNat 0 / onBr h (h.coolers.getD k default).br h.coolers.length :=
    Int.ediv_nonneg (Int.mul_nonneg hc.2.2.2.1.1 hF.1) (by omega)
  unfold takenAt
  omega
theorem taken_getD {pump : Int} {k : Nat} (hk : k < h.coolers.length) : (takenL h t pump).getD k 0 = takenAt h t (flowsL h pump) k := by
  unfold takenL
  rw [List.getD_eq_getElem?_getD, List.getElem?_map, List.getElem?_range hk]; rfl
theorem wheat_rng {out : Int} (ho : 0 ≤ out ∧ out ≤ 1000000) {i k : Nat} (hi : i < h.rooms.length) (hk : k < h.walls.length) : -100000000000 ≤ wheat h t out i k ∧ wheat h t out i k ≤ 100000000000 := by
  have hw := ok.wall k hk
  have hA := temp_at ok ht hw.1.1 hw.1.2
  have hI := ht.rng i (by have := ht.len; omega)
  unfold wheat
  split
  · split
    · rename_i hb
      have hB := temp_at ok ht hb (by omega)
      have := mul_abs (p := (h.walls.getD k default).pass) (d := t.getD (h.walls.getD k default).b.toNat 0 - t.getD i 0) (P := 100000) (D := 1000000) hw.2.2.2.1 hw.2.2.2.2 (by omega) (by omega) (by omega)
      omega
    · have := mul_abs (p := (h.walls.getD k default).pass) (d := out - t.getD i 0) (P := 100000) (D := 1000000) hw.2.2.2.1 hw.2.2.2.2 (by omega) (by omega) (by omega)
      omega
  · split
    · have := mul_abs (p := (h.walls.getD k default).pass) (d := t.getD (h.walls.getD k default).a.toNat 0 - t.getD i 0) (P := 100000) (D := 1000000) hw.2.2.2.1 hw.2.2.2.2 (by omega) (by omega) (by omega)
      omega
    · omega
theorem wsum_abs {out : Int} (ho : 0 ≤ out ∧ out ≤ 1000000) {i n : Nat} (hi : i < h.rooms.length) (hn : n ≤ h.walls.length) : -1600000000000 ≤ sumTo (wheat h t out i) n ∧ sumTo (wheat h t out i) n ≤ 1600000000000 := by
  have h1 := sum_abs (f := wheat h t out i) (n := n) (M := 100000000000) fun k hk => wheat_rng ok ht ho hi (by omega)
  have h2 := ok.w2
  omega
theorem cheat_rng {pump : Int} (hp : 0 ≤ pump) (hp2 : pump ≤ 100000) {i k : Nat} (hk : k < h.coolers.length) : -100000000000 ≤ cheat h (takenL h t pump) i k ∧ cheat h (takenL h t pump) i k ≤ 100000000000 := by
  have h1 := taken_rng ok ht hp hp2 hk
  unfold cheat
  rw [taken_getD ok ht hk]
  split <;> omega
theorem csum_abs {pump : Int} (hp : 0 ≤ pump) (hp2 : pump ≤ 100000) {i n : Nat} (hn : n ≤ h.coolers.length) : -1600000000000 ≤ sumTo (cheat h (takenL h t pump) i) n ∧ sumTo (cheat h (takenL h t pump) i) n ≤ 1600000000000 := by
  have h1 := sum_abs (f := cheat h (takenL h t pump) i) (n := n) (M := 100000000000) fun k hk => cheat_rng ok ht hp hp2 (by omega)
  have h2 := ok.c2
  omega
end
end Go.X

/- An element of an array value: elements of one cell. No condition. -/
set_option linter.unusedVariables false
namespace Go.X
variable {P : Program} {ops : Array Oper} {e : Env} {o r : List PHeap} {d : Option Tmp} {ty : TypeId} {pos : String} {aft : Array Edge}
theorem Q.index1 {t el len : TypeId} [u : Und P t (.array len el)] [z : TySize P el 1] [g : IsAgg P el false] {x y : Operand} {k : IntKind} {n : Int} {cs : List Value} {v : Value} (hx : ev e x = some (.agg cs.toArray)) (hy : ev e y = some (.int k n))
    (h0 : 0 ≤ n) (h1 : n < (len : Int)) (hv : cs[n.toNat]? = some v) : Quiet P ops ⟨d, .index t x y, ty, pos, aft, none⟩ e o r v := .mk fun a w he _ => by
  simp only [execOp, ev_rel he hx, ev_rel he hy]
  refine run_val ?_
  unfold Instr.index
  have e1 : (asIntOf (.int k n)).run P w = .ok (k, n) w := rfl
  rw [bind_ok e1]
  simp only
  rw [bind_ok (u.pf w)]
  simp only
  rw [if_pos ⟨h0, h1⟩, bind_ok (z.pf w)]
  unfold part
  rw [bind_ok (g.pf w)]
  simp [hv, pure]
theorem Spec.wide {f : FuncId} {args : Array Value} {Hm Hr Hr' : List PHeap} {R : Value → List PHeap → Prop} (h : Spec P f args Hm Hr R) (hh : ∀ x ∈ Hr, x ∈ Hr') : Spec P f args Hm Hr' R :=
  fun o r w hs hr => h o r w hs (fun x hx => hr x (hh x hx))
end Go.X

/- The next temperatures: never below zero; monotone. No condition. -/
set_option linter.unusedVariables false
set_option linter.unusedSectionVars false
namespace Go.X
def wpart (h : Hall) (t : List Int) (out : Int) (i : Nat) (k : Nat) : Int :=
  if (h.walls.getD k default).a = i then (h.walls.getD k default).pass * (if 0 ≤ (h.walls.getD k default).b then t.getD (h.walls.getD k default).b.toNat 0 else out)
  else if (h.walls.getD k default).b = i then (h.walls.getD k default).pass * t.getD (h.walls.getD k default).a.toNat 0
  else 0
def cpart (h : Hall) (t tl : List Int) (i : Nat) (k : Nat) : Int := if (h.coolers.getD k default).room = i then (h.coolers.getD k default).gain * t.getD i 0 - tl.getD k 0 else 0
theorem wheat_eq (h : Hall) (t : List Int) (out : Int) (i k : Nat) : wheat h t out i k = wpart h t out i k + (- t.getD i 0) * wslope h i k := by
  unfold wheat wpart wslope
  by_cases h1 : (h.walls.getD k default).a = i
  · rw [if_pos h1, if_pos h1, if_pos (show (h.walls.getD k default).a = i ∨ (h.walls.getD k default).b = i from .inl h1), Int.mul_sub, Int.neg_mul, Int.mul_comm (t.getD i 0)]; omega
  · rw [if_neg h1, if_neg h1]
    by_cases h2 : (h.walls.getD k default).b = i
    · rw [if_pos h2, if_pos h2, if_pos (show (h.walls.getD k default).a = i ∨ (h.walls.getD k default).b = i from .inr h2), Int.mul_sub, Int.neg_mul, Int.mul_comm (t.getD i 0)]; omega
    · rw [if_neg h2, if_neg h2, if_neg (show ¬ ((h.walls.getD k default).a = i ∨ (h.walls.getD k default).b = i) by rintro (h | h) <;> contradiction)]; simp
theorem cheat_eq (h : Hall) (t tl : List Int) (i k : Nat) : cheat h tl i k = cpart h t tl i k + (- t.getD i 0) * cslope h i k := by
  unfold cheat cpart cslope
  by_cases h1 : (h.coolers.getD k default).room = i
  · rw [if_pos h1, if_pos h1, if_pos h1, Int.neg_mul, Int.mul_comm (t.getD i 0)]; omega
  · rw [if_neg h1, if_neg h1, if_neg h1]; simp
theorem heat_eq (h : Hall) (t : List Int) (c : HCase) (i : Nat) : heatOf h t c i =
    ((h.rooms.getD i default).store - slope h i) * t.getD i 0 + c.load.getD i 0 + sumTo (wpart h t c.out i) h.walls.length + sumTo (cpart h t (takenL h t c.pump) i) h.coolers.length := by
  have e1 : sumTo (wheat h t c.out i) h.walls.length = sumTo (wpart h t c.out i) h.walls.length + (- t.getD i 0) * sumTo (wslope h i) h.walls.length := by
    rw [sum_congr (g := fun k => wpart h t c.out i k + (- t.getD i 0) * wslope h i k) fun k _ => wheat_eq h t c.out i k, sum_add, sum_mul]
  have e2 : sumTo (cheat h (takenL h t c.pump) i) h.coolers.length = sumTo (cpart h t (takenL h t c.pump) i) h.coolers.length + (- t.getD i 0) * sumTo (cslope h i) h.coolers.length := by
    rw [sum_congr (g := fun k => cpart h t (takenL h t c.pump) i k + (- t.getD i 0) * cslope h i k) fun k _ => cheat_eq h t (takenL h t c.pump) i k, sum_add, sum_mul]
  unfold heatOf slope
  rw [e1, e2, Int.sub_mul, Int.add_mul, Int.neg_mul, Int.neg_mul, Int.mul_comm (sumTo (wslope h i) h.walls.length), Int.mul_comm (sumTo (cslope h i) h.coolers.length)]
  omega
section
variable {h : Hall} (ok : HOk h)
include ok
theorem flows_mono {p q : Int} (hp : 0 ≤ p) (hpq : p ≤ q) : ∀ i, i < h.branches.length → (flowsL h p).getD i 0 ≤ (flowsL h q).getD i 0 := by
  intro i
  induction i using Nat.strongRecOn with
  | _ i ih =>
    intro hi
    rw [flows_at ok hi, flows_at ok hi]
    have hfd : feedOf h p (flowsL h p) i ≤ feedOf h q (flowsL h q) i := by
      unfold feedOf
      by_cases h0 : i = 0
      · rw [if_pos h0, if_pos h0]; exact hpq
      · rw [if_neg h0, if_neg h0]
        obtain ⟨h1, h2⟩ := up_of ok hi h0
        split
        · rename_i hs
          have h3 := ih _ (show (h.branches.getD i default).up.toNat < i by omega) (by omega)
          exact Int.ediv_le_ediv hs (Int.mul_le_mul_of_nonneg_right h3 (ok.branch i hi).2.1.1)
        · exact Int.le_refl _
    omega
end
section
variable {h : Hall} (ok : HOk h) {t : List Int} (tk : TOk h t) {c : HCase} (ck : COk h c)
include ok tk ck
theorem taken_le {k : Nat} (hk : k < h.coolers.length) : (takenL h t c.pump).getD k 0 ≤ (h.coolers.getD k default).gain * t.getD (h.coolers.getD k default).room.toNat 0 := by
  rw [taken_getD ok tk hk]
  have hc := ok.cooler k hk
  have hT := temp_at ok tk hc.1.1 hc.1.2
  have h1 : (h.coolers.getD k default).gain * (t.getD (h.coolers.getD k default).room.toNat 0 - (h.coolers.getD k default).supply) ≤ (h.coolers.getD k default).gain * t.getD (h.coolers.getD k default).room.toNat 0 :=
    Int.mul_le_mul_of_nonneg_left (by omega) hc.2.2.1.1
  have h2 : 0 ≤ (h.coolers.getD k default).gain * t.getD (h.coolers.getD k default).room.toNat 0 := Int.mul_nonneg hc.2.2.1.1 hT.1
  unfold takenAt
  omega
theorem wpart_nonneg {i k : Nat} (hk : k < h.walls.length) : 0 ≤ wpart h t c.out i k := by
  have hw := ok.wall k hk
  have hA := temp_at ok tk hw.1.1 hw.1.2
  unfold wpart
  split
  · refine Int.mul_nonneg hw.2.2.2.1 ?_
    split
    · exact (temp_at ok tk (by assumption) (by omega)).1
    · exact ck.out.1
  · split
    · exact Int.mul_nonneg hw.2.2.2.1 hA.1
    · exact Int.le_refl _
theorem cpart_nonneg {i k : Nat} (hk : k < h.coolers.length) : 0 ≤ cpart h t (takenL h t c.pump) i k := by
  unfold cpart
  split
  · rename_i hr
    have := taken_le ok tk ck hk
    rw [hr, Int.toNat_natCast] at this
    omega
  · exact Int.le_refl _
theorem heat_nonneg {i : Nat} (hi : i < h.rooms.length) : 0 ≤ heatOf h t c i := by
  rw [heat_eq]
  have h1 := ok.slope i hi
  have h2 := tk.rng i (by have := tk.len; omega)
  have h3 := ck.rng i (by have := ck.len; omega)
  have h4 : 0 ≤ ((h.rooms.getD i default).store - slope h i) * t.getD i 0 := Int.mul_nonneg (by omega) h2.1
  have h5 := sum_nonneg (f := wpart h t c.out i) (n := h.walls.length) fun k hk => wpart_nonneg ok tk ck hk
  have h6 := sum_nonneg (f := cpart h t (takenL h t c.pump) i) (n := h.coolers.length) fun k hk => cpart_nonneg ok tk ck hk
  omega
theorem next_rng {i : Nat} (hi : i < h.rooms.length) : 0 ≤ nextAt h t c i ∧ nextAt h t c i ≤ 1000000 := by
  have h1 := heat_nonneg ok tk ck hi
  have h2 := ok.room i hi
  have h3 : 0 ≤ heatOf h t c i / (h.rooms.getD i default).store := Int.ediv_nonneg h1 (by omega)
  unfold nextAt
  omega
theorem next_getD {i : Nat} (hi : i < h.rooms.length) : (nextL h t c).getD i 0 = nextAt h t c i := by
  unfold nextL
  rw [List.getD_eq_getElem?_getD, List.getElem?_map, List.getElem?_range hi]; rfl
theorem next_ok : TOk h (nextL h t c) where
  len := by simp [nextL]
  rng := fun i hi => by
    have hi' : i < h.rooms.length := by simpa [nextL] using hi
    rw [next_getD ok tk ck hi']
    exact next_rng ok tk ck hi'
end
/-- Not lower. -/
def LeL (a b : List Int) : Prop := ∀ i, i < a.length → a.getD i 0 ≤ b.getD i 0
structure LeC (c d : HCase) : Prop where
  load : LeL c.load d.load
  out : c.out ≤ d.out
  pump : d.pump ≤ c.pump
section
variable {h : Hall} (ok : HOk h) {t u : List Int} (tk : TOk h t) (uk : TOk h u) {c d : HCase} (ck : COk h c) (dk : COk h d) (tu : LeL t u) (cd : LeC c d)
include ok tk uk ck dk tu cd
theorem temp_le {i : Int} (h0 : 0 ≤ i) (h1 : i < h.rooms.length) : t.getD i.toNat 0 ≤ u.getD i.toNat 0 := tu _ (by have := tk.len; omega)
theorem wpart_mono {i k : Nat} (hk : k < h.walls.length) : wpart h t c.out i k ≤ wpart h u d.out i k := by
  have hw := ok.wall k hk
  unfold wpart
  split
  · refine Int.mul_le_mul_of_nonneg_left ?_ hw.2.2.2.1
    split
    · exact temp_le ok tk uk ck dk tu cd (by assumption) (by omega)
    · exact cd.out
  · split
    · exact Int.mul_le_mul_of_nonneg_left (temp_le ok tk uk ck dk tu cd hw.1.1 hw.1.2) hw.2.2.2.1
    · exact Int.le_refl _
theorem taken_step {k : Nat} (hk : k < h.coolers.length) : (takenL h u d.pump).getD k 0 - (takenL h t c.pump).getD k 0 ≤
    (h.coolers.getD k default).gain * u.getD (h.coolers.getD k default).room.toNat 0 - (h.coolers.getD k default).gain * t.getD (h.coolers.getD k default).room.toNat 0 := by
  rw [taken_getD ok tk hk, taken_getD ok uk hk]
  have hc := ok.cooler k hk
  have hle := temp_le ok tk uk ck dk tu cd hc.1.1 hc.1.2
  have hg : (h.coolers.getD k default).gain * t.getD (h.coolers.getD k default).room.toNat 0 ≤ (h.coolers.getD k default).gain * u.getD (h.coolers.getD k default).room.toNat 0 := Int.mul_le_mul_of_nonneg_left hle hc.2.2.1.1
  have hF := flows_mono ok dk.pump.1 cd.pump (h.coolers.getD k default).br.toNat (by omega)
  have hq : (h.coolers.getD k default).carry * (flowsL h d.pump).getD (h.coolers.getD k default).br.toNat 0 / onBr h (h.coolers.getD k default).br h.coolers.length ≤
      (h.coolers.getD k default).carry * (flowsL h c.pump).getD (h.coolers.getD k default).br.toNat 0 / onBr h (h.coolers.getD k default).br h.coolers.length :=
    Int.ediv_le_ediv (by have := onBr_pos (h := h) hk; omega) (Int.mul_le_mul_of_nonneg_left hF hc.2.2.2.1.1)
  unfold takenAt
  rw [Int.mul_sub, Int.mul_sub]
  omega
theorem cpart_mono {i k : Nat} (hk : k < h.coolers.length) : cpart h t (takenL h t c.pump) i k ≤ cpart h u (takenL h u d.pump) i k := by
  unfold cpart
  split
  · rename_i hr
    have := taken_step ok tk uk ck dk tu cd hk
    rw [hr, Int.toNat_natCast] at this
    omega
  · exact Int.le_refl _
theorem heat_mono {i : Nat} (hi : i < h.rooms.length) : heatOf h t c i ≤ heatOf h u d i := by
  rw [heat_eq, heat_eq]
  have h1 := ok.slope i hi
  have h2 := tu i (by have := tk.len; omega)
  have h3 := cd.load i (by have := ck.len; omega)
  have h4 : ((h.rooms.getD i default).store - slope h i) * t.getD i 0 ≤ ((h.rooms.getD i default).store - slope h i) * u.getD i 0 := Int.mul_le_mul_of_nonneg_left h2 (by omega)
  have h5 := sum_mono (f := wpart h t c.out i) (g := wpart h u d.out i) (n := h.walls.length) fun k hk => wpart_mono ok tk uk ck dk tu cd hk
  have h6 := sum_mono (f := cpart h t (takenL h t c.pump) i) (g := cpart h u (takenL h u d.pump) i) (n := h.coolers.length) fun k hk => cpart_mono ok tk uk ck dk tu cd hk
  omega
theorem next_mono : LeL (nextL h t c) (nextL h u d) := fun i hi => by
  have hi' : i < h.rooms.length := by simpa [nextL] using hi
  rw [next_getD ok tk ck hi', next_getD ok uk dk hi']
  have h1 := heat_mono ok tk uk ck dk tu cd hi'
  have h2 := ok.room i hi'
  have h3 := Int.ediv_le_ediv (c := (h.rooms.getD i default).store) (by omega) h1
  unfold nextAt
  omega
end
end Go.X

/- What the statements of heat make of numbers, in plain lists. -/
set_option linter.unusedVariables false
namespace Go.X
def belowP (a b : List Int) : Bool := decide (a.length = b.length) && allTo (fun i => decide (a.getD i 0 ≤ b.getD i 0)) a.length
theorem below_iff {a b : List Int} : belowP a b = true ↔ a.length = b.length ∧ ∀ i, i < a.length → a.getD i 0 ≤ b.getD i 0 := by
  unfold belowP
  rw [Bool.and_eq_true, decide_eq_true_eq]
  refine and_congr_right fun _ => ⟨fun h i hi => by simpa using allTo_at h hi, fun h => ?_⟩
  unfold allTo
  rw [List.all_eq_true]
  intro i hi
  simpa using h i (List.mem_range.1 hi)
def lowL (a b : List Int) : List Int := (List.range a.length).map fun i => min (a.getD i 0) (b.getD i 0)
def highL (a b : List Int) : List Int := (List.range a.length).map fun i => max (a.getD i 0) (b.getD i 0)
def lowC (a b : HCase) : HCase := ⟨lowL a.load b.load, min a.out b.out, max a.pump b.pump⟩
def highC (a b : HCase) : HCase := ⟨highL a.load b.load, max a.out b.out, min a.pump b.pump⟩
theorem map_range_getD {n : Nat} {f : Nat → Int} {i : Nat} (hi : i < n) : ((List.range n).map f).getD i 0 = f i := by
  rw [List.getD_eq_getElem?_getD, List.getElem?_eq_getElem (by simpa using hi)]; simp
theorem eq_map_range {n : Nat} {f : Nat → Int} {x : List Int} (hl : x.length = n) (h : ∀ j, j < n → x.getD j 0 = f j) : x = (List.range n).map f := by
  refine List.ext_getElem (by simp [hl]) fun j h1 h2 => ?_
  have := h j (by omega)
  rw [List.getD_eq_getElem?_getD, List.getElem?_eq_getElem h1] at this
  simpa using this
theorem set_upto {x : List Int} {f : Nat → Int} {i : Nat} {y : Int} (hi : i < x.length) (h : ∀ j, j < i → x.getD j 0 = f j) (hy : y = f i) : ∀ j, j < i + 1 → (x.set i y).getD j 0 = f j := by
  intro j hj
  rw [List.getD_eq_getElem?_getD, List.getElem?_set]
  by_cases hc : i = j
  · subst hc; rw [if_pos rfl, if_pos hi, hy]; rfl
  · rw [if_neg hc, ← List.getD_eq_getElem?_getD]; exact h j (by omega)
theorem lowL_len (a b : List Int) : (lowL a b).length = a.length := by simp [lowL]
theorem highL_len (a b : List Int) : (highL a b).length = a.length := by simp [highL]
theorem lowL_at {a b : List Int} {i : Nat} (hi : i < a.length) : (lowL a b).getD i 0 = min (a.getD i 0) (b.getD i 0) := map_range_getD hi
theorem highL_at {a b : List Int} {i : Nat} (hi : i < a.length) : (highL a b).getD i 0 = max (a.getD i 0) (b.getD i 0) := map_range_getD hi
def WarmOk (n : Nat) (t : List Int) : Prop := t.length = n ∧ ∀ i, i < t.length → 12000 ≤ t.getD i 0 ∧ t.getD i 0 ≤ 27300
def LoadOk (n : Nat) (t : List Int) : Prop := t.length = n ∧ ∀ i, i < t.length → 0 ≤ t.getD i 0 ∧ t.getD i 0 ≤ 255000
def CasedOk (n : Nat) (c : HCase) : Prop := LoadOk n c.load ∧ (10000 ≤ c.out ∧ c.out ≤ 35500) ∧ 0 ≤ c.pump ∧ c.pump ≤ 2550
theorem snoc_getD {t : List Int} {x : Int} {i : Nat} : (t ++ [x]).getD i 0 = if i < t.length then t.getD i 0 else if i = t.length then x else 0 := by
  rw [List.getD_eq_getElem?_getD, List.getElem?_append]
  split
  · rw [← List.getD_eq_getElem?_getD]
  · split
    · rename_i h; simp [h]
    · rename_i h1 h2
      rw [List.getElem?_eq_none (by simp; omega)]; rfl
theorem snoc_rng {n : Nat} {t : List Int} {x lo hi : Int} (hl : t.length = n) (hr : ∀ i, i < t.length → lo ≤ t.getD i 0 ∧ t.getD i 0 ≤ hi) (hx : lo ≤ x ∧ x ≤ hi) :
    (t ++ [x]).length = n + 1 ∧ ∀ i, i < (t ++ [x]).length → lo ≤ (t ++ [x]).getD i 0 ∧ (t ++ [x]).getD i 0 ≤ hi := by
  refine ⟨by simp [hl], fun i hi => ?_⟩
  rw [snoc_getD]
  simp at hi
  split
  · exact hr i (by assumption)
  · rw [if_pos (by omega)]; exact hx
theorem snoc_ok {n : Nat} {t : List Int} {x : Int} (hl : t.length = n) (hr : ∀ i, i < t.length → 12000 ≤ t.getD i 0 ∧ t.getD i 0 ≤ 27300) (hx : 12000 ≤ x ∧ x ≤ 27300) : WarmOk (n + 1) (t ++ [x]) := snoc_rng hl hr hx
theorem snoc_ok2 {n : Nat} {t : List Int} {x : Int} (hl : t.length = n) (hr : ∀ i, i < t.length → 0 ≤ t.getD i 0 ∧ t.getD i 0 ≤ 255000) (hx : 0 ≤ x ∧ x ≤ 255000) : LoadOk (n + 1) (t ++ [x]) := snoc_rng hl hr hx
def exHall : Hall := ⟨[⟨1000, 30000⟩], [⟨0, -1, 10⟩], [⟨-1, 100, 0⟩], [⟨0, 0, 50, 4, 18000⟩]⟩
def exCase (pump : Int) : HCase := ⟨[100000], 20000, pump⟩
def exTree : Hall := ⟨[⟨1000, 30000⟩], [⟨0, -1, 10⟩], [⟨-1, 0, 0⟩, ⟨0, 1, 0⟩, ⟨0, 1, 40⟩, ⟨0, 1, 0⟩], [⟨0, 0, 50, 4, 18000⟩]⟩
theorem exA : nextG exHall [22000] (exCase 100) = ([22079], 0) := by decide +kernel
theorem exB : nextG exHall [22000] (exCase 50000) = ([21880], 0) := by decide +kernel
theorem exC : flowsG exTree 100 = ([100, 33, 0, 33], 0) := by decide +kernel
def minTo (xs : List Int) : Nat → Int
  | 0 => xs.getD 0 0
  | i + 1 => min (minTo xs i) (xs.getD i 0)
def maxTo (xs : List Int) : Nat → Int
  | 0 => xs.getD 0 0
  | i + 1 => max (maxTo xs i) (xs.getD i 0)
theorem minTo_one (xs : List Int) : minTo xs 1 = xs.getD 0 0 := by rw [minTo, minTo]; omega
theorem maxTo_one (xs : List Int) : maxTo xs 1 = xs.getD 0 0 := by rw [maxTo, maxTo]; omega
theorem minTo_at (xs : List Int) : ∀ n, 0 < n → ∃ j, j < n ∧ minTo xs n = xs.getD j 0
  | 0, h => by omega
  | 1, _ => ⟨0, by omega, minTo_one xs⟩
  | n + 2, _ => by
    obtain ⟨j, hj, e⟩ := minTo_at xs (n + 1) (by omega)
    rw [minTo]
    by_cases hc : minTo xs (n + 1) ≤ xs.getD (n + 1) 0
    · exact ⟨j, by omega, by omega⟩
    · exact ⟨n + 1, by omega, by omega⟩
theorem maxTo_at (xs : List Int) : ∀ n, 0 < n → ∃ j, j < n ∧ maxTo xs n = xs.getD j 0
  | 0, h => by omega
  | 1, _ => ⟨0, by omega, maxTo_one xs⟩
  | n + 2, _ => by
    obtain ⟨j, hj, e⟩ := maxTo_at xs (n + 1) (by omega)
    rw [maxTo]
    by_cases hc : xs.getD (n + 1) 0 ≤ maxTo xs (n + 1)
    · exact ⟨j, by omega, by omega⟩
    · exact ⟨n + 1, by omega, by omega⟩
theorem maxTo_ge (xs : List Int) : ∀ n j, j < n → xs.getD j 0 ≤ maxTo xs n
  | 0, j, h => by omega
  | n + 1, j, h => by
    rw [maxTo]
    by_cases hc : j = n
    · subst hc; omega
    · have := maxTo_ge xs n j (by omega); omega
theorem minTo_le (xs : List Int) : ∀ n j, j < n → minTo xs n ≤ xs.getD j 0
  | 0, j, h => by omega
  | n + 1, j, h => by
    rw [minTo]
    by_cases hc : j = n
    · subst hc; omega
    · have := minTo_le xs n j (by omega); omega
/-- What Made makes. -/
structure MOk (h : Hall) : Prop where
  ok : hcheck h = 0
  leak : ∀ i, i < h.branches.length → (h.branches.getD i default).leak ≤ 29
end Go.X

/- A store to the first field. -/
namespace Go.X
instance (priority := high) Upd.first {b : Nat} {vs : List Value} {o o' : List PHeap} [t : Upd b 0 vs o o'] : Upd b (0 + 0) vs o o' := ⟨t.pf⟩
end Go.X

/- What Made makes is a valid hall. -/
set_option linter.unusedVariables false
namespace Go.X
/-- The slope of walls, of coolers. -/
def wS (ws : List HWall) (i : Nat) : Int := sumTo (fun k => if (ws.getD k default).a = i ∨ (ws.getD k default).b = i then (ws.getD k default).pass else 0) ws.length
def cS (cs : List HCooler) (i : Nat) : Int := sumTo (fun k => if (cs.getD k default).room = i then (cs.getD k default).gain else 0) cs.length
theorem slope_eq (h : Hall) (i : Nat) : slope h i = wS h.walls i + cS h.coolers i := rfl
theorem sumTo_congr {f g : Nat → Int} : ∀ {n : Nat}, (∀ k, k < n → f k = g k) → sumTo f n = sumTo g n
  | 0, _ => rfl
  | n + 1, h => by rw [sumTo, sumTo, sumTo_congr fun k hk => h k (by omega), h n (by omega)]
theorem sn_lt {α : Type} [Inhabited α] {l : List α} {x : α} {k : Nat} (hk : k < l.length) : (l ++ [x]).getD k default = l.getD k default := by
  rw [List.getD_eq_getElem?_getD, List.getElem?_append, if_pos hk, ← List.getD_eq_getElem?_getD]
theorem sn_at {α : Type} [Inhabited α] {l : List α} {x : α} : (l ++ [x]).getD l.length default = x := by
  rw [List.getD_eq_getElem?_getD, List.getElem?_append, if_neg (by omega)]; simp
theorem wS_snoc (ws : List HWall) (w : HWall) (i : Nat) : wS (ws ++ [w]) i = wS ws i + if w.a = i ∨ w.b = i then w.pass else 0 := by
  unfold wS
  rw [List.length_append, List.length_singleton, sumTo, sumTo_congr (g := fun k => if (ws.getD k default).a = i ∨ (ws.getD k default).b = i then (ws.getD k default).pass else 0) fun k hk => by rw [sn_lt hk]]
  simp only [sn_at]
theorem cS_snoc (cs : List HCooler) (w : HCooler) (i : Nat) : cS (cs ++ [w]) i = cS cs i + if w.room = i then w.gain else 0 := by
  unfold cS
  rw [List.length_append, List.length_singleton, sumTo, sumTo_congr (g := fun k => if (cs.getD k default).room = i then (cs.getD k default).gain else 0) fun k hk => by rw [sn_lt hk]]
  simp only [sn_at]
def WOk (n : Nat) (w : HWall) : Prop := (0 ≤ w.a ∧ w.a < n) ∧ (w.b = -1 ∨ (0 ≤ w.b ∧ w.b < n)) ∧ w.a ≠ w.b ∧ 0 ≤ w.pass ∧ w.pass ≤ 39
def BOk (i : Nat) (b : HBranch) : Prop := (if i = 0 then b.up = -1 else 0 ≤ b.up ∧ b.up < i) ∧ (0 ≤ b.opn ∧ b.opn ≤ 100) ∧ 0 ≤ b.leak ∧ b.leak ≤ 29
def KOk (n m : Nat) (c : HCooler) : Prop := (0 ≤ c.room ∧ c.room < n) ∧ (0 ≤ c.br ∧ c.br < m) ∧ (0 ≤ c.gain ∧ c.gain ≤ 59) ∧ (0 ≤ c.carry ∧ c.carry ≤ 199) ∧ 0 ≤ c.supply ∧ c.supply ≤ 1000000
def Each {α : Type} [Inhabited α] (p : Nat → α → Prop) (l : List α) : Prop := ∀ i, i < l.length → p i (l.getD i default)
theorem Each.nil {α : Type} [Inhabited α] {p : Nat → α → Prop} : Each p ([] : List α) := fun i hi => by cases hi
theorem Each.snoc {α : Type} [Inhabited α] {p : Nat → α → Prop} {l : List α} {x : α} (h : Each p l) (hx : p l.length x) : Each p (l ++ [x]) := fun i hi => by
  rw [List.length_append, List.length_singleton] at hi
  by_cases hc : i < l.length
  · rw [sn_lt hc]; exact h i hc
  · have : i = l.length := by omega
    subst this; rw [sn_at]; exact hx
theorem sumTo_rng {f : Nat → Int} {M : Int} : ∀ {n : Nat}, (∀ k, k < n → 0 ≤ f k ∧ f k ≤ M) → 0 ≤ sumTo f n ∧ sumTo f n ≤ M * n
  | 0, _ => by simp [sumTo]
  | n + 1, h => by
    have h1 := sumTo_rng (f := f) (M := M) (n := n) fun k hk => h k (by omega)
    have h2 := h n (by omega)
    rw [sumTo, show M * ((n + 1 : Nat) : Int) = M * n + M by rw [Int.natCast_add, Int.mul_add]; simp]
    omega
theorem wS_rng {n : Nat} {ws : List HWall} (h : Each (fun _ => WOk n) ws) (i : Nat) : 0 ≤ wS ws i ∧ wS ws i ≤ 39 * ws.length :=
  sumTo_rng fun k hk => by
    have := (h k hk).2.2.2
    split <;> omega
theorem cS_rng {n m : Nat} {cs : List HCooler} (h : Each (fun _ => KOk n m) cs) (i : Nat) : 0 ≤ cS cs i ∧ cS cs i ≤ 59 * cs.length :=
  sumTo_rng fun k hk => by
    have := (h k hk).2.2.1
    split <;> omega
/-- A number added at a place. -/
def IsAt (n : Nat) (s : List Int) (f : Nat → Int) : Prop := s.length = n ∧ ∀ i, i < n → s.getD i 0 = f i
theorem IsAt.add {n : Nat} {s : List Int} {f : Nat → Int} (h : IsAt n s f) {a : Int} {p : Int} (ha : 0 ≤ a) (ha2 : a < n) : IsAt n (s.set a.toNat (s.getD a.toNat default + p)) (fun i => f i + if a = i then p else 0) := by
  refine ⟨by rw [List.length_set]; exact h.1, fun i hi => ?_⟩
  have h1 := h.1
  show _ = f i + if a = i then p else 0
  rw [List.getD_eq_getElem?_getD, List.getElem?_set]
  by_cases hc : a.toNat = i
  · rw [if_pos hc, if_pos (by omega), if_pos (by omega), Option.getD_some, hc]
    have := h.2 i hi
    change s.getD i default = _ at this
    rw [this]
  · rw [if_neg hc, if_neg (by omega), ← List.getD_eq_getElem?_getD, h.2 i hi, Int.add_zero]
theorem IsAt.congr {n : Nat} {s : List Int} {f g : Nat → Int} (h : IsAt n s f) (hfg : ∀ i, i < n → f i = g i) : IsAt n s g := ⟨h.1, fun i hi => (h.2 i hi).trans (hfg i hi)⟩
theorem IsAt.zero (n : Nat) : IsAt n (List.replicate n 0) (wS []) := ⟨by simp, fun i hi => by rw [List.getD_eq_getElem?_getD, List.getElem?_replicate, if_pos hi]; rfl⟩
theorem IsAt.wall {n : Nat} {s : List Int} {ws : List HWall} (h : IsAt n s (wS ws)) {a b p : Int} (ha : 0 ≤ a) (ha2 : a < n) (hb : 0 ≤ b) (hb2 : b < n) (hab : a ≠ b) :
    IsAt n ((s.set a.toNat (s.getD a.toNat default + p)).set b.toNat ((s.set a.toNat (s.getD a.toNat default + p)).getD b.toNat default + p)) (wS (ws ++ [⟨a, b, p⟩])) :=
  ((h.add (p := p) ha ha2).add (p := p) hb hb2).congr fun i hi => by
    rw [wS_snoc]
    dsimp only
    by_cases h1 : a = i
    · rw [if_pos h1, if_neg (by omega), if_pos (.inl h1), Int.add_zero]
    · by_cases h2 : b = i
      · rw [if_neg h1, if_pos h2, if_pos (.inr h2), Int.add_zero]
      · rw [if_neg h1, if_neg h2, if_neg (by omega), Int.add_zero, Int.add_zero]
theorem IsAt.wall1 {n : Nat} {s : List Int} {ws : List HWall} (h : IsAt n s (wS ws)) {a b p : Int} (ha : 0 ≤ a) (ha2 : a < n) (hb : b = -1) :
    IsAt n (s.set a.toNat (s.getD a.toNat default + p)) (wS (ws ++ [⟨a, b, p⟩])) :=
  (h.add (p := p) ha ha2).congr fun i hi => by
    rw [wS_snoc]
    dsimp only
    by_cases h1 : a = i
    · rw [if_pos h1, if_pos (.inl h1)]
    · rw [if_neg h1, if_neg (by omega)]
theorem IsAt.none {n : Nat} {s : List Int} {ws : List HWall} (h : IsAt n s (wS ws)) : IsAt n s (fun i => wS ws i + cS [] i) := h.congr fun i _ => by rw [show cS [] i = 0 from rfl, Int.add_zero]
theorem IsAt.cooler {n : Nat} {s : List Int} {ws : List HWall} {cs : List HCooler} (h : IsAt n s (fun i => wS ws i + cS cs i)) {c : HCooler} (ha : 0 ≤ c.room) (ha2 : c.room < n) :
    IsAt n (s.set c.room.toNat (s.getD c.room.toNat default + c.gain)) (fun i => wS ws i + cS (cs ++ [c]) i) :=
  (h.add (p := c.gain) ha ha2).congr fun i hi => by rw [cS_snoc, Int.add_assoc]
def ROk (ws : List HWall) (cs : List HCooler) (i : Nat) (r : HRoom) : Prop := wS ws i + cS cs i ≤ r.store ∧ 1 ≤ r.store ∧ r.store ≤ 1000000 ∧ 0 ≤ r.limit ∧ r.limit ≤ 1000000
theorem allTo_of {p : Nat → Bool} {n : Nat} (h : ∀ i, i < n → p i = true) : allTo p n = true := by
  unfold allTo
  rw [List.all_eq_true]
  exact fun i hi => h i (List.mem_range.1 hi)
theorem made_ok {rs : List HRoom} {ws : List HWall} {bs : List HBranch} {cs : List HCooler} (hr : 1 ≤ rs.length) (hr2 : rs.length ≤ 4) (hw : ws.length ≤ 6) (hb : bs.length ≤ 6) (hc : cs.length ≤ 6)
    (er : Each (ROk ws cs) rs) (ew : Each (fun _ => WOk rs.length) ws) (eb : Each BOk bs) (ec : Each (fun _ => KOk rs.length bs.length) cs) : MOk ⟨rs, ws, bs, cs⟩ := by
  refine ⟨?_, fun i hi => (eb i hi).2.2.2⟩
  unfold hcheck
  dsimp only
  rw [if_neg (by omega), if_neg, if_pos]
  · exact allTo_of fun i hi => by rw [decide_eq_true_eq]; exact (er i hi).1
  · rw [Bool.not_eq_false]
    simp only [allowedP, Bool.and_eq_true]
    refine ⟨⟨⟨allTo_of fun i hi => ?_, allTo_of fun i hi => ?_⟩, allTo_of fun i hi => ?_⟩, allTo_of fun i hi => ?_⟩
    · have := er i hi
      unfold ROk at this
      simp only [okRoom, inP, Bool.and_eq_true, decide_eq_true_eq]
      omega
    · have := ew i hi
      unfold WOk at this
      simp only [okWall, inP, ixP, Bool.and_eq_true, Bool.or_eq_true, decide_eq_true_eq]
      omega
    · have := eb i hi
      unfold BOk at this
      by_cases h0 : i = 0
      · subst h0
        simp only [okBranch, inP, if_true, Bool.and_eq_true, decide_eq_true_eq] at this ⊢
        omega
      · rw [if_neg h0] at this
        simp only [okBranch, inP, ixP, if_neg h0, Bool.and_eq_true, decide_eq_true_eq]
        omega
    · have := ec i hi
      unfold KOk at this
      simp only [okCooler, inP, ixP, Bool.and_eq_true, decide_eq_true_eq]
      omega
end Go.X

/- Laws of the steps of what Made, Warm and Cased make. -/
set_option linter.unusedVariables false
namespace Go.X
theorem warm_of {h : Hall} {t : List Int} (tk : TOk h t) : warmP h t = 0 := by
  have h1 := tk.len
  unfold warmP
  rw [if_neg (by omega), if_neg]
  intro hc
  obtain ⟨n, hn, hb⟩ := List.any_eq_true.1 hc
  obtain ⟨i, hi, rfl⟩ := List.getElem_of_mem hn
  have := tk.rng i hi
  rw [List.getD_eq_getElem?_getD, List.getElem?_eq_getElem hi, Option.getD_some] at this
  simp only [inP, Bool.not_eq_true', Bool.and_eq_false_iff, decide_eq_false_iff_not] at hb
  omega
theorem cased_of {h : Hall} {c : HCase} (ck : COk h c) : casedP h c = 0 := by
  have h1 := ck.len
  have h2 := ck.out
  have h3 := ck.pump
  unfold casedP
  rw [if_neg (by omega), if_neg]
  rintro ((hc | hc) | hc)
  · obtain ⟨n, hn, hb⟩ := List.any_eq_true.1 hc
    obtain ⟨i, hi, rfl⟩ := List.getElem_of_mem hn
    have := ck.rng i hi
    rw [List.getD_eq_getElem?_getD, List.getElem?_eq_getElem hi, Option.getD_some] at this
    simp only [inP, Bool.not_eq_true', Bool.and_eq_false_iff, decide_eq_false_iff_not] at hb
    omega
  · simp only [inP, Bool.and_eq_true, decide_eq_true_eq] at hc; omega
  · simp only [inP, Bool.and_eq_true, decide_eq_true_eq] at hc; omega
theorem next_fine {h : Hall} {t : List Int} {c : HCase} (hc : hcheck h = 0) (tk : TOk h t) (ck : COk h c) : nextG h t c = (nextL h t c, 0) := by
  unfold nextG
  rw [if_neg (by omega), warm_of tk, cased_of ck, if_neg (by decide)]
theorem flows_fine {h : Hall} {pump : Int} (hc : hcheck h = 0) (hp : 0 ≤ pump ∧ pump ≤ 100000) : flowsG h pump = (flowsL h pump, 0) := by
  unfold flowsG
  rw [if_neg (by omega), if_neg (by simp only [inP, Bool.and_eq_true, decide_eq_true_eq]; omega)]
theorem WarmOk.tok {h : Hall} {t : List Int} (w : WarmOk h.rooms.length t) : TOk h t := ⟨w.1, fun i hi => by have := w.2 i hi; omega⟩
theorem CasedOk.cok {h : Hall} {c : HCase} (w : CasedOk h.rooms.length c) : COk h c := ⟨w.1.1, fun i hi => by have := w.1.2 i hi; omega, by have := w.2.1; omega, by have := w.2.2; omega⟩
theorem WarmOk.low {n : Nat} {a b : List Int} (ha : WarmOk n a) (hb : WarmOk n b) : WarmOk n (lowL a b) := ⟨(lowL_len a b).trans ha.1, fun i hi => by
  rw [lowL_len] at hi
  have h1 := ha.2 i hi
  have h2 := hb.2 i (by have := ha.1; have := hb.1; omega)
  rw [lowL_at hi]; omega⟩
theorem WarmOk.high {n : Nat} {a b : List Int} (ha : WarmOk n a) (hb : WarmOk n b) : WarmOk n (highL a b) := ⟨(highL_len a b).trans ha.1, fun i hi => by
  rw [highL_len] at hi
  have h1 := ha.2 i hi
  have h2 := hb.2 i (by have := ha.1; have := hb.1; omega)
  rw [highL_at hi]; omega⟩
theorem LoadOk.low {n : Nat} {a b : List Int} (ha : LoadOk n a) (hb : LoadOk n b) : LoadOk n (lowL a b) := ⟨(lowL_len a b).trans ha.1, fun i hi => by
  rw [lowL_len] at hi
  have h1 := ha.2 i hi
  have h2 := hb.2 i (by have := ha.1; have := hb.1; omega)
  rw [lowL_at hi]; omega⟩
theorem LoadOk.high {n : Nat} {a b : List Int} (ha : LoadOk n a) (hb : LoadOk n b) : LoadOk n (highL a b) := ⟨(highL_len a b).trans ha.1, fun i hi => by
  rw [highL_len] at hi
  have h1 := ha.2 i hi
  have h2 := hb.2 i (by have := ha.1; have := hb.1; omega)
  rw [highL_at hi]; omega⟩
theorem CasedOk.low {n : Nat} {a b : HCase} (ha : CasedOk n a) (hb : CasedOk n b) : CasedOk n (lowC a b) :=
  ⟨ha.1.low hb.1, by have := ha.2.1; have := hb.2.1; unfold lowC; dsimp only; omega, by have := ha.2.2; have := hb.2.2; unfold lowC; dsimp only; omega⟩
theorem CasedOk.high {n : Nat} {a b : HCase} (ha : CasedOk n a) (hb : CasedOk n b) : CasedOk n (highC a b) :=
  ⟨ha.1.high hb.1, by have := ha.2.1; have := hb.2.1; unfold highC; dsimp only; omega, by have := ha.2.2; have := hb.2.2; unfold highC; dsimp only; omega⟩
theorem low_high {a b : List Int} : LeL (lowL a b) (highL a b) := fun i hi => by
  rw [lowL_len] at hi
  rw [lowL_at hi, highL_at hi]; omega
theorem lowC_highC {a b : HCase} : LeC (lowC a b) (highC a b) := ⟨low_high, by unfold lowC highC; dsimp only; omega, by unfold lowC highC; dsimp only; omega⟩
theorem nextL_len (h : Hall) (t : List Int) (c : HCase) : (nextL h t c).length = h.rooms.length := by simp [nextL]
theorem below_of {a b : List Int} (hl : a.length = b.length) (h : LeL a b) : belowP a b = true := below_iff.2 ⟨hl, h⟩
/-- The statement HeatMonotone. -/
theorem monotone {h : Hall} (hc : hcheck h = 0) {s t : List Int} (t1 : TOk h s) (t2 : TOk h t) {a b : HCase} (c1 : COk h a) (c2 : COk h b) (st : LeL s t) (ab : LeC a b) :
    belowP (nextL h s a) (nextL h t b) = true ∧ 0 ≤ minTo (nextL h s a) (nextL h s a).length ∧ maxTo (nextL h t b) (nextL h t b).length ≤ 1000000 := by
  have ok := hcheck_ok hc
  have r1 := ok.r1
  refine ⟨below_of (by rw [nextL_len, nextL_len]) (next_mono ok t1 t2 c1 c2 st ab), ?_, ?_⟩
  · obtain ⟨j, hj, e⟩ := minTo_at (nextL h s a) (nextL h s a).length (by rw [nextL_len]; omega)
    rw [e]
    exact ((next_ok ok t1 c1).rng j hj).1
  · obtain ⟨j, hj, e⟩ := maxTo_at (nextL h t b) (nextL h t b).length (by rw [nextL_len]; omega)
    rw [e]
    exact ((next_ok ok t2 c2).rng j hj).2
end Go.X

/- From the reading of arguments to slices that are read; what a call leaves as it was. No condition. -/
set_option linter.unusedSimpArgs false
set_option linter.unusedVariables false
namespace Go.X
open Go.ChangeShapes Go.WideShapes Go.Deep
def heapOf (w : World) : PHeap := ⟨fun b => w.heap[b]?, some (mt w)⟩
theorem heap_sep (w : World) : Sep [] [heapOf w] w where
  pw := List.Pairwise.nil
  dr := fun h hh => by cases hh
  so := fun h hh => by cases hh
  sr := fun g hg b ob hb => by
    simp only [List.mem_singleton] at hg; subst hg; exact hb
  no := fun h hh => by cases hh
  sm := fun g hg m hm => by
    simp only [List.mem_singleton] at hg; subst hg; exact Option.some.inj hm
structure Stays (W w' : World) : Prop where
  os : w'.os = W.os
  output : w'.output = W.output
  block : ∀ k, k < W.heap.size → w'.heap[k]? = W.heap[k]?
theorem stays_of {o : List PHeap} {W w' : World} (s : Sep o [heapOf W] w') : Stays W w' := by
  have h1 := s.sm _ List.mem_cons_self _ rfl
  simp only [mt, Prod.mk.injEq] at h1
  refine ⟨h1.1, h1.2, fun k hk => ?_⟩
  have h2 : W.heap[k]? = some (W.heap[k]'hk) := Array.getElem?_eq_getElem hk
  rw [h2]
  exact s.sr _ List.mem_cons_self k _ h2
theorem Stays.same {W w' : World} (h : Stays W w') {p : MemPlace} (hp : p.block < W.heap.size) : W.sameAt w' p := by
  cases p with
  | cell b o => exact World.cell?_of_block (w := W) (h.block b hp)
  | map b => exact h.block b hp
theorem Stays.frame {W w' : World} (h : Stays W w') (may : MemPlace → Prop) : W.keptBut w' may := by
  refine ⟨h.os, h.output, fun i hi => ?_⟩
  rw [h.block i hi]
  split <;> simp_all
theorem Stays.trod {H : Type} {enc : TypeId × Value → H} {P : Program} {t : TypeId} (hl : laidOutB P = true) (hr : P.readableRec t = true) (hrow : t < P.types.size) {W W' : World} {v : Value} {d : DataW H} {ps : List MemPlace}
    (h : DataW.Trod enc P W 0 (fun _ => true) true t v d ps) (hb : Stays W W') (hlt : ∀ x ∈ ps, x.block < W.heap.size) :
    DataW.Trod enc P W' 0 (fun b => decide (b < W.heap.size)) true t v d ps :=
  WideElems.Trod_stays hl hr hrow h (fun x hx => hb.same (hlt x hx)) (fun x hx => by simpa using hlt x hx)
theorem Stays.refl (W : World) : Stays W W := ⟨rfl, rfl, fun _ _ => rfl⟩
theorem calls_of_spec {P : Program} {f : FuncId} {args : Array Value} {hr : List PHeap} {W : World} {R : Value → List PHeap → Prop} (h : Spec P f args [] hr R) (hh : ∀ h ∈ hr, h = heapOf W) :
    Calls P f args W fun e w' => ∃ v hs, e = .returned v ∧ R v hs ∧ Stays W w' :=
  (h [] [heapOf W] W (heap_sep W) (fun x hx => .inr (by rw [hh x hx]; exact List.mem_cons_self))).mono fun e w' ⟨v, hs, he, hR, hS⟩ => ⟨v, hs, he, hR, stays_of (o := hs ++ []) hS⟩

theorem cell_heap {W : World} {a : Addr} {v : Value} (h : W.cell? a = some v) : ∃ cs T fr, a.spot = none ∧ W.heap[a.block]? = some (.cells cs T fr) ∧ cs[a.off]? = some v := by
  have hs := World.cell?_spot h
  unfold World.cell? at h
  split at h
  · rename_i c T fr hb
    rw [if_neg (by simp [hs])] at h
    exact ⟨c, T, fr, hs, hb, h⟩
  · cases h
theorem arr_one {α : Type} {W : World} {enc : α → List Value} (henc : ∀ x, ∃ u, enc x = [u] ∧ one u = true) {a : Addr} {len cap : Nat} {xs : List α} (hlen : xs.length = len) (hc : len ≤ cap) (h47 : len ≤ 140737488355328)
    (hcell : ∀ i (hi : i < xs.length), ∀ u, enc xs[i] = [u] → W.cell? (a.add i) = some u) : Arr (.slice (some a) len cap) enc 1 (heapOf W) xs := by
  subst hlen
  refine ⟨fun x => by obtain ⟨u, hu, _⟩ := henc x; rw [hu]; rfl, ⟨h47, fun x _ c hc => by obtain ⟨u, hu, ho⟩ := henc x; rw [hu] at hc; simp only [List.mem_singleton] at hc; subst hc; exact ho⟩, some a, cap, rfl, hc, (fun h => by cases h), fun hp => ?_⟩
  obtain ⟨u0, hu0, _⟩ := henc (xs[0]'hp)
  have h0 := hcell 0 hp u0 hu0
  obtain ⟨b, k, sp⟩ := a
  obtain ⟨cs, T, fr, hsp, hb, _⟩ := cell_heap h0
  have hsp' : sp = none := by simpa [Addr.add] using hsp
  subst hsp'
  have hb' : W.heap[b]? = some (.cells cs T fr) := by simpa [Addr.add] using hb
  refine ⟨b, k, cs, T, fr, rfl, hb', fun i j hi hj => ?_⟩
  obtain ⟨u, hu, _⟩ := henc (xs[i]'hi)
  have hi' := hcell i hi u hu
  rw [add_none] at hi'
  obtain ⟨cs2, T2, fr2, _, hb2, hc2⟩ := cell_heap hi'
  have hb2' : W.heap[b]? = some (.cells cs2 T2 fr2) := hb2
  rw [hb'] at hb2'
  simp only [Option.some.injEq, Obj.cells.injEq] at hb2'
  obtain ⟨rfl, rfl, rfl⟩ := hb2'
  have hj0 : j = 0 := by omega
  subst hj0
  rw [List.getElem?_eq_getElem hi, Option.bind_some, hu]
  simpa using hc2
section
variable {H : Type} {enc : TypeId × Value → H} {P : Program} {w : World} {held : Bool}
theorem arr_ints {t e : TypeId} {fuel : Nat} {cs : List Value} {x : DataW H × List MemPlace} (ht : P.underlying t = some (.slice e)) (he : P.underlying e = some (.int .i64)) (hc : P.cellsOf e = 1)
    (h : DataW.trod enc P w 0 (fun _ => true) held fuel t cs = some x) (hw : ∀ elems spare, x.1 = .slice elems spare → elems.length + spare.length ≤ 140737488355328) : ∃ v xs, cs = [v] ∧ Arr v encI 1 (heapOf w) xs := by
  rcases open_ints ht he hc h with ⟨rfl, _⟩ | ⟨a, len, cap, zs, rfl, _, hl, hm, hz, hx, hcell, hwz⟩
  · exact ⟨_, [], rfl, Arr.nil (fun _ => rfl)⟩
  · have hz' : zs.length = cap := by simpa using hz
    have hb : len ≤ 140737488355328 := by
      have := hw _ _ (by rw [hx])
      simp [lits] at this
      omega
    refine ⟨_, zs.take len, rfl, arr_one (fun x => ⟨_, rfl, rfl⟩) (by simp; omega) hl hb fun i hi u hu => ?_⟩
    have hi2 : i < zs.length := by simp at hi; omega
    rw [hcell i hi2]
    simp only [encI, List.cons.injEq, and_true] at hu
    rw [← hu]
    simp [List.getD_eq_getElem?_getD, hi2]
theorem arr_bools {t e : TypeId} {fuel : Nat} {cs : List Value} {x : DataW H × List MemPlace} (ht : P.underlying t = some (.slice e)) (he : P.underlying e = some .bool) (hc : P.cellsOf e = 1)
    (h : DataW.trod enc P w 0 (fun _ => true) held fuel t cs = some x) (hw : ∀ elems spare, x.1 = .slice elems spare → elems.length + spare.length ≤ 140737488355328) : ∃ v xs, cs = [v] ∧ Arr v encB 1 (heapOf w) xs := by
  rcases open_bools ht he hc h with ⟨rfl, _⟩ | ⟨a, len, cap, B, rfl, _, hl, hm, hx, hcell⟩
  · exact ⟨_, [], rfl, Arr.nil (fun _ => rfl)⟩
  · have hb : len ≤ 140737488355328 := by
      rcases open_slice ht h with ⟨h1, _⟩ | ⟨a', len', cap', m, n, D, Pl, h1, _, hl', _, hmm, hx', _⟩
      · cases h1
      · simp only [List.cons.injEq, Value.slice.injEq, Option.some.injEq, and_true] at h1
        obtain ⟨rfl, rfl, rfl⟩ := h1
        have := hw _ _ (by rw [hx'])
        simp at this
        omega
    refine ⟨_, (List.range len).map B, rfl, arr_one (fun x => ⟨_, rfl, rfl⟩) (by simp) hl hb fun i hi u hu => ?_⟩
    have hi2 : i < len := by simpa using hi
    rw [hcell i (by omega)]
    simp only [encB, List.cons.injEq, and_true] at hu
    rw [← hu]
    simp
end
end Go.X

/- Arguments of rows opened: small numbers, slices of bytes. No condition. -/
set_option linter.unusedSimpArgs false
set_option linter.unusedVariables false
namespace Go.X
open Go.ChangeShapes Go.WideShapes Go.Deep
section
variable {H : Type} {enc : TypeId × Value → H} {P : Program} {W : World} {base : Nat} {v : Value} {d : DataW H} {ps : List MemPlace}
theorem open_u8 {t : TypeId} (ht : P.underlying t = some (.int .u8)) (hv : Value.okWide P W .any base t v) (h : DataW.Trod enc P W 0 (fun _ => true) true t v d ps) :
    ∃ n : Nat, n < 256 ∧ v = .int .u8 (n : Nat) ∧ d = .lit (.int .u8 (n : Nat)) ∧ ps = [] ∧ (Lit.int .u8 (n : Nat)).wf = true := by
  obtain ⟨m, rfl, rfl, rfl, hw⟩ := open_int ht hv h
  have := bounds_u8 hw
  obtain ⟨n, rfl⟩ := Int.eq_ofNat_of_zero_le this.1
  exact ⟨n, by omega, rfl, rfl, rfl, hw⟩
theorem open_u16 {t : TypeId} (ht : P.underlying t = some (.int .u16)) (hv : Value.okWide P W .any base t v) (h : DataW.Trod enc P W 0 (fun _ => true) true t v d ps) :
    ∃ n : Nat, n < 65536 ∧ v = .int .u16 (n : Nat) ∧ d = .lit (.int .u16 (n : Nat)) ∧ ps = [] ∧ (Lit.int .u16 (n : Nat)).wf = true := by
  obtain ⟨m, rfl, rfl, rfl, hw⟩ := open_int ht hv h
  have := bounds_u16 hw
  obtain ⟨n, rfl⟩ := Int.eq_ofNat_of_zero_le this.1
  exact ⟨n, by omega, rfl, rfl, rfl, hw⟩
theorem bounds_i64 {n : Int} (h : (Lit.int .i64 n).wf = true) : in64 n := by
  simp [Lit.wf, IntKind.min, IntKind.max, IntKind.signed, IntKind.bits] at h
  exact ⟨by omega, by omega⟩
theorem open_i64 {t : TypeId} (ht : P.underlying t = some (.int .i64)) (hv : Value.okWide P W .any base t v) (h : DataW.Trod enc P W 0 (fun _ => true) true t v d ps) :
    ∃ n : Int, in64 n ∧ v = .int .i64 n ∧ d = .lit (.int .i64 n) ∧ ps = [] ∧ (Lit.int .i64 n).wf = true := by
  obtain ⟨m, rfl, rfl, rfl, hw⟩ := open_int ht hv h
  exact ⟨m, bounds_i64 hw, rfl, rfl, rfl, hw⟩
theorem arr_u8s {held : Bool} {t e : TypeId} {fuel : Nat} {cs : List Value} {x : DataW H × List MemPlace} (ht : P.underlying t = some (.slice e)) (he : P.underlying e = some (.int .u8)) (hc : P.cellsOf e = 1)
    (h : DataW.trod enc P W 0 (fun _ => true) held fuel t cs = some x) (hw : ∀ elems spare, x.1 = .slice elems spare → elems.length + spare.length ≤ 140737488355328) : ∃ v xs, cs = [v] ∧ Arr v encU8 1 (heapOf W) xs := by
  rcases open_ints ht he hc h with ⟨rfl, _⟩ | ⟨a, len, cap, zs, rfl, _, hl, hm, hz, hx, hcell, hwz⟩
  · exact ⟨_, [], rfl, Arr.nil (fun _ => rfl)⟩
  · have hz' : zs.length = cap := by simpa using hz
    have hb : len ≤ 140737488355328 := by
      have := hw _ _ (by rw [hx])
      simp [lits] at this
      omega
    refine ⟨_, (zs.take len).map fun n => UInt8.ofNat n.toNat, rfl, arr_one (fun x => ⟨_, rfl, rfl⟩) (by simp; omega) hl hb fun i hi u hu => ?_⟩
    have hi2 : i < zs.length := by simp at hi; omega
    rw [hcell i hi2]
    simp only [encU8, List.cons.injEq, and_true] at hu
    rw [← hu]
    have hb := range_u8 hwz i
    have e : zs[i]?.getD 0 = zs[i] := by simp [hi2]
    rw [e] at hb
    simp only [List.getElem_map, List.getElem_take, List.getD_eq_getElem?_getD, e, UInt8.toNat_ofNat']
    congr 2
    omega
theorem slice_weight {t e : TypeId} (ht : P.underlying t = some (.slice e)) (hb : 0 < P.bytesOf e) (hw : ∀ n ∈ d.weights P t, n ≤ reachBytes) : ∀ elems spare, d = .slice elems spare → elems.length + spare.length ≤ 140737488355328 := by
  rintro elems spare rfl
  have h := hw ((elems.length + spare.length) * P.bytesOf e) (by simp [DataW.weights, ht])
  have h1 : (elems.length + spare.length) * 1 ≤ (elems.length + spare.length) * P.bytesOf e := Nat.mul_le_mul_left _ hb
  have h2 : reachBytes = 140737488351232 := rfl
  omega
theorem slice_cells {t e : TypeId} (ht : P.underlying t = some (.slice e)) (hv : Value.okWide P W .any base t v) : v.cells.toList = [v] := by
  obtain ⟨a, len, cap, rfl⟩ := okWide_slice ht hv
  rfl
theorem open_u8s {t e : TypeId} (ht : P.underlying t = some (.slice e)) (he : P.underlying e = some (.int .u8)) (hc : P.cellsOf e = 1) (hb : 0 < P.bytesOf e) (hv : Value.okWide P W .any base t v)
    (h : DataW.Trod enc P W 0 (fun _ => true) true t v d ps) (hw : ∀ n ∈ d.weights P t, n ≤ reachBytes) : ∃ xs : List UInt8, Arr v encU8 1 (heapOf W) xs := by
  obtain ⟨fuel, hf⟩ := h
  rw [slice_cells ht hv] at hf
  obtain ⟨v', xs, hcs, hA⟩ := arr_u8s ht he hc hf (slice_weight ht hb hw)
  simp only [List.cons.injEq, and_true] at hcs
  subst hcs
  exact ⟨xs, hA⟩
theorem open_i64s {t e : TypeId} (ht : P.underlying t = some (.slice e)) (he : P.underlying e = some (.int .i64)) (hc : P.cellsOf e = 1) (hb : 0 < P.bytesOf e) (hv : Value.okWide P W .any base t v)
    (h : DataW.Trod enc P W 0 (fun _ => true) true t v d ps) (hw : ∀ n ∈ d.weights P t, n ≤ reachBytes) : ∃ xs : List Int, Arr v encI 1 (heapOf W) xs := by
  obtain ⟨fuel, hf⟩ := h
  rw [slice_cells ht hv] at hf
  obtain ⟨v', xs, hcs, hA⟩ := arr_ints ht he hc hf (slice_weight ht hb hw)
  simp only [List.cons.injEq, and_true] at hcs
  subst hcs
  exact ⟨xs, hA⟩
end
end Go.X

/- The type table of this seat as instances; written by program. No condition. -/
namespace Go.X
open Go.Proofs
set_option maxRecDepth 10000
instance : Und Try.prog 0 (Go.TypeDesc.tuple #[]) := ⟨Try.runUnderlying0⟩
instance : IsAgg Try.prog 0 false := ⟨Try.isAgg0⟩
instance : TySize Try.prog 0 1 := ⟨Try.sizeOf0⟩
instance : TyBytes Try.prog 0 0 := ⟨_, Try.typeInfo0, rfl⟩
instance : Zero Try.prog 0 [(Go.Value.tuple #[])] := ⟨_, Try.zeroValue0, rfl⟩
instance : Und Try.prog 1 (Go.TypeDesc.func #[] #[] Bool.false) := ⟨Try.runUnderlying1⟩
instance : IsAgg Try.prog 1 false := ⟨Try.isAgg1⟩
instance : TySize Try.prog 1 1 := ⟨Try.sizeOf1⟩
instance : TyBytes Try.prog 1 8 := ⟨_, Try.typeInfo1, rfl⟩
instance : Zero Try.prog 1 [Go.Value.nilFunc] := ⟨_, Try.zeroValue1, rfl⟩
instance : Und Try.prog 2 (Go.TypeDesc.int Go.IntKind.i64) := ⟨Try.runUnderlying2⟩
instance : IsAgg Try.prog 2 false := ⟨Try.isAgg2⟩
instance : TySize Try.prog 2 1 := ⟨Try.sizeOf2⟩
instance : TyBytes Try.prog 2 8 := ⟨_, Try.typeInfo2, rfl⟩
instance : Zero Try.prog 2 [(Go.Value.int Go.IntKind.i64 0)] := ⟨_, Try.zeroValue2, rfl⟩
instance : Und Try.prog 3 (Go.TypeDesc.int Go.IntKind.i64) := ⟨Try.runUnderlying3⟩
instance : IsAgg Try.prog 3 false := ⟨Try.isAgg3⟩
instance : TySize Try.prog 3 1 := ⟨Try.sizeOf3⟩
instance : TyBytes Try.prog 3 8 := ⟨_, Try.typeInfo3, rfl⟩
instance : Zero Try.prog 3 [(Go.Value.int Go.IntKind.i64 0)] := ⟨_, Try.zeroValue3, rfl⟩
instance : Und Try.prog 4 Go.TypeDesc.bool := ⟨Try.runUnderlying4⟩
instance : IsAgg Try.prog 4 false := ⟨Try.isAgg4⟩
instance : TySize Try.prog 4 1 := ⟨Try.sizeOf4⟩
instance : TyBytes Try.prog 4 1 := ⟨_, Try.typeInfo4, rfl⟩
instance : Zero Try.prog 4 [(Go.Value.bool Bool.false)] := ⟨_, Try.zeroValue4, rfl⟩
instance : Und Try.prog 5 (Go.TypeDesc.int Go.IntKind.u8) := ⟨Try.runUnderlying5⟩
instance : IsAgg Try.prog 5 false := ⟨Try.isAgg5⟩
instance : TySize Try.prog 5 1 := ⟨Try.sizeOf5⟩
instance : TyBytes Try.prog 5 1 := ⟨_, Try.typeInfo5, rfl⟩
instance : Zero Try.prog 5 [(Go.Value.int Go.IntKind.u8 0)] := ⟨_, Try.zeroValue5, rfl⟩
instance : Und Try.prog 6 (Go.TypeDesc.int Go.IntKind.u8) := ⟨Try.runUnderlying6⟩
instance : IsAgg Try.prog 6 false := ⟨Try.isAgg6⟩
instance : TySize Try.prog 6 1 := ⟨Try.sizeOf6⟩
instance : TyBytes Try.prog 6 1 := ⟨_, Try.typeInfo6, rfl⟩
instance : Zero Try.prog 6 [(Go.Value.int Go.IntKind.u8 0)] := ⟨_, Try.zeroValue6, rfl⟩
instance : Und Try.prog 7 (Go.TypeDesc.struct #[(Go.Field.mk "x" 2 0 Bool.false "" "runtime" 0), (Go.Field.mk "y" 3 1 Bool.false "" "runtime" 8), (Go.Field.mk "signed" 4 2 Bool.false "" "runtime" 16), (Go.Field.mk "code" 6 3 Bool.false "" "runtime" 17)]) := ⟨Try.runUnderlying7⟩
instance : IsAgg Try.prog 7 true := ⟨Try.isAgg7⟩
instance : TySize Try.prog 7 4 := ⟨Try.sizeOf7⟩
instance : TyBytes Try.prog 7 24 := ⟨_, Try.typeInfo7, rfl⟩
instance : Zero Try.prog 7 [(Go.Value.int Go.IntKind.i64 0), (Go.Value.int Go.IntKind.i64 0), (Go.Value.bool Bool.false), (Go.Value.int Go.IntKind.u8 0)] := ⟨_, Try.zeroValue7, rfl⟩
instance : Fld Try.prog 7 0 0 := Fld.of (n := 1) ⟨Try.runUnderlying7⟩ rfl ⟨Try.sizeOf2⟩ (by decide) rfl
instance : Fld Try.prog 7 1 1 := Fld.of (n := 1) ⟨Try.runUnderlying7⟩ rfl ⟨Try.sizeOf3⟩ (by decide) rfl
instance : Fld Try.prog 7 2 2 := Fld.of (n := 1) ⟨Try.runUnderlying7⟩ rfl ⟨Try.sizeOf4⟩ (by decide) rfl
instance : Fld Try.prog 7 3 3 := Fld.of (n := 1) ⟨Try.runUnderlying7⟩ rfl ⟨Try.sizeOf6⟩ (by decide) rfl
instance : Places Try.prog 7 (fun i => ([(0, 1), (1, 1), (2, 1), (3, 1)] : List (Nat × Nat))[i]?) := Places.struct ⟨Try.runUnderlying7⟩ (.c Try.sizeOf2 (.c Try.sizeOf3 (.c Try.sizeOf4 (.c Try.sizeOf6 .n))))
instance : Und Try.prog 9 Go.TypeDesc.string := ⟨Try.runUnderlying9⟩
instance : IsAgg Try.prog 9 false := ⟨Try.isAgg9⟩
instance : TySize Try.prog 9 1 := ⟨Try.sizeOf9⟩
instance : TyBytes Try.prog 9 16 := ⟨_, Try.typeInfo9, rfl⟩
instance : Zero Try.prog 9 [(Go.Value.string (ByteArray.mk #[]))] := ⟨_, Try.zeroValue9, rfl⟩
instance : Und Try.prog 12 (Go.TypeDesc.int Go.IntKind.u64) := ⟨Try.runUnderlying12⟩
instance : IsAgg Try.prog 12 false := ⟨Try.isAgg12⟩
instance : TySize Try.prog 12 1 := ⟨Try.sizeOf12⟩
instance : TyBytes Try.prog 12 8 := ⟨_, Try.typeInfo12, rfl⟩
instance : Zero Try.prog 12 [(Go.Value.int Go.IntKind.u64 0)] := ⟨_, Try.zeroValue12, rfl⟩
instance : Und Try.prog 13 (Go.TypeDesc.struct #[(Go.Field.mk "msg" 9 0 Bool.false "" "runtime" 0), (Go.Field.mk "addr" 12 1 Bool.false "" "runtime" 16)]) := ⟨Try.runUnderlying13⟩
instance : IsAgg Try.prog 13 true := ⟨Try.isAgg13⟩
instance : TySize Try.prog 13 2 := ⟨Try.sizeOf13⟩
instance : TyBytes Try.prog 13 24 := ⟨_, Try.typeInfo13, rfl⟩
instance : Zero Try.prog 13 [(Go.Value.string (ByteArray.mk #[])), (Go.Value.int Go.IntKind.u64 0)] := ⟨_, Try.zeroValue13, rfl⟩
instance : Fld Try.prog 13 0 0 := Fld.of (n := 1) ⟨Try.runUnderlying13⟩ rfl ⟨Try.sizeOf9⟩ (by decide) rfl
instance : Fld Try.prog 13 1 1 := Fld.of (n := 1) ⟨Try.runUnderlying13⟩ rfl ⟨Try.sizeOf12⟩ (by decide) rfl
instance : Places Try.prog 13 (fun i => ([(0, 1), (1, 1)] : List (Nat × Nat))[i]?) := Places.struct ⟨Try.runUnderlying13⟩ (.c Try.sizeOf9 (.c Try.sizeOf12 .n))
instance : Und Try.prog 22 (Go.TypeDesc.slice 5) := ⟨Try.runUnderlying22⟩
instance : IsAgg Try.prog 22 false := ⟨Try.isAgg22⟩
instance : TySize Try.prog 22 1 := ⟨Try.sizeOf22⟩
instance : TyBytes Try.prog 22 24 := ⟨_, Try.typeInfo22, rfl⟩
instance : Zero Try.prog 22 [(Go.Value.slice none 0 0)] := ⟨_, Try.zeroValue22, rfl⟩
instance : Und Try.prog 23 (Go.TypeDesc.int Go.IntKind.u16) := ⟨Try.runUnderlying23⟩
instance : IsAgg Try.prog 23 false := ⟨Try.isAgg23⟩
instance : TySize Try.prog 23 1 := ⟨Try.sizeOf23⟩
instance : TyBytes Try.prog 23 2 := ⟨_, Try.typeInfo23, rfl⟩
instance : Zero Try.prog 23 [(Go.Value.int Go.IntKind.u16 0)] := ⟨_, Try.zeroValue23, rfl⟩
instance : Und Try.prog 24 (Go.TypeDesc.slice 48) := ⟨Try.runUnderlying24⟩
instance : IsAgg Try.prog 24 false := ⟨Try.isAgg24⟩
instance : TySize Try.prog 24 1 := ⟨Try.sizeOf24⟩
instance : TyBytes Try.prog 24 24 := ⟨_, Try.typeInfo24, rfl⟩
instance : Zero Try.prog 24 [(Go.Value.slice none 0 0)] := ⟨_, Try.zeroValue24, rfl⟩
instance : Und Try.prog 25 (Go.TypeDesc.slice 50) := ⟨Try.runUnderlying25⟩
instance : IsAgg Try.prog 25 false := ⟨Try.isAgg25⟩
instance : TySize Try.prog 25 1 := ⟨Try.sizeOf25⟩
instance : TyBytes Try.prog 25 24 := ⟨_, Try.typeInfo25, rfl⟩
instance : Zero Try.prog 25 [(Go.Value.slice none 0 0)] := ⟨_, Try.zeroValue25, rfl⟩
instance : Und Try.prog 26 (Go.TypeDesc.slice 38) := ⟨Try.runUnderlying26⟩
instance : IsAgg Try.prog 26 false := ⟨Try.isAgg26⟩
instance : TySize Try.prog 26 1 := ⟨Try.sizeOf26⟩
instance : TyBytes Try.prog 26 24 := ⟨_, Try.typeInfo26, rfl⟩
instance : Zero Try.prog 26 [(Go.Value.slice none 0 0)] := ⟨_, Try.zeroValue26, rfl⟩
instance : Und Try.prog 27 (Go.TypeDesc.slice 52) := ⟨Try.runUnderlying27⟩
instance : IsAgg Try.prog 27 false := ⟨Try.isAgg27⟩
instance : TySize Try.prog 27 1 := ⟨Try.sizeOf27⟩
instance : TyBytes Try.prog 27 24 := ⟨_, Try.typeInfo27, rfl⟩
instance : Zero Try.prog 27 [(Go.Value.slice none 0 0)] := ⟨_, Try.zeroValue27, rfl⟩
instance : Und Try.prog 29 (Go.TypeDesc.struct #[(Go.Field.mk "Rooms" 24 0 Bool.false "" "" 0), (Go.Field.mk "Walls" 25 1 Bool.false "" "" 24), (Go.Field.mk "Branches" 26 2 Bool.false "" "" 48), (Go.Field.mk "Coolers" 27 3 Bool.false "" "" 72)]) := ⟨Try.runUnderlying29⟩
instance : IsAgg Try.prog 29 true := ⟨Try.isAgg29⟩
instance : TySize Try.prog 29 4 := ⟨Try.sizeOf29⟩
instance : TyBytes Try.prog 29 96 := ⟨_, Try.typeInfo29, rfl⟩
instance : Zero Try.prog 29 [(Go.Value.slice none 0 0), (Go.Value.slice none 0 0), (Go.Value.slice none 0 0), (Go.Value.slice none 0 0)] := ⟨_, Try.zeroValue29, rfl⟩
instance : Fld Try.prog 29 0 0 := Fld.of (n := 1) ⟨Try.runUnderlying29⟩ rfl ⟨Try.sizeOf24⟩ (by decide) rfl
instance : Fld Try.prog 29 1 1 := Fld.of (n := 1) ⟨Try.runUnderlying29⟩ rfl ⟨Try.sizeOf25⟩ (by decide) rfl
instance : Fld Try.prog 29 2 2 := Fld.of (n := 1) ⟨Try.runUnderlying29⟩ rfl ⟨Try.sizeOf26⟩ (by decide) rfl
instance : Fld Try.prog 29 3 3 := Fld.of (n := 1) ⟨Try.runUnderlying29⟩ rfl ⟨Try.sizeOf27⟩ (by decide) rfl
instance : Places Try.prog 29 (fun i => ([(0, 1), (1, 1), (2, 1), (3, 1)] : List (Nat × Nat))[i]?) := Places.struct ⟨Try.runUnderlying29⟩ (.c Try.sizeOf24 (.c Try.sizeOf25 (.c Try.sizeOf26 (.c Try.sizeOf27 .n))))
instance : Und Try.prog 31 (Go.TypeDesc.slice 3) := ⟨Try.runUnderlying31⟩
instance : IsAgg Try.prog 31 false := ⟨Try.isAgg31⟩
instance : TySize Try.prog 31 1 := ⟨Try.sizeOf31⟩
instance : TyBytes Try.prog 31 24 := ⟨_, Try.typeInfo31, rfl⟩
instance : Zero Try.prog 31 [(Go.Value.slice none 0 0)] := ⟨_, Try.zeroValue31, rfl⟩
instance : Und Try.prog 32 (Go.TypeDesc.int Go.IntKind.i64) := ⟨Try.runUnderlying32⟩
instance : IsAgg Try.prog 32 false := ⟨Try.isAgg32⟩
instance : TySize Try.prog 32 1 := ⟨Try.sizeOf32⟩
instance : TyBytes Try.prog 32 8 := ⟨_, Try.typeInfo32, rfl⟩
instance : Zero Try.prog 32 [(Go.Value.int Go.IntKind.i64 0)] := ⟨_, Try.zeroValue32, rfl⟩
instance : Und Try.prog 38 (Go.TypeDesc.struct #[(Go.Field.mk "Up" 3 0 Bool.false "" "" 0), (Go.Field.mk "Open" 3 1 Bool.false "" "" 8), (Go.Field.mk "Leak" 3 2 Bool.false "" "" 16)]) := ⟨Try.runUnderlying38⟩
instance : IsAgg Try.prog 38 true := ⟨Try.isAgg38⟩
instance : TySize Try.prog 38 3 := ⟨Try.sizeOf38⟩
instance : TyBytes Try.prog 38 24 := ⟨_, Try.typeInfo38, rfl⟩
instance : Zero Try.prog 38 [(Go.Value.int Go.IntKind.i64 0), (Go.Value.int Go.IntKind.i64 0), (Go.Value.int Go.IntKind.i64 0)] := ⟨_, Try.zeroValue38, rfl⟩
instance : Fld Try.prog 38 0 0 := Fld.of (n := 1) ⟨Try.runUnderlying38⟩ rfl ⟨Try.sizeOf3⟩ (by decide) rfl
instance : Fld Try.prog 38 1 1 := Fld.of (n := 1) ⟨Try.runUnderlying38⟩ rfl ⟨Try.sizeOf3⟩ (by decide) rfl
instance : Fld Try.prog 38 2 2 := Fld.of (n := 1) ⟨Try.runUnderlying38⟩ rfl ⟨Try.sizeOf3⟩ (by decide) rfl
instance : Places Try.prog 38 (fun i => ([(0, 1), (1, 1), (2, 1)] : List (Nat × Nat))[i]?) := Places.struct ⟨Try.runUnderlying38⟩ (.c Try.sizeOf3 (.c Try.sizeOf3 (.c Try.sizeOf3 .n)))
instance : Und Try.prog 43 (Go.TypeDesc.struct #[(Go.Field.mk "Load" 31 0 Bool.false "" "" 0), (Go.Field.mk "Out" 3 1 Bool.false "" "" 24), (Go.Field.mk "Pump" 3 2 Bool.false "" "" 32)]) := ⟨Try.runUnderlying43⟩
instance : IsAgg Try.prog 43 true := ⟨Try.isAgg43⟩
instance : TySize Try.prog 43 3 := ⟨Try.sizeOf43⟩
instance : TyBytes Try.prog 43 40 := ⟨_, Try.typeInfo43, rfl⟩
instance : Zero Try.prog 43 [(Go.Value.slice none 0 0), (Go.Value.int Go.IntKind.i64 0), (Go.Value.int Go.IntKind.i64 0)] := ⟨_, Try.zeroValue43, rfl⟩
instance : Fld Try.prog 43 0 0 := Fld.of (n := 1) ⟨Try.runUnderlying43⟩ rfl ⟨Try.sizeOf31⟩ (by decide) rfl
instance : Fld Try.prog 43 1 1 := Fld.of (n := 1) ⟨Try.runUnderlying43⟩ rfl ⟨Try.sizeOf3⟩ (by decide) rfl
instance : Fld Try.prog 43 2 2 := Fld.of (n := 1) ⟨Try.runUnderlying43⟩ rfl ⟨Try.sizeOf3⟩ (by decide) rfl
instance : Places Try.prog 43 (fun i => ([(0, 1), (1, 1), (2, 1)] : List (Nat × Nat))[i]?) := Places.struct ⟨Try.runUnderlying43⟩ (.c Try.sizeOf31 (.c Try.sizeOf3 (.c Try.sizeOf3 .n)))
instance : Und Try.prog 48 (Go.TypeDesc.struct #[(Go.Field.mk "Store" 3 0 Bool.false "" "" 0), (Go.Field.mk "Limit" 3 1 Bool.false "" "" 8)]) := ⟨Try.runUnderlying48⟩
instance : IsAgg Try.prog 48 true := ⟨Try.isAgg48⟩
instance : TySize Try.prog 48 2 := ⟨Try.sizeOf48⟩
instance : TyBytes Try.prog 48 16 := ⟨_, Try.typeInfo48, rfl⟩
instance : Zero Try.prog 48 [(Go.Value.int Go.IntKind.i64 0), (Go.Value.int Go.IntKind.i64 0)] := ⟨_, Try.zeroValue48, rfl⟩
instance : Fld Try.prog 48 0 0 := Fld.of (n := 1) ⟨Try.runUnderlying48⟩ rfl ⟨Try.sizeOf3⟩ (by decide) rfl
instance : Fld Try.prog 48 1 1 := Fld.of (n := 1) ⟨Try.runUnderlying48⟩ rfl ⟨Try.sizeOf3⟩ (by decide) rfl
instance : Places Try.prog 48 (fun i => ([(0, 1), (1, 1)] : List (Nat × Nat))[i]?) := Places.struct ⟨Try.runUnderlying48⟩ (.c Try.sizeOf3 (.c Try.sizeOf3 .n))
instance : Und Try.prog 50 (Go.TypeDesc.struct #[(Go.Field.mk "A" 3 0 Bool.false "" "" 0), (Go.Field.mk "B" 3 1 Bool.false "" "" 8), (Go.Field.mk "Pass" 3 2 Bool.false "" "" 16)]) := ⟨Try.runUnderlying50⟩
instance : IsAgg Try.prog 50 true := ⟨Try.isAgg50⟩
instance : TySize Try.prog 50 3 := ⟨Try.sizeOf50⟩
instance : TyBytes Try.prog 50 24 := ⟨_, Try.typeInfo50, rfl⟩
instance : Zero Try.prog 50 [(Go.Value.int Go.IntKind.i64 0), (Go.Value.int Go.IntKind.i64 0), (Go.Value.int Go.IntKind.i64 0)] := ⟨_, Try.zeroValue50, rfl⟩
instance : Fld Try.prog 50 0 0 := Fld.of (n := 1) ⟨Try.runUnderlying50⟩ rfl ⟨Try.sizeOf3⟩ (by decide) rfl
instance : Fld Try.prog 50 1 1 := Fld.of (n := 1) ⟨Try.runUnderlying50⟩ rfl ⟨Try.sizeOf3⟩ (by decide) rfl
instance : Fld Try.prog 50 2 2 := Fld.of (n := 1) ⟨Try.runUnderlying50⟩ rfl ⟨Try.sizeOf3⟩ (by decide) rfl
instance : Places Try.prog 50 (fun i => ([(0, 1), (1, 1), (2, 1)] : List (Nat × Nat))[i]?) := Places.struct ⟨Try.runUnderlying50⟩ (.c Try.sizeOf3 (.c Try.sizeOf3 (.c Try.sizeOf3 .n)))
instance : Und Try.prog 52 (Go.TypeDesc.struct #[(Go.Field.mk "Room" 3 0 Bool.false "" "" 0), (Go.Field.mk "Branch" 3 1 Bool.false "" "" 8), (Go.Field.mk "Gain" 3 2 Bool.false "" "" 16), (Go.Field.mk "Carry" 3 3 Bool.false "" "" 24), (Go.Field.mk "Supply" 3 4 Bool.false "" "" 32)]) := ⟨Try.runUnderlying52⟩
instance : IsAgg Try.prog 52 true := ⟨Try.isAgg52⟩
instance : TySize Try.prog 52 5 := ⟨Try.sizeOf52⟩
instance : TyBytes Try.prog 52 40 := ⟨_, Try.typeInfo52, rfl⟩
instance : Zero Try.prog 52 [(Go.Value.int Go.IntKind.i64 0), (Go.Value.int Go.IntKind.i64 0), (Go.Value.int Go.IntKind.i64 0), (Go.Value.int Go.IntKind.i64 0), (Go.Value.int Go.IntKind.i64 0)] := ⟨_, Try.zeroValue52, rfl⟩
instance : Fld Try.prog 52 0 0 := Fld.of (n := 1) ⟨Try.runUnderlying52⟩ rfl ⟨Try.sizeOf3⟩ (by decide) rfl
instance : Fld Try.prog 52 1 1 := Fld.of (n := 1) ⟨Try.runUnderlying52⟩ rfl ⟨Try.sizeOf3⟩ (by decide) rfl
instance : Fld Try.prog 52 2 2 := Fld.of (n := 1) ⟨Try.runUnderlying52⟩ rfl ⟨Try.sizeOf3⟩ (by decide) rfl
instance : Fld Try.prog 52 3 3 := Fld.of (n := 1) ⟨Try.runUnderlying52⟩ rfl ⟨Try.sizeOf3⟩ (by decide) rfl
instance : Fld Try.prog 52 4 4 := Fld.of (n := 1) ⟨Try.runUnderlying52⟩ rfl ⟨Try.sizeOf3⟩ (by decide) rfl
instance : Places Try.prog 52 (fun i => ([(0, 1), (1, 1), (2, 1), (3, 1), (4, 1)] : List (Nat × Nat))[i]?) := Places.struct ⟨Try.runUnderlying52⟩ (.c Try.sizeOf3 (.c Try.sizeOf3 (.c Try.sizeOf3 (.c Try.sizeOf3 (.c Try.sizeOf3 .n)))))
instance : Und Try.prog 57 (Go.TypeDesc.struct #[(Go.Field.mk "Low" 43 0 Bool.false "" "" 0), (Go.Field.mk "High" 43 3 Bool.false "" "" 40)]) := ⟨Try.runUnderlying57⟩
instance : IsAgg Try.prog 57 true := ⟨Try.isAgg57⟩
instance : TySize Try.prog 57 6 := ⟨Try.sizeOf57⟩
instance : TyBytes Try.prog 57 80 := ⟨_, Try.typeInfo57, rfl⟩
instance : Zero Try.prog 57 [(Go.Value.slice none 0 0), (Go.Value.int Go.IntKind.i64 0), (Go.Value.int Go.IntKind.i64 0), (Go.Value.slice none 0 0), (Go.Value.int Go.IntKind.i64 0), (Go.Value.int Go.IntKind.i64 0)] := ⟨_, Try.zeroValue57, rfl⟩
instance : Fld Try.prog 57 0 0 := Fld.of (n := 3) ⟨Try.runUnderlying57⟩ rfl ⟨Try.sizeOf43⟩ (by decide) rfl
instance : Fld Try.prog 57 1 3 := Fld.of (n := 3) ⟨Try.runUnderlying57⟩ rfl ⟨Try.sizeOf43⟩ (by decide) rfl
instance : Places Try.prog 57 (fun i => ([(0, 3), (3, 3)] : List (Nat × Nat))[i]?) := Places.struct ⟨Try.runUnderlying57⟩ (.c Try.sizeOf43 (.c Try.sizeOf43 .n))
instance : Und Try.prog 69 (Go.TypeDesc.slice 123) := ⟨Try.runUnderlying69⟩
instance : IsAgg Try.prog 69 false := ⟨Try.isAgg69⟩
instance : TySize Try.prog 69 1 := ⟨Try.sizeOf69⟩
instance : TyBytes Try.prog 69 24 := ⟨_, Try.typeInfo69, rfl⟩
instance : Zero Try.prog 69 [(Go.Value.slice none 0 0)] := ⟨_, Try.zeroValue69, rfl⟩
instance : Und Try.prog 70 (Go.TypeDesc.slice 124) := ⟨Try.runUnderlying70⟩
instance : IsAgg Try.prog 70 false := ⟨Try.isAgg70⟩
instance : TySize Try.prog 70 1 := ⟨Try.sizeOf70⟩
instance : TyBytes Try.prog 70 24 := ⟨_, Try.typeInfo70, rfl⟩
instance : Zero Try.prog 70 [(Go.Value.slice none 0 0)] := ⟨_, Try.zeroValue70, rfl⟩
instance : Und Try.prog 71 (Go.TypeDesc.slice 125) := ⟨Try.runUnderlying71⟩
instance : IsAgg Try.prog 71 false := ⟨Try.isAgg71⟩
instance : TySize Try.prog 71 1 := ⟨Try.sizeOf71⟩
instance : TyBytes Try.prog 71 24 := ⟨_, Try.typeInfo71, rfl⟩
instance : Zero Try.prog 71 [(Go.Value.slice none 0 0)] := ⟨_, Try.zeroValue71, rfl⟩
instance : Und Try.prog 72 (Go.TypeDesc.slice 126) := ⟨Try.runUnderlying72⟩
instance : IsAgg Try.prog 72 false := ⟨Try.isAgg72⟩
instance : TySize Try.prog 72 1 := ⟨Try.sizeOf72⟩
instance : TyBytes Try.prog 72 24 := ⟨_, Try.typeInfo72, rfl⟩
instance : Zero Try.prog 72 [(Go.Value.slice none 0 0)] := ⟨_, Try.zeroValue72, rfl⟩
instance : Und Try.prog 74 (Go.TypeDesc.struct #[(Go.Field.mk "Rooms" 69 0 Bool.false "" "" 0), (Go.Field.mk "Walls" 70 1 Bool.false "" "" 24), (Go.Field.mk "Branches" 71 2 Bool.false "" "" 48), (Go.Field.mk "Coolers" 72 3 Bool.false "" "" 72)]) := ⟨Try.runUnderlying74⟩
instance : IsAgg Try.prog 74 true := ⟨Try.isAgg74⟩
instance : TySize Try.prog 74 4 := ⟨Try.sizeOf74⟩
instance : TyBytes Try.prog 74 96 := ⟨_, Try.typeInfo74, rfl⟩
instance : Zero Try.prog 74 [(Go.Value.slice none 0 0), (Go.Value.slice none 0 0), (Go.Value.slice none 0 0), (Go.Value.slice none 0 0)] := ⟨_, Try.zeroValue74, rfl⟩
instance : Fld Try.prog 74 0 0 := Fld.of (n := 1) ⟨Try.runUnderlying74⟩ rfl ⟨Try.sizeOf69⟩ (by decide) rfl
instance : Fld Try.prog 74 1 1 := Fld.of (n := 1) ⟨Try.runUnderlying74⟩ rfl ⟨Try.sizeOf70⟩ (by decide) rfl
instance : Fld Try.prog 74 2 2 := Fld.of (n := 1) ⟨Try.runUnderlying74⟩ rfl ⟨Try.sizeOf71⟩ (by decide) rfl
instance : Fld Try.prog 74 3 3 := Fld.of (n := 1) ⟨Try.runUnderlying74⟩ rfl ⟨Try.sizeOf72⟩ (by decide) rfl
instance : Places Try.prog 74 (fun i => ([(0, 1), (1, 1), (2, 1), (3, 1)] : List (Nat × Nat))[i]?) := Places.struct ⟨Try.runUnderlying74⟩ (.c Try.sizeOf69 (.c Try.sizeOf70 (.c Try.sizeOf71 (.c Try.sizeOf72 .n))))
instance : Und Try.prog 77 (Go.TypeDesc.pointer 3) := ⟨Try.runUnderlying77⟩
instance : IsAgg Try.prog 77 false := ⟨Try.isAgg77⟩
instance : TySize Try.prog 77 1 := ⟨Try.sizeOf77⟩
instance : TyBytes Try.prog 77 8 := ⟨_, Try.typeInfo77, rfl⟩
instance : Zero Try.prog 77 [(Go.Value.pointer none)] := ⟨_, Try.zeroValue77, rfl⟩
instance : Und Try.prog 78 (Go.TypeDesc.slice 77) := ⟨Try.runUnderlying78⟩
instance : IsAgg Try.prog 78 false := ⟨Try.isAgg78⟩
instance : TySize Try.prog 78 1 := ⟨Try.sizeOf78⟩
instance : TyBytes Try.prog 78 24 := ⟨_, Try.typeInfo78, rfl⟩
instance : Zero Try.prog 78 [(Go.Value.slice none 0 0)] := ⟨_, Try.zeroValue78, rfl⟩
instance : Und Try.prog 80 (Go.TypeDesc.slice 43) := ⟨Try.runUnderlying80⟩
instance : IsAgg Try.prog 80 false := ⟨Try.isAgg80⟩
instance : TySize Try.prog 80 1 := ⟨Try.sizeOf80⟩
instance : TyBytes Try.prog 80 24 := ⟨_, Try.typeInfo80, rfl⟩
instance : Zero Try.prog 80 [(Go.Value.slice none 0 0)] := ⟨_, Try.zeroValue80, rfl⟩
instance : Und Try.prog 82 (Go.TypeDesc.struct #[(Go.Field.mk "Load" 31 0 Bool.false "" "" 0), (Go.Field.mk "Out" 3 1 Bool.false "" "" 24), (Go.Field.mk "Pump" 3 2 Bool.false "" "" 32)]) := ⟨Try.runUnderlying82⟩
instance : IsAgg Try.prog 82 true := ⟨Try.isAgg82⟩
instance : TySize Try.prog 82 3 := ⟨Try.sizeOf82⟩
instance : TyBytes Try.prog 82 40 := ⟨_, Try.typeInfo82, rfl⟩
instance : Zero Try.prog 82 [(Go.Value.slice none 0 0), (Go.Value.int Go.IntKind.i64 0), (Go.Value.int Go.IntKind.i64 0)] := ⟨_, Try.zeroValue82, rfl⟩
instance : Fld Try.prog 82 0 0 := Fld.of (n := 1) ⟨Try.runUnderlying82⟩ rfl ⟨Try.sizeOf31⟩ (by decide) rfl
instance : Fld Try.prog 82 1 1 := Fld.of (n := 1) ⟨Try.runUnderlying82⟩ rfl ⟨Try.sizeOf3⟩ (by decide) rfl
instance : Fld Try.prog 82 2 2 := Fld.of (n := 1) ⟨Try.runUnderlying82⟩ rfl ⟨Try.sizeOf3⟩ (by decide) rfl
instance : Places Try.prog 82 (fun i => ([(0, 1), (1, 1), (2, 1)] : List (Nat × Nat))[i]?) := Places.struct ⟨Try.runUnderlying82⟩ (.c Try.sizeOf31 (.c Try.sizeOf3 (.c Try.sizeOf3 .n)))
instance : Und Try.prog 85 (Go.TypeDesc.slice 29) := ⟨Try.runUnderlying85⟩
instance : IsAgg Try.prog 85 false := ⟨Try.isAgg85⟩
instance : TySize Try.prog 85 1 := ⟨Try.sizeOf85⟩
instance : TyBytes Try.prog 85 24 := ⟨_, Try.typeInfo85, rfl⟩
instance : Zero Try.prog 85 [(Go.Value.slice none 0 0)] := ⟨_, Try.zeroValue85, rfl⟩
instance : Und Try.prog 86 (Go.TypeDesc.slice 31) := ⟨Try.runUnderlying86⟩
instance : IsAgg Try.prog 86 false := ⟨Try.isAgg86⟩
instance : TySize Try.prog 86 1 := ⟨Try.sizeOf86⟩
instance : TyBytes Try.prog 86 24 := ⟨_, Try.typeInfo86, rfl⟩
instance : Zero Try.prog 86 [(Go.Value.slice none 0 0)] := ⟨_, Try.zeroValue86, rfl⟩
instance : Und Try.prog 89 (Go.TypeDesc.slice 22) := ⟨Try.runUnderlying89⟩
instance : IsAgg Try.prog 89 false := ⟨Try.isAgg89⟩
instance : TySize Try.prog 89 1 := ⟨Try.sizeOf89⟩
instance : TyBytes Try.prog 89 24 := ⟨_, Try.typeInfo89, rfl⟩
instance : Zero Try.prog 89 [(Go.Value.slice none 0 0)] := ⟨_, Try.zeroValue89, rfl⟩
instance : Und Try.prog 97 (Go.TypeDesc.pointer 99) := ⟨Try.runUnderlying97⟩
instance : IsAgg Try.prog 97 false := ⟨Try.isAgg97⟩
instance : TySize Try.prog 97 1 := ⟨Try.sizeOf97⟩
instance : TyBytes Try.prog 97 8 := ⟨_, Try.typeInfo97, rfl⟩
instance : Zero Try.prog 97 [(Go.Value.pointer none)] := ⟨_, Try.zeroValue97, rfl⟩
instance : Und Try.prog 99 (Go.TypeDesc.struct #[(Go.Field.mk "l" 22 0 Bool.false "" "switchgear/switchgearlaw07" 0), (Go.Field.mk "i" 3 1 Bool.false "" "switchgear/switchgearlaw07" 24)]) := ⟨Try.runUnderlying99⟩
instance : IsAgg Try.prog 99 true := ⟨Try.isAgg99⟩
instance : TySize Try.prog 99 2 := ⟨Try.sizeOf99⟩
instance : TyBytes Try.prog 99 32 := ⟨_, Try.typeInfo99, rfl⟩
instance : Zero Try.prog 99 [(Go.Value.slice none 0 0), (Go.Value.int Go.IntKind.i64 0)] := ⟨_, Try.zeroValue99, rfl⟩
instance : Fld Try.prog 99 0 0 := Fld.of (n := 1) ⟨Try.runUnderlying99⟩ rfl ⟨Try.sizeOf22⟩ (by decide) rfl
instance : Fld Try.prog 99 1 1 := Fld.of (n := 1) ⟨Try.runUnderlying99⟩ rfl ⟨Try.sizeOf3⟩ (by decide) rfl
instance : Places Try.prog 99 (fun i => ([(0, 1), (1, 1)] : List (Nat × Nat))[i]?) := Places.struct ⟨Try.runUnderlying99⟩ (.c Try.sizeOf22 (.c Try.sizeOf3 .n))
instance : Und Try.prog 100 (Go.TypeDesc.func #[3] #[3] Bool.false) := ⟨Try.runUnderlying100⟩
instance : IsAgg Try.prog 100 false := ⟨Try.isAgg100⟩
instance : TySize Try.prog 100 1 := ⟨Try.sizeOf100⟩
instance : TyBytes Try.prog 100 8 := ⟨_, Try.typeInfo100, rfl⟩
instance : Zero Try.prog 100 [Go.Value.nilFunc] := ⟨_, Try.zeroValue100, rfl⟩
instance : Und Try.prog 109 (Go.TypeDesc.struct #[(Go.Field.mk "Hall" 29 0 Bool.true "" "" 0), (Go.Field.mk "Case" 43 4 Bool.true "" "" 96), (Go.Field.mk "t" 31 7 Bool.false "" "switchgear/heat" 136), (Go.Field.mk "taken" 31 8 Bool.false "" "switchgear/heat" 160)]) := ⟨Try.runUnderlying109⟩
instance : IsAgg Try.prog 109 true := ⟨Try.isAgg109⟩
instance : TySize Try.prog 109 9 := ⟨Try.sizeOf109⟩
instance : TyBytes Try.prog 109 184 := ⟨_, Try.typeInfo109, rfl⟩
instance : Zero Try.prog 109 [(Go.Value.slice none 0 0), (Go.Value.slice none 0 0), (Go.Value.slice none 0 0), (Go.Value.slice none 0 0), (Go.Value.slice none 0 0), (Go.Value.int Go.IntKind.i64 0), (Go.Value.int Go.IntKind.i64 0), (Go.Value.slice none 0 0), (Go.Value.slice none 0 0)] := ⟨_, Try.zeroValue109, rfl⟩
instance : Fld Try.prog 109 0 0 := Fld.of (n := 4) ⟨Try.runUnderlying109⟩ rfl ⟨Try.sizeOf29⟩ (by decide) rfl
instance : Fld Try.prog 109 1 4 := Fld.of (n := 3) ⟨Try.runUnderlying109⟩ rfl ⟨Try.sizeOf43⟩ (by decide) rfl
instance : Fld Try.prog 109 2 7 := Fld.of (n := 1) ⟨Try.runUnderlying109⟩ rfl ⟨Try.sizeOf31⟩ (by decide) rfl
instance : Fld Try.prog 109 3 8 := Fld.of (n := 1) ⟨Try.runUnderlying109⟩ rfl ⟨Try.sizeOf31⟩ (by decide) rfl
instance : Places Try.prog 109 (fun i => ([(0, 4), (4, 3), (7, 1), (8, 1)] : List (Nat × Nat))[i]?) := Places.struct ⟨Try.runUnderlying109⟩ (.c Try.sizeOf29 (.c Try.sizeOf43 (.c Try.sizeOf31 (.c Try.sizeOf31 .n))))
instance : Und Try.prog 115 (Go.TypeDesc.func #[3] #[43] Bool.false) := ⟨Try.runUnderlying115⟩
instance : IsAgg Try.prog 115 false := ⟨Try.isAgg115⟩
instance : TySize Try.prog 115 1 := ⟨Try.sizeOf115⟩
instance : TyBytes Try.prog 115 8 := ⟨_, Try.typeInfo115, rfl⟩
instance : Zero Try.prog 115 [Go.Value.nilFunc] := ⟨_, Try.zeroValue115, rfl⟩
instance : Und Try.prog 123 (Go.TypeDesc.struct #[(Go.Field.mk "Store" 3 0 Bool.false "" "" 0), (Go.Field.mk "Limit" 3 1 Bool.false "" "" 8)]) := ⟨Try.runUnderlying123⟩
instance : IsAgg Try.prog 123 true := ⟨Try.isAgg123⟩
instance : TySize Try.prog 123 2 := ⟨Try.sizeOf123⟩
instance : TyBytes Try.prog 123 16 := ⟨_, Try.typeInfo123, rfl⟩
instance : Zero Try.prog 123 [(Go.Value.int Go.IntKind.i64 0), (Go.Value.int Go.IntKind.i64 0)] := ⟨_, Try.zeroValue123, rfl⟩
instance : Fld Try.prog 123 0 0 := Fld.of (n := 1) ⟨Try.runUnderlying123⟩ rfl ⟨Try.sizeOf3⟩ (by decide) rfl
instance : Fld Try.prog 123 1 1 := Fld.of (n := 1) ⟨Try.runUnderlying123⟩ rfl ⟨Try.sizeOf3⟩ (by decide) rfl
instance : Places Try.prog 123 (fun i => ([(0, 1), (1, 1)] : List (Nat × Nat))[i]?) := Places.struct ⟨Try.runUnderlying123⟩ (.c Try.sizeOf3 (.c Try.sizeOf3 .n))
instance : Und Try.prog 124 (Go.TypeDesc.struct #[(Go.Field.mk "A" 3 0 Bool.false "" "" 0), (Go.Field.mk "B" 3 1 Bool.false "" "" 8), (Go.Field.mk "Pass" 3 2 Bool.false "" "" 16)]) := ⟨Try.runUnderlying124⟩
instance : IsAgg Try.prog 124 true := ⟨Try.isAgg124⟩
instance : TySize Try.prog 124 3 := ⟨Try.sizeOf124⟩
instance : TyBytes Try.prog 124 24 := ⟨_, Try.typeInfo124, rfl⟩
instance : Zero Try.prog 124 [(Go.Value.int Go.IntKind.i64 0), (Go.Value.int Go.IntKind.i64 0), (Go.Value.int Go.IntKind.i64 0)] := ⟨_, Try.zeroValue124, rfl⟩
instance : Fld Try.prog 124 0 0 := Fld.of (n := 1) ⟨Try.runUnderlying124⟩ rfl ⟨Try.sizeOf3⟩ (by decide) rfl
instance : Fld Try.prog 124 1 1 := Fld.of (n := 1) ⟨Try.runUnderlying124⟩ rfl ⟨Try.sizeOf3⟩ (by decide) rfl
instance : Fld Try.prog 124 2 2 := Fld.of (n := 1) ⟨Try.runUnderlying124⟩ rfl ⟨Try.sizeOf3⟩ (by decide) rfl
instance : Places Try.prog 124 (fun i => ([(0, 1), (1, 1), (2, 1)] : List (Nat × Nat))[i]?) := Places.struct ⟨Try.runUnderlying124⟩ (.c Try.sizeOf3 (.c Try.sizeOf3 (.c Try.sizeOf3 .n)))
instance : Und Try.prog 125 (Go.TypeDesc.struct #[(Go.Field.mk "Up" 3 0 Bool.false "" "" 0), (Go.Field.mk "Open" 3 1 Bool.false "" "" 8), (Go.Field.mk "Leak" 3 2 Bool.false "" "" 16)]) := ⟨Try.runUnderlying125⟩
instance : IsAgg Try.prog 125 true := ⟨Try.isAgg125⟩
instance : TySize Try.prog 125 3 := ⟨Try.sizeOf125⟩
instance : TyBytes Try.prog 125 24 := ⟨_, Try.typeInfo125, rfl⟩
instance : Zero Try.prog 125 [(Go.Value.int Go.IntKind.i64 0), (Go.Value.int Go.IntKind.i64 0), (Go.Value.int Go.IntKind.i64 0)] := ⟨_, Try.zeroValue125, rfl⟩
instance : Fld Try.prog 125 0 0 := Fld.of (n := 1) ⟨Try.runUnderlying125⟩ rfl ⟨Try.sizeOf3⟩ (by decide) rfl
instance : Fld Try.prog 125 1 1 := Fld.of (n := 1) ⟨Try.runUnderlying125⟩ rfl ⟨Try.sizeOf3⟩ (by decide) rfl
instance : Fld Try.prog 125 2 2 := Fld.of (n := 1) ⟨Try.runUnderlying125⟩ rfl ⟨Try.sizeOf3⟩ (by decide) rfl
instance : Places Try.prog 125 (fun i => ([(0, 1), (1, 1), (2, 1)] : List (Nat × Nat))[i]?) := Places.struct ⟨Try.runUnderlying125⟩ (.c Try.sizeOf3 (.c Try.sizeOf3 (.c Try.sizeOf3 .n)))
instance : Und Try.prog 126 (Go.TypeDesc.struct #[(Go.Field.mk "Room" 3 0 Bool.false "" "" 0), (Go.Field.mk "Branch" 3 1 Bool.false "" "" 8), (Go.Field.mk "Gain" 3 2 Bool.false "" "" 16), (Go.Field.mk "Carry" 3 3 Bool.false "" "" 24), (Go.Field.mk "Supply" 3 4 Bool.false "" "" 32)]) := ⟨Try.runUnderlying126⟩
instance : IsAgg Try.prog 126 true := ⟨Try.isAgg126⟩
instance : TySize Try.prog 126 5 := ⟨Try.sizeOf126⟩
instance : TyBytes Try.prog 126 40 := ⟨_, Try.typeInfo126, rfl⟩
instance : Zero Try.prog 126 [(Go.Value.int Go.IntKind.i64 0), (Go.Value.int Go.IntKind.i64 0), (Go.Value.int Go.IntKind.i64 0), (Go.Value.int Go.IntKind.i64 0), (Go.Value.int Go.IntKind.i64 0)] := ⟨_, Try.zeroValue126, rfl⟩
instance : Fld Try.prog 126 0 0 := Fld.of (n := 1) ⟨Try.runUnderlying126⟩ rfl ⟨Try.sizeOf3⟩ (by decide) rfl
instance : Fld Try.prog 126 1 1 := Fld.of (n := 1) ⟨Try.runUnderlying126⟩ rfl ⟨Try.sizeOf3⟩ (by decide) rfl
instance : Fld Try.prog 126 2 2 := Fld.of (n := 1) ⟨Try.runUnderlying126⟩ rfl ⟨Try.sizeOf3⟩ (by decide) rfl
instance : Fld Try.prog 126 3 3 := Fld.of (n := 1) ⟨Try.runUnderlying126⟩ rfl ⟨Try.sizeOf3⟩ (by decide) rfl
instance : Fld Try.prog 126 4 4 := Fld.of (n := 1) ⟨Try.runUnderlying126⟩ rfl ⟨Try.sizeOf3⟩ (by decide) rfl
instance : Places Try.prog 126 (fun i => ([(0, 1), (1, 1), (2, 1), (3, 1), (4, 1)] : List (Nat × Nat))[i]?) := Places.struct ⟨Try.runUnderlying126⟩ (.c Try.sizeOf3 (.c Try.sizeOf3 (.c Try.sizeOf3 (.c Try.sizeOf3 (.c Try.sizeOf3 .n)))))
instance : Und Try.prog 128 (Go.TypeDesc.slice 82) := ⟨Try.runUnderlying128⟩
instance : IsAgg Try.prog 128 false := ⟨Try.isAgg128⟩
instance : TySize Try.prog 128 1 := ⟨Try.sizeOf128⟩
instance : TyBytes Try.prog 128 24 := ⟨_, Try.typeInfo128, rfl⟩
instance : Zero Try.prog 128 [(Go.Value.slice none 0 0)] := ⟨_, Try.zeroValue128, rfl⟩
instance : Und Try.prog 137 (Go.TypeDesc.struct #[(Go.Field.mk "Low" 82 0 Bool.false "" "" 0), (Go.Field.mk "High" 82 3 Bool.false "" "" 40)]) := ⟨Try.runUnderlying137⟩
instance : IsAgg Try.prog 137 true := ⟨Try.isAgg137⟩
instance : TySize Try.prog 137 6 := ⟨Try.sizeOf137⟩
instance : TyBytes Try.prog 137 80 := ⟨_, Try.typeInfo137, rfl⟩
instance : Zero Try.prog 137 [(Go.Value.slice none 0 0), (Go.Value.int Go.IntKind.i64 0), (Go.Value.int Go.IntKind.i64 0), (Go.Value.slice none 0 0), (Go.Value.int Go.IntKind.i64 0), (Go.Value.int Go.IntKind.i64 0)] := ⟨_, Try.zeroValue137, rfl⟩
instance : Fld Try.prog 137 0 0 := Fld.of (n := 3) ⟨Try.runUnderlying137⟩ rfl ⟨Try.sizeOf82⟩ (by decide) rfl
instance : Fld Try.prog 137 1 3 := Fld.of (n := 3) ⟨Try.runUnderlying137⟩ rfl ⟨Try.sizeOf82⟩ (by decide) rfl
instance : Places Try.prog 137 (fun i => ([(0, 3), (3, 3)] : List (Nat × Nat))[i]?) := Places.struct ⟨Try.runUnderlying137⟩ (.c Try.sizeOf82 (.c Try.sizeOf82 .n))
instance : Und Try.prog 145 (Go.TypeDesc.slice 32) := ⟨Try.runUnderlying145⟩
instance : IsAgg Try.prog 145 false := ⟨Try.isAgg145⟩
instance : TySize Try.prog 145 1 := ⟨Try.sizeOf145⟩
instance : TyBytes Try.prog 145 24 := ⟨_, Try.typeInfo145, rfl⟩
instance : Zero Try.prog 145 [(Go.Value.slice none 0 0)] := ⟨_, Try.zeroValue145, rfl⟩
instance : Und Try.prog 149 (Go.TypeDesc.int Go.IntKind.u64) := ⟨Try.runUnderlying149⟩
instance : IsAgg Try.prog 149 false := ⟨Try.isAgg149⟩
instance : TySize Try.prog 149 1 := ⟨Try.sizeOf149⟩
instance : TyBytes Try.prog 149 8 := ⟨_, Try.typeInfo149, rfl⟩
instance : Zero Try.prog 149 [(Go.Value.int Go.IntKind.u64 0)] := ⟨_, Try.zeroValue149, rfl⟩
instance : Und Try.prog 152 (Go.TypeDesc.func #[3, 3] #[] Bool.false) := ⟨Try.runUnderlying152⟩
instance : IsAgg Try.prog 152 false := ⟨Try.isAgg152⟩
instance : TySize Try.prog 152 1 := ⟨Try.sizeOf152⟩
instance : TyBytes Try.prog 152 8 := ⟨_, Try.typeInfo152, rfl⟩
instance : Zero Try.prog 152 [Go.Value.nilFunc] := ⟨_, Try.zeroValue152, rfl⟩
instance : Und Try.prog 156 (Go.TypeDesc.array 3 100) := ⟨Try.runUnderlying156⟩
instance : IsAgg Try.prog 156 true := ⟨Try.isAgg156⟩
instance : TySize Try.prog 156 3 := ⟨Try.sizeOf156⟩
instance : TyBytes Try.prog 156 24 := ⟨_, Try.typeInfo156, rfl⟩
instance : Zero Try.prog 156 [Go.Value.nilFunc, Go.Value.nilFunc, Go.Value.nilFunc] := ⟨_, Try.zeroValue156, rfl⟩
instance : Places Try.prog 156 (fun i => some (i * 1, 1)) := Places.array ⟨Try.runUnderlying156⟩ ⟨Try.sizeOf100⟩
instance : Und Try.prog 172 (Go.TypeDesc.int Go.IntKind.u32) := ⟨Try.runUnderlying172⟩
instance : IsAgg Try.prog 172 false := ⟨Try.isAgg172⟩
instance : TySize Try.prog 172 1 := ⟨Try.sizeOf172⟩
instance : TyBytes Try.prog 172 4 := ⟨_, Try.typeInfo172, rfl⟩
instance : Zero Try.prog 172 [(Go.Value.int Go.IntKind.u32 0)] := ⟨_, Try.zeroValue172, rfl⟩
instance : Und Try.prog 175 (Go.TypeDesc.int Go.IntKind.u64) := ⟨Try.runUnderlying175⟩
instance : IsAgg Try.prog 175 false := ⟨Try.isAgg175⟩
instance : TySize Try.prog 175 1 := ⟨Try.sizeOf175⟩
instance : TyBytes Try.prog 175 8 := ⟨_, Try.typeInfo175, rfl⟩
instance : Zero Try.prog 175 [(Go.Value.int Go.IntKind.u64 0)] := ⟨_, Try.zeroValue175, rfl⟩
theorem _root_.Go.Proofs.Try.mixed : Try.prog.follows .mixedOrders = true := by kernel_rfl
end Go.X

set_option linter.unusedSimpArgs false
set_option linter.unusedVariables false
set_option maxRecDepth 20000
namespace Go.X
open Go.Proofs
def encRoom (x : HRoom) : List Value := [.int .i64 x.store, .int .i64 x.limit]
def encWall (x : HWall) : List Value := [.int .i64 x.a, .int .i64 x.b, .int .i64 x.pass]
def encBranch (x : HBranch) : List Value := [.int .i64 x.up, .int .i64 x.opn, .int .i64 x.leak]
def encCooler (x : HCooler) : List Value := [.int .i64 x.room, .int .i64 x.br, .int .i64 x.gain, .int .i64 x.carry, .int .i64 x.supply]
theorem okRoom_iff {x : HRoom} : okRoom x = true ↔ ¬ ((x.store < 1 ∨ 1000000 < x.store) ∨ ¬ inP x.limit 1000000 = true) := by
  simp only [okRoom, Bool.and_eq_true, decide_eq_true_eq, not_or, Classical.not_not]
  constructor <;> rintro ⟨⟨a, b⟩, c⟩ <;> exact ⟨⟨by omega, by omega⟩, c⟩
theorem okWall_iff {n : Nat} {x : HWall} : okWall n x = true ↔ ¬ (((¬ ixP x.a n = true ∨ x.b ≠ -1 ∧ ¬ ixP x.b n = true) ∨ x.a = x.b) ∨ ¬ inP x.pass 100000 = true) := by
  simp only [okWall, Bool.and_eq_true, Bool.or_eq_true, decide_eq_true_eq, not_or, Classical.not_not, not_and]
  constructor
  · rintro ⟨⟨⟨a, b⟩, c⟩, d⟩
    exact ⟨⟨⟨a, fun h => b.resolve_left h⟩, c⟩, d⟩
  · rintro ⟨⟨⟨a, b⟩, c⟩, d⟩
    exact ⟨⟨⟨a, if h : x.b = -1 then .inl h else .inr (b h)⟩, c⟩, d⟩
theorem okBranch_iff {i : Nat} {x : HBranch} : okBranch i x = true ↔ ¬ ((((i : Int) = 0 ∧ x.up ≠ -1 ∨ (0 : Int) < i ∧ ¬ ixP x.up i = true) ∨ ¬ inP x.opn 100 = true) ∨ ¬ inP x.leak 100000 = true) := by
  unfold okBranch
  by_cases h : i = 0
  · subst h; simp [and_assoc]
  · have h1 : ¬ (i : Int) = 0 := by omega
    have h2 : (0 : Int) < i := by omega
    have h3 : 0 < i := by omega
    simp [h, h2, h3, and_assoc]
theorem okCooler_iff {n m : Nat} {x : HCooler} : okCooler n m x = true ↔ ¬ ((((¬ ixP x.room n = true ∨ ¬ ixP x.br m = true) ∨ ¬ inP x.gain 100000 = true) ∨ ¬ inP x.carry 1000 = true) ∨ ¬ inP x.supply 1000000 = true) := by
  simp only [okCooler, Bool.and_eq_true, not_or, Classical.not_not]
theorem in_spec (n m : Int) : Spec Try.prog 37 #[.int .i64 n, .int .i64 m] [] [] (fun v hs => v = .bool (inP n m) ∧ hs = []) := by
  refine Spec.intro (fn := Try.f37) (N := 12) Try.func37 rfl Try.ntmps37 rfl fun B => ?_
  refine XK.seq ?_
  refine XK.region rfl ?_
  refine XO.q (Q.assign rfl) ?_
  refine XO.done ?_
  refine XK.seq ?_
  refine XK.region rfl ?_
  refine XO.q (Q.move rfl) ?_
  refine XO.q (Q.geq rfl rfl) ?_
  refine XO.q (Q.move rfl) ?_
  refine XO.q (Quiet.guardT rfl rfl fun g8 p8 => Q.move rfl) ?_
  refine XO.q (Quiet.guardT rfl rfl fun g9 p9 => Q.move rfl) ?_
  refine XO.q (Quiet.guardT rfl rfl fun g10 p10 => Q.leq (lzv g10 rfl) (lzv g10 rfl)) ?_
  refine XO.q (Q.and rfl (fun hp => lzv hp rfl)) ?_
  refine XO.q (Q.assign rfl) ?_
  refine XO.done ?_
  refine XK.rt [] Try.func37 Try.results37 (.t rfl .n) ?_
  exact ⟨rfl, rfl⟩
theorem indexRoom (n : Int) (v : Value) (hh : PHeap) (xs : List HRoom) [s : Arr v encRoom 2 hh xs] : Spec Try.prog 102 #[.int .i64 n, v] [] [hh] (fun v hs => v = .bool (ixP n xs.length) ∧ hs = []) := by
  refine Spec.intro (fn := Try.f102) (N := 13) Try.func102 rfl Try.ntmps102 rfl fun B => ?_
  refine XK.seq ?_
  refine XK.region rfl ?_
  refine XO.q (Q.assign rfl) ?_
  refine XO.done ?_
  refine XK.seq ?_
  refine XK.region rfl ?_
  refine XO.q (Q.move rfl) ?_
  refine XO.q (Q.geq rfl rfl) ?_
  refine XO.q (Q.move rfl) ?_
  refine XO.q (Quiet.guardT rfl rfl fun g8 p8 => Q.move rfl) ?_
  refine XO.q (Quiet.guardT rfl rfl fun g9 p9 => Q.move rfl) ?_
  refine XO.q (Quiet.guardT rfl rfl fun g10 p10 => Q.len (lzv g10 rfl)) ?_
  refine XO.q (Quiet.guardT rfl rfl fun g11 p11 => Q.lss (lzv g11 rfl) (lzv g11 rfl)) ?_
  refine XO.q (Q.and rfl (fun hp => lzv hp rfl)) ?_
  refine XO.q (Q.assign rfl) ?_
  refine XO.done ?_
  refine XK.rt [] Try.func102 Try.results102 (.t rfl .n) ?_
  exact ⟨rfl, rfl⟩
theorem indexBranch (n : Int) (v : Value) (hh : PHeap) (xs : List HBranch) [s : Arr v encBranch 3 hh xs] : Spec Try.prog 103 #[.int .i64 n, v] [] [hh] (fun v hs => v = .bool (ixP n xs.length) ∧ hs = []) := by
  refine Spec.intro (fn := Try.f103) (N := 13) Try.func103 rfl Try.ntmps103 rfl fun B => ?_
  refine XK.seq ?_
  refine XK.region rfl ?_
  refine XO.q (Q.assign rfl) ?_
  refine XO.done ?_
  refine XK.seq ?_
  refine XK.region rfl ?_
  refine XO.q (Q.move rfl) ?_
  refine XO.q (Q.geq rfl rfl) ?_
  refine XO.q (Q.move rfl) ?_
  refine XO.q (Quiet.guardT rfl rfl fun g8 p8 => Q.move rfl) ?_
  refine XO.q (Quiet.guardT rfl rfl fun g9 p9 => Q.move rfl) ?_
  refine XO.q (Quiet.guardT rfl rfl fun g10 p10 => Q.len (lzv g10 rfl)) ?_
  refine XO.q (Quiet.guardT rfl rfl fun g11 p11 => Q.lss (lzv g11 rfl) (lzv g11 rfl)) ?_
  refine XO.q (Q.and rfl (fun hp => lzv hp rfl)) ?_
  refine XO.q (Q.assign rfl) ?_
  refine XO.done ?_
  refine XK.rt [] Try.func103 Try.results103 (.t rfl .n) ?_
  exact ⟨rfl, rfl⟩
theorem indexCut (n : Int) (v : Value) (hh : PHeap) (xs : List HBranch) [s : Arr v encBranch 3 hh xs] (i : Nat) (hi : i ≤ xs.length) : Spec Try.prog 103 #[.int .i64 n, cutv v 3 0 i] [] [hh] (fun v hs => v = .bool (ixP n i) ∧ hs = []) := by
  haveI := Arr.cut s (i := 0) (j := i) (by omega) hi
  have h := indexBranch n (cutv v 3 0 i) hh ((xs.drop 0).take (i - 0))
  rwa [List.drop_zero, Nat.sub_zero, List.length_take, Nat.min_eq_left hi] at h
theorem allowed_spec (h : Hall) (vr vw vb vc : Value) (hr hw hb hc : PHeap) [ir : Arr vr encRoom 2 hr h.rooms] [iw : Arr vw encWall 3 hw h.walls] [ib : Arr vb encBranch 3 hb h.branches] [ic : Arr vc encCooler 5 hc h.coolers] : Spec Try.prog 73 #[.agg #[vr, vw, vb, vc]] [] [hr, hw, hb, hc] (fun v hs => v = .bool (allowedP h) ∧ hs = []) := by
  have lr := ir.le
  have lw := iw.le
  have lb := ib.le
  have lc := ic.le
  refine Spec.intro (fn := Try.f73) (N := 155) Try.func73 rfl Try.ntmps73 rfl fun B => ?_
  refine XK.seq ?_
  refine XK.region rfl ?_
  refine XO.box rfl fun b1 => ?_
  refine XO.q (Q.assign rfl) ?_
  refine XO.done ?_
  refine XK.seq ?_
  refine XK.seq ?_
  refine XK.region rfl ?_
  refine XO.q (Q.fieldAddr rfl) ?_
  refine XO.q (Q.ld rfl rfl) ?_
  refine XO.len rfl fun l13 => ?_
  refine XO.q (Q.move rfl) ?_
  refine XO.done ?_
  refine XK.block ?_
  refine XK.while (X := Nat) [2, 4, 14, 15, 16, 17, 18, 19, 20, 21, 22, 23, 24, 25, 26, 27, 28, 29, 30, 31, 32] (fun i => [(14, some (.int .i64 (i : Nat)))]) (fun i => []) (fun i => i ≤ h.rooms.length ∧ roomsOk h i = true) (fun i => h.rooms.length - i) (0) [] rfl ⟨by omega, rfl⟩ (.c rfl (.base 0 rfl rfl)) ?_
  rintro i ⟨hi, hall⟩ ih0
  dsimp only [List.cons_append, List.nil_append] at ih0 ⊢
  refine XK.seq ?_
  refine XK.region rfl ?_
  refine XO.q (Q.lss rfl rfl) ?_
  refine XO.done ?_
  refine XK.seq ?_
  refine XK.if rfl (fun c0 => ?_) (fun c0 => ?_)
  · have _t0 := True.intro
    refine XK.skip ?_
    refine XK.seq ?_
    refine XK.block ?_
    refine XK.seq ?_
    refine XK.region rfl ?_
    refine XO.ix rfl rfl (by omega) (by omega) fun i16 => ?_
    refine XO.q (Q.ldEA [_, _] rfl (by first | assumption | omega) rfl rfl) ?_
    refine XO.alloc fun b4 => ?_
    refine XO.st rfl rfl rfl ?_
    refine XO.done ?_
    refine XK.seq ?_
    refine XK.region rfl ?_
    refine XO.q (Q.fieldAddr rfl) ?_
    refine XO.q (Q.ld rfl rfl) ?_
    refine XO.q (Q.lss rfl rfl) ?_
    refine XO.q (Q.move rfl) ?_
    refine XO.q (Quiet.guardF rfl rfl fun g22 p22 => Q.fieldAddr rfl) ?_
    refine XO.q (Quiet.guardF rfl rfl fun g23 p23 => Q.ld (lzv g23 rfl) rfl) ?_
    refine XO.q (Quiet.guardF rfl rfl fun g24 p24 => Q.gtr (lzv g24 rfl) rfl) ?_
    refine XO.q (Q.or rfl (fun hp => lzv hp rfl)) ?_
    refine XO.q (Q.move rfl) ?_
    refine XO.q (Quiet.guardF rfl rfl fun g27 p27 => Q.fieldAddr rfl) ?_
    refine XO.q (Quiet.guardF rfl rfl fun g28 p28 => Q.ld (lzv g28 rfl) rfl) ?_
    refine XO.gcallF rfl rfl Try.call37 rfl (fun g29 => .c (lzv g29 rfl) (.c rfl .n)) rfl (fun g29 p29 => in_spec _ _) ?_
    refine XO.q (Quiet.guardF rfl rfl fun g30 p30 => Q.not (lzv g30 rfl)) ?_
    refine XO.q (Q.or rfl (fun hp => lzv hp rfl)) ?_
    refine XO.done ?_
    refine XK.if rfl (fun c1 => ?_) (fun c1 => ?_)
    · have _t1 := True.intro
      refine XK.seq ?_
      refine XK.region rfl ?_
      refine XO.q (Q.assign rfl) ?_
      refine XO.done ?_
      refine XK.rt [] Try.func73 Try.results73 (.t rfl .n) ?_
      have hb : roomsOk h h.rooms.length = false := allTo_false (s := i) (by omega) (by rw [Bool.eq_false_iff]; intro h; exact (okRoom_iff.1 h) c1)
      exact ⟨by simp [allowedP, hb], rfl⟩
    · have _t1 := True.intro
      refine XK.skip ?_
      refine XK.inBlock ?_
      refine XK.region rfl ?_
      refine XO.q (Q.add rfl rfl ⟨by omega, by omega⟩) ?_
      refine XO.q (Q.move rfl) ?_
      refine XO.done ?_
      exact ih0 (i + 1) _ _ ⟨by omega, by rw [roomsOk, allTo_succ]; rw [roomsOk] at hall; rw [hall, Bool.true_and]; exact okRoom_iff.2 c1⟩ (by first | omega | (dsimp only; omega)) (.c rfl (.base 42 rfl rfl)) inferInstance
  · have _t0 := True.intro
    have e1 : roomsOk h h.rooms.length = true := by rw [show h.rooms.length = i by omega]; exact hall
    clear ih0 hall hi c0
    refine XK.exit rfl ?_
    refine XK.seq ?_
    refine XK.seq ?_
    refine XK.region rfl ?_
    refine XO.q (Q.fieldAddr rfl) ?_
    refine XO.q (Q.ld rfl rfl) ?_
    refine XO.len rfl fun l35 => ?_
    refine XO.q (Q.move rfl) ?_
    refine XO.done ?_
    refine XK.block ?_
    refine XK.while (X := Nat) [2, 6, 36, 37, 38, 39, 40, 41, 42, 43, 44, 45, 46, 47, 48, 49, 50, 51, 52, 53, 54, 55, 56, 57, 58, 59, 60, 61, 62, 63, 64, 65, 66, 67, 68, 69, 70, 71, 72] (fun i => [(36, some (.int .i64 (i : Nat)))]) (fun i => []) (fun i => i ≤ h.walls.length ∧ wallsOk h i = true) (fun i => h.walls.length - i) (0) [] rfl ⟨by omega, rfl⟩ (.c rfl (.base 0 rfl rfl)) ?_
    rintro i ⟨hi, hall⟩ ih1
    dsimp only [List.cons_append, List.nil_append] at ih1 ⊢
    refine XK.seq ?_
    refine XK.region rfl ?_
    refine XO.q (Q.lss rfl rfl) ?_
    refine XO.done ?_
    refine XK.seq ?_
    refine XK.if rfl (fun c2 => ?_) (fun c2 => ?_)
    · have _t2 := True.intro
      refine XK.skip ?_
      refine XK.seq ?_
      refine XK.block ?_
      refine XK.seq ?_
      refine XK.region rfl ?_
      refine XO.ix rfl rfl (by omega) (by omega) fun i38 => ?_
      refine XO.q (Q.ldEA [_, _, _] rfl (by first | assumption | omega) rfl rfl) ?_
      refine XO.alloc fun b6 => ?_
      refine XO.st rfl rfl rfl ?_
      refine XO.done ?_
      refine XK.seq ?_
      refine XK.region rfl ?_
      refine XO.q (Q.fieldAddr rfl) ?_
      refine XO.q (Q.ld rfl rfl) ?_
      refine XO.q (Q.fieldAddr rfl) ?_
      refine XO.q (Q.ld rfl rfl) ?_
      refine XO.call Try.call102 rfl rfl rfl (indexRoom _ vr hr h.rooms) fun v44 s44 R44 => ?_
      obtain ⟨rfl, rfl⟩ := R44
      dsimp only [List.cons_append, List.nil_append]
      refine XO.q (Q.not rfl) ?_
      refine XO.q (Q.move rfl) ?_
      refine XO.q (Quiet.guardF rfl rfl fun g47 p47 => Q.fieldAddr rfl) ?_
      refine XO.q (Quiet.guardF rfl rfl fun g48 p48 => Q.ld (lzv g48 rfl) rfl) ?_
      refine XO.q (Quiet.guardF rfl rfl fun g49 p49 => Q.neq (lzv g49 rfl) rfl) ?_
      refine XO.q (Quiet.guardF rfl rfl fun g50 p50 => Q.move (lzv g50 rfl)) ?_
      refine XO.q (Quiet.guard2 rfl rfl fun g51a g51b => have p51a := bpF g51a; have p51b := bpT g51b; Q.fieldAddr rfl) ?_
      refine XO.q (Quiet.guard2 rfl rfl fun g52a g52b => have p52a := bpF g52a; have p52b := bpT g52b; Q.ld (lzv g52b (lzv g52a rfl)) rfl) ?_
      refine XO.q (Quiet.guard2 rfl rfl fun g53a g53b => have p53a := bpF g53a; have p53b := bpT g53b; Q.fieldAddr rfl) ?_
      refine XO.q (Quiet.guard2 rfl rfl fun g54a g54b => have p54a := bpF g54a; have p54b := bpT g54b; Q.ld (lzv g54b (lzv g54a rfl)) rfl) ?_
      refine XO.vg2 rfl rfl (fun g55a g55b => rfl) (fun g55a g55b => .c (lzv g55b (lzv g55a rfl)) (.c (lzv g55b (lzv g55a rfl)) .n)) (fun g55a g55b => have p55a := bpF g55a; have p55b := bpT g55b; VSpec.fn (P := Try.prog) Try.call102 rfl (indexRoom _ vr hr h.rooms)) ?_
      refine XO.q (Quiet.guard2 rfl rfl fun g56a g56b => have p56a := bpF g56a; have p56b := bpT g56b; Q.not (lzv g56b (lzv g56a rfl))) ?_
      refine XO.q (Quiet.guardF rfl rfl fun g57 p57 => Q.and (lzv g57 rfl) (fun hp => (lzv hp (lzv g57 rfl)))) ?_
      refine XO.q (Q.or rfl (fun hp => lzv hp rfl)) ?_
      refine XO.q (Q.move rfl) ?_
      refine XO.q (Quiet.guardF rfl rfl fun g60 p60 => Q.fieldAddr rfl) ?_
      refine XO.q (Quiet.guardF rfl rfl fun g61 p61 => Q.ld (lzv g61 rfl) rfl) ?_
      refine XO.q (Quiet.guardF rfl rfl fun g62 p62 => Q.fieldAddr rfl) ?_
      refine XO.q (Quiet.guardF rfl rfl fun g63 p63 => Q.ld (lzv g63 rfl) rfl) ?_
      refine XO.q (Quiet.guardF rfl rfl fun g64 p64 => Q.eql (lzv g64 rfl) (lzv g64 rfl)) ?_
      refine XO.q (Q.or rfl (fun hp => lzv hp rfl)) ?_
      refine XO.q (Q.move rfl) ?_
      refine XO.q (Quiet.guardF rfl rfl fun g67 p67 => Q.fieldAddr rfl) ?_
      refine XO.q (Quiet.guardF rfl rfl fun g68 p68 => Q.ld (lzv g68 rfl) rfl) ?_
      refine XO.gcallF rfl rfl Try.call37 rfl (fun g69 => .c (lzv g69 rfl) (.c rfl .n)) rfl (fun g69 p69 => in_spec _ _) ?_
      refine XO.q (Quiet.guardF rfl rfl fun g70 p70 => Q.not (lzv g70 rfl)) ?_
      refine XO.q (Q.or rfl (fun hp => lzv hp rfl)) ?_
      refine XO.done ?_
      refine XK.if rfl (fun c3 => ?_) (fun c3 => ?_)
      · have _t3 := True.intro
        refine XK.seq ?_
        refine XK.region rfl ?_
        refine XO.q (Q.assign rfl) ?_
        refine XO.done ?_
        refine XK.rt [] Try.func73 Try.results73 (.t rfl .n) ?_
        have hb : wallsOk h h.walls.length = false := allTo_false (s := i) (by omega) (by rw [Bool.eq_false_iff]; intro h; exact (okWall_iff.1 h) c3)
        exact ⟨by simp [allowedP, hb], rfl⟩
      · have _t3 := True.intro
        refine XK.skip ?_
        refine XK.inBlock ?_
        refine XK.region rfl ?_
        refine XO.q (Q.add rfl rfl ⟨by omega, by omega⟩) ?_
        refine XO.q (Q.move rfl) ?_
        refine XO.done ?_
        exact ih1 (i + 1) _ _ ⟨by omega, by rw [wallsOk, allTo_succ]; rw [wallsOk] at hall; rw [hall, Bool.true_and]; exact okWall_iff.2 c3⟩ (by first | omega | (dsimp only; omega)) (.c rfl (.base 78 rfl rfl)) inferInstance
    · have _t2 := True.intro
      have e2 : wallsOk h h.walls.length = true := by rw [show h.walls.length = i by omega]; exact hall
      clear ih1 hall hi c2
      refine XK.exit rfl ?_
      refine XK.seq ?_
      refine XK.seq ?_
      refine XK.region rfl ?_
      refine XO.q (Q.fieldAddr rfl) ?_
      refine XO.q (Q.ld rfl rfl) ?_
      refine XO.len rfl fun l75 => ?_
      refine XO.q (Q.move rfl) ?_
      refine XO.done ?_
      refine XK.block ?_
      refine XK.while (X := Nat) [2, 7, 8, 76, 77, 78, 79, 80, 81, 82, 83, 84, 85, 86, 87, 88, 89, 90, 91, 92, 93, 94, 95, 96, 97, 98, 99, 100, 101, 102, 103, 104, 105, 106, 107, 108, 109, 110, 111, 112, 113, 114] (fun i => [(76, some (.int .i64 (i : Nat)))]) (fun i => []) (fun i => i ≤ h.branches.length ∧ branchesOk h i = true) (fun i => h.branches.length - i) (0) [] rfl ⟨by omega, rfl⟩ (.c rfl (.base 0 rfl rfl)) ?_
      rintro i ⟨hi, hall⟩ ih2
      dsimp only [List.cons_append, List.nil_append] at ih2 ⊢
      refine XK.seq ?_
      refine XK.region rfl ?_
      refine XO.q (Q.lss rfl rfl) ?_
      refine XO.done ?_
      refine XK.seq ?_
      refine XK.if rfl (fun c4 => ?_) (fun c4 => ?_)
      · have _t4 := True.intro
        refine XK.skip ?_
        refine XK.seq ?_
        refine XK.block ?_
        refine XK.seq ?_
        refine XK.region rfl ?_
        refine XO.q (Q.move rfl) ?_
        refine XO.ix rfl rfl (by omega) (by omega) fun i79 => ?_
        refine XO.q (Q.ldEA [_, _, _] rfl (by first | assumption | omega) rfl rfl) ?_
        refine XO.alloc fun b8 => ?_
        refine XO.q (Q.assign rfl) ?_
        refine XO.st rfl rfl rfl ?_
        refine XO.done ?_
        refine XK.seq ?_
        refine XK.drawn [0, 1, 2, 3, 4, 5, 6, 7, 8, 9, 10, 11, 12, 13, 14, 15, 16, 18, 19, 20, 21, 22, 23, 25, 26, 27, 28, 29, 31, 32] [b8, b1] [] (.q 0 (.q 1 (.q 2 (.q 3 (.q 4 (.q 5 (.q 6 (.q 7 (.q 8 (.q 9 (.q 10 (.q 11 (.q 12 (.q 13 (.q 14 (.q 15 (.q 16 (.br 17 true (.q 18 (.q 19 (.q 20 (.q 21 (.q 22 (.q 23 (.br 24 true (.q 25 (.q 26 (.q 27 (.q 28 (.q 29 (.br 30 true (.q 31 (.q 32 .done)) .stop)))))) .stop))))))) .stop)))))))))))))))))) Try.mixed rfl (by kernel_rfl) ?_
        refine XT.q rfl rfl (Q.move rfl) ?_
        refine XT.q rfl rfl (Q.eql rfl rfl) ?_
        refine XT.q rfl rfl (Q.move rfl) ?_
        refine XT.q rfl rfl (Quiet.guardT rfl rfl fun g84 p84 => Q.fieldAddr rfl) ?_
        refine XT.q rfl rfl (Quiet.guardT rfl rfl fun g85 p85 => Q.ld (lzv g85 rfl) rfl) ?_
        refine XT.q rfl rfl (Quiet.guardT rfl rfl fun g86 p86 => Q.neq (lzv g86 rfl) rfl) ?_
        refine XT.q rfl rfl (Q.and rfl (fun hp => lzv hp rfl)) ?_
        refine XT.q rfl rfl (Q.move rfl) ?_
        refine XT.q rfl rfl (Quiet.guardF rfl rfl fun g89 p89 => Q.move rfl) ?_
        refine XT.q rfl rfl (Quiet.guardF rfl rfl fun g90 p90 => Q.gtr (lzv g90 rfl) rfl) ?_
        refine XT.q rfl rfl (Quiet.guardF rfl rfl fun g91 p91 => Q.move (lzv g91 rfl)) ?_
        refine XT.q rfl rfl (Quiet.guard2 rfl rfl fun g92a g92b => have p92a := bpF g92a; have p92b := bpT g92b; Q.fieldAddr rfl) ?_
        refine XT.q rfl rfl (Quiet.guard2 rfl rfl fun g93a g93b => have p93a := bpF g93a; have p93b := bpT g93b; Q.ld (lzv g93b (lzv g93a rfl)) rfl) ?_
        refine XT.q rfl rfl (Quiet.guard2 rfl rfl fun g94a g94b => have p94a := bpF g94a; have p94b := bpT g94b; Q.fieldAddr rfl) ?_
        refine XT.q rfl rfl (Quiet.guard2 rfl rfl fun g95a g95b => have p95a := bpF g95a; have p95b := bpT g95b; Q.ld (lzv g95b (lzv g95a rfl)) rfl) ?_
        refine XT.q rfl rfl (Quiet.guard2 rfl rfl fun g96a g96b => have p96a := bpF g96a; have p96b := bpT g96b; Q.move rfl) ?_
        refine XT.q rfl rfl (Quiet.guard2 rfl rfl fun g97a g97b => have p97a := bpF g97a; have p97b := bpT g97b; Q.cut (i := 0) (j := i) (lzv g97b (lzv g97a rfl)) .n (.s (lzv g97b (lzv g97a rfl)) (by omega)) (by omega) (by omega)) ?_
        refine XT.vg2 rfl rfl rfl rfl (fun g98a g98b => rfl) (fun g98a g98b => .c (lzv g98b (lzv g98a rfl)) (.c (lzv g98b (lzv g98a rfl)) .n)) (fun g98a g98b => have p98a := bpF g98a; have p98b := bpT g98b; VSpec.fn (P := Try.prog) Try.call103 rfl (indexCut _ vb hb h.branches i (by omega))) ⟨inferInstance, ?_⟩ XT.stop
        refine XT.q rfl rfl (Quiet.guard2 rfl rfl fun g99a g99b => have p99a := bpF g99a; have p99b := bpT g99b; Q.not (lzv g99b (lzv g99a rfl))) ?_
        refine XT.q rfl rfl (Quiet.guardF rfl rfl fun g100 p100 => Q.and (lzv g100 rfl) (fun hp => (lzv hp (lzv g100 rfl)))) ?_
        refine XT.q rfl rfl (Q.or rfl (fun hp => lzv hp rfl)) ?_
        refine XT.q rfl rfl (Q.move rfl) ?_
        refine XT.q rfl rfl (Quiet.guardF rfl rfl fun g103 p103 => Q.fieldAddr rfl) ?_
        refine XT.q rfl rfl (Quiet.guardF rfl rfl fun g104 p104 => Q.ld (lzv g104 rfl) rfl) ?_
        refine XT.gcallF rfl rfl rfl rfl Try.call37 rfl (fun g105 => .c (lzv g105 rfl) (.c rfl .n)) rfl (fun g105 p105 => in_spec _ _) ⟨inferInstance, ?_⟩ XT.stop
        refine XT.q rfl rfl (Quiet.guardF rfl rfl fun g106 p106 => Q.not (lzv g106 rfl)) ?_
        refine XT.q rfl rfl (Q.or rfl (fun hp => lzv hp rfl)) ?_
        refine XT.q rfl rfl (Q.move rfl) ?_
        refine XT.q rfl rfl (Quiet.guardF rfl rfl fun g109 p109 => Q.fieldAddr rfl) ?_
        refine XT.q rfl rfl (Quiet.guardF rfl rfl fun g110 p110 => Q.ld (lzv g110 rfl) rfl) ?_
        refine XT.gcallF rfl rfl rfl rfl Try.call37 rfl (fun g111 => .c (lzv g111 rfl) (.c rfl .n)) rfl (fun g111 p111 => in_spec _ _) ⟨inferInstance, ?_⟩ XT.stop
        refine XT.q rfl rfl (Quiet.guardF rfl rfl fun g112 p112 => Q.not (lzv g112 rfl)) ?_
        refine XT.q rfl rfl (Q.or rfl (fun hp => lzv hp rfl)) ?_
        refine XT.done ?_
        refine XK.if rfl (fun c5 => ?_) (fun c5 => ?_)
        · have _t5 := True.intro
          refine XK.seq ?_
          refine XK.region rfl ?_
          refine XO.q (Q.assign rfl) ?_
          refine XO.done ?_
          refine XK.rt [] Try.func73 Try.results73 (.t rfl .n) ?_
          have hb : branchesOk h h.branches.length = false := allTo_false (s := i) (by omega) (by rw [Bool.eq_false_iff]; intro h; exact (okBranch_iff.1 h) c5)
          exact ⟨by simp [allowedP, hb], rfl⟩
        · have _t5 := True.intro
          refine XK.skip ?_
          refine XK.inBlock ?_
          refine XK.region rfl ?_
          refine XO.q (Q.add rfl rfl ⟨by omega, by omega⟩) ?_
          refine XO.q (Q.move rfl) ?_
          refine XO.done ?_
          exact ih2 (i + 1) _ _ ⟨by omega, by rw [branchesOk, allTo_succ]; rw [branchesOk] at hall; rw [hall, Bool.true_and]; exact okBranch_iff.2 c5⟩ (by first | omega | (dsimp only; omega)) (.c rfl (.base 84 rfl rfl)) inferInstance
      · have _t4 := True.intro
        have e3 : branchesOk h h.branches.length = true := by rw [show h.branches.length = i by omega]; exact hall
        clear ih2 hall hi c4
        refine XK.exit rfl ?_
        refine XK.seq ?_
        refine XK.seq ?_
        refine XK.region rfl ?_
        refine XO.q (Q.fieldAddr rfl) ?_
        refine XO.q (Q.ld rfl rfl) ?_
        refine XO.len rfl fun l117 => ?_
        refine XO.q (Q.move rfl) ?_
        refine XO.done ?_
        refine XK.block ?_
        refine XK.while (X := Nat) [2, 10, 118, 119, 120, 121, 122, 123, 124, 125, 126, 127, 128, 129, 130, 131, 132, 133, 134, 135, 136, 137, 138, 139, 140, 141, 142, 143, 144, 145, 146, 147, 148, 149, 150, 151, 152, 153, 154] (fun i => [(118, some (.int .i64 (i : Nat)))]) (fun i => []) (fun i => i ≤ h.coolers.length ∧ coolersOk h i = true) (fun i => h.coolers.length - i) (0) [] rfl ⟨by omega, rfl⟩ (.c rfl (.base 0 rfl rfl)) ?_
        rintro i ⟨hi, hall⟩ ih3
        dsimp only [List.cons_append, List.nil_append] at ih3 ⊢
        refine XK.seq ?_
        refine XK.region rfl ?_
        refine XO.q (Q.lss rfl rfl) ?_
        refine XO.done ?_
        refine XK.seq ?_
        refine XK.if rfl (fun c6 => ?_) (fun c6 => ?_)
        · have _t6 := True.intro
          refine XK.skip ?_
          refine XK.seq ?_
          refine XK.block ?_
          refine XK.seq ?_
          refine XK.region rfl ?_
          refine XO.ix rfl rfl (by omega) (by omega) fun i120 => ?_
          refine XO.q (Q.ldEA [_, _, _, _, _] rfl (by first | assumption | omega) rfl rfl) ?_
          refine XO.alloc fun b10 => ?_
          refine XO.st rfl rfl rfl ?_
          refine XO.done ?_
          refine XK.seq ?_
          refine XK.region rfl ?_
          refine XO.q (Q.fieldAddr rfl) ?_
          refine XO.q (Q.ld rfl rfl) ?_
          refine XO.q (Q.fieldAddr rfl) ?_
          refine XO.q (Q.ld rfl rfl) ?_
          refine XO.call Try.call102 rfl rfl rfl (indexRoom _ vr hr h.rooms) fun v126 s126 R126 => ?_
          obtain ⟨rfl, rfl⟩ := R126
          dsimp only [List.cons_append, List.nil_append]
          refine XO.q (Q.not rfl) ?_
          refine XO.q (Q.move rfl) ?_
          refine XO.q (Quiet.guardF rfl rfl fun g129 p129 => Q.fieldAddr rfl) ?_
          refine XO.q (Quiet.guardF rfl rfl fun g130 p130 => Q.ld (lzv g130 rfl) rfl) ?_
          refine XO.q (Quiet.guardF rfl rfl fun g131 p131 => Q.fieldAddr rfl) ?_
          refine XO.q (Quiet.guardF rfl rfl fun g132 p132 => Q.ld (lzv g132 rfl) rfl) ?_
          refine XO.gcallF rfl rfl Try.call103 rfl (fun g133 => .c (lzv g133 rfl) (.c (lzv g133 rfl) .n)) rfl (fun g133 p133 => indexBranch _ vb hb h.branches) ?_
          refine XO.q (Quiet.guardF rfl rfl fun g134 p134 => Q.not (lzv g134 rfl)) ?_
          refine XO.q (Q.or rfl (fun hp => lzv hp rfl)) ?_
          refine XO.q (Q.move rfl) ?_
          refine XO.q (Quiet.guardF rfl rfl fun g137 p137 => Q.fieldAddr rfl) ?_
          refine XO.q (Quiet.guardF rfl rfl fun g138 p138 => Q.ld (lzv g138 rfl) rfl) ?_
          refine XO.gcallF rfl rfl Try.call37 rfl (fun g139 => .c (lzv g139 rfl) (.c rfl .n)) rfl (fun g139 p139 => in_spec _ _) ?_
          refine XO.q (Quiet.guardF rfl rfl fun g140 p140 => Q.not (lzv g140 rfl)) ?_
          refine XO.q (Q.or rfl (fun hp => lzv hp rfl)) ?_
          refine XO.q (Q.move rfl) ?_
          refine XO.q (Quiet.guardF rfl rfl fun g143 p143 => Q.fieldAddr rfl) ?_
          refine XO.q (Quiet.guardF rfl rfl fun g144 p144 => Q.ld (lzv g144 rfl) rfl) ?_
          refine XO.gcallF rfl rfl Try.call37 rfl (fun g145 => .c (lzv g145 rfl) (.c rfl .n)) rfl (fun g145 p145 => in_spec _ _) ?_
          refine XO.q (Quiet.guardF rfl rfl fun g146 p146 => Q.not (lzv g146 rfl)) ?_
          refine XO.q (Q.or rfl (fun hp => lzv hp rfl)) ?_
          refine XO.q (Q.move rfl) ?_
          refine XO.q (Quiet.guardF rfl rfl fun g149 p149 => Q.fieldAddr rfl) ?_
          refine XO.q (Quiet.guardF rfl rfl fun g150 p150 => Q.ld (lzv g150 rfl) rfl) ?_
          refine XO.gcallF rfl rfl Try.call37 rfl (fun g151 => .c (lzv g151 rfl) (.c rfl .n)) rfl (fun g151 p151 => in_spec _ _) ?_
          refine XO.q (Quiet.guardF rfl rfl fun g152 p152 => Q.not (lzv g152 rfl)) ?_
          refine XO.q (Q.or rfl (fun hp => lzv hp rfl)) ?_
          refine XO.done ?_
          refine XK.if rfl (fun c7 => ?_) (fun c7 => ?_)
          · have _t7 := True.intro
            refine XK.seq ?_
            refine XK.region rfl ?_
            refine XO.q (Q.assign rfl) ?_
            refine XO.done ?_
            refine XK.rt [] Try.func73 Try.results73 (.t rfl .n) ?_
            have hb : coolersOk h h.coolers.length = false := allTo_false (s := i) (by omega) (by rw [Bool.eq_false_iff]; intro h; exact (okCooler_iff.1 h) c7)
            exact ⟨by simp [allowedP, hb], rfl⟩
          · have _t7 := True.intro
            refine XK.skip ?_
            refine XK.inBlock ?_
            refine XK.region rfl ?_
            refine XO.q (Q.add rfl rfl ⟨by omega, by omega⟩) ?_
            refine XO.q (Q.move rfl) ?_
            refine XO.done ?_
            exact ih3 (i + 1) _ _ ⟨by omega, by rw [coolersOk, allTo_succ]; rw [coolersOk] at hall; rw [hall, Bool.true_and]; exact okCooler_iff.2 c7⟩ (by first | omega | (dsimp only; omega)) (.c rfl (.base 78 rfl rfl)) inferInstance
        · have _t6 := True.intro
          have e4 : coolersOk h h.coolers.length = true := by rw [show h.coolers.length = i by omega]; exact hall
          refine XK.exit rfl ?_
          refine XK.seq ?_
          refine XK.region rfl ?_
          refine XO.q (Q.assign rfl) ?_
          refine XO.done ?_
          refine XK.rt [] Try.func73 Try.results73 (.t rfl .n) ?_
          exact ⟨by rw [allowedP, e1, e2, e3, e4]; rfl, rfl⟩
end Go.X

set_option linter.unusedSimpArgs false
set_option linter.unusedVariables false
set_option maxRecDepth 20000
namespace Go.X
open Go.Proofs
theorem hcheck_many {h : Hall} (c : (((((h.rooms.length : Int) < 1 ∨ 8 < (h.rooms.length : Int)) ∨ 16 < (h.walls.length : Int)) ∨ 16 < (h.branches.length : Int)) ∨ 16 < (h.coolers.length : Int))) : hcheck h = 2 := by rw [hcheck, if_pos c]
theorem Check_spec (h : Hall) (vr vw vb vc : Value) (hr hw hb hc : PHeap) [ir : Arr vr encRoom 2 hr h.rooms] [iw : Arr vw encWall 3 hw h.walls] [ib : Arr vb encBranch 3 hb h.branches] [ic : Arr vc encCooler 5 hc h.coolers] : Spec Try.prog 36 #[.agg #[vr, vw, vb, vc]] [] [hr, hw, hb, hc] (fun v hs => v = .int .i64 (hcheck h) ∧ hs = []) := by
  have lr := ir.le
  have lw := iw.le
  have lb := ib.le
  have lc := ic.le
  refine Spec.intro (fn := Try.f36) (N := 92) Try.func36 rfl Try.ntmps36 rfl fun B => ?_
  refine XK.seq ?_
  refine XK.region rfl ?_
  refine XO.box rfl fun b1 => ?_
  refine XO.q (Q.assign rfl) ?_
  refine XO.done ?_
  refine XK.seq ?_
  refine XK.seq ?_
  refine XK.region rfl ?_
  refine XO.q (Q.fieldAddr rfl) ?_
  refine XO.q (Q.ld rfl rfl) ?_
  refine XO.len rfl fun l12 => ?_
  refine XO.q (Q.lss rfl rfl) ?_
  refine XO.q (Q.move rfl) ?_
  refine XO.q (Quiet.guardF rfl rfl fun g15 p15 => Q.fieldAddr rfl) ?_
  refine XO.q (Quiet.guardF rfl rfl fun g16 p16 => Q.ld (lzv g16 rfl) rfl) ?_
  refine XO.q (Quiet.guardF rfl rfl fun g17 p17 => Q.len (lzv g17 rfl)) ?_
  refine XO.q (Quiet.guardF rfl rfl fun g18 p18 => Q.gtr (lzv g18 rfl) rfl) ?_
  refine XO.q (Q.or rfl (fun hp => lzv hp rfl)) ?_
  refine XO.q (Q.move rfl) ?_
  refine XO.q (Quiet.guardF rfl rfl fun g21 p21 => Q.fieldAddr rfl) ?_
  refine XO.q (Quiet.guardF rfl rfl fun g22 p22 => Q.ld (lzv g22 rfl) rfl) ?_
  refine XO.q (Quiet.guardF rfl rfl fun g23 p23 => Q.len (lzv g23 rfl)) ?_
  refine XO.q (Quiet.guardF rfl rfl fun g24 p24 => Q.gtr (lzv g24 rfl) rfl) ?_
  refine XO.q (Q.or rfl (fun hp => lzv hp rfl)) ?_
  refine XO.q (Q.move rfl) ?_
  refine XO.q (Quiet.guardF rfl rfl fun g27 p27 => Q.fieldAddr rfl) ?_
  refine XO.q (Quiet.guardF rfl rfl fun g28 p28 => Q.ld (lzv g28 rfl) rfl) ?_
  refine XO.q (Quiet.guardF rfl rfl fun g29 p29 => Q.len (lzv g29 rfl)) ?_
  refine XO.q (Quiet.guardF rfl rfl fun g30 p30 => Q.gtr (lzv g30 rfl) rfl) ?_
  refine XO.q (Q.or rfl (fun hp => lzv hp rfl)) ?_
  refine XO.q (Q.move rfl) ?_
  refine XO.q (Quiet.guardF rfl rfl fun g33 p33 => Q.fieldAddr rfl) ?_
  refine XO.q (Quiet.guardF rfl rfl fun g34 p34 => Q.ld (lzv g34 rfl) rfl) ?_
  refine XO.q (Quiet.guardF rfl rfl fun g35 p35 => Q.len (lzv g35 rfl)) ?_
  refine XO.q (Quiet.guardF rfl rfl fun g36 p36 => Q.gtr (lzv g36 rfl) rfl) ?_
  refine XO.q (Q.or rfl (fun hp => lzv hp rfl)) ?_
  refine XO.done ?_
  refine XK.if rfl (fun c0 => ?_) (fun c0 => ?_)
  · have _t0 := True.intro
    refine XK.seq ?_
    refine XK.region rfl ?_
    refine XO.q (Q.assign rfl) ?_
    refine XO.done ?_
    refine XK.rt [] Try.func36 Try.results36 (.t rfl .n) ?_
    exact ⟨by rw [hcheck_many c0], rfl⟩
  · have _t0 := True.intro
    refine XK.skip ?_
    refine XK.seq ?_
    refine XK.seq ?_
    refine XK.region rfl ?_
    refine XO.q (Q.ldA [_, _, _, _] rfl rfl rfl) ?_
    refine XO.call Try.call73 rfl rfl rfl (allowed_spec h vr vw vb vc hr hw hb hc) fun v39 s39 R39 => ?_
    obtain ⟨rfl, rfl⟩ := R39
    dsimp only [List.cons_append, List.nil_append]
    refine XO.q (Q.not rfl) ?_
    refine XO.done ?_
    refine XK.if rfl (fun c1 => ?_) (fun c1 => ?_)
    · have _t1 := True.intro
      refine XK.seq ?_
      refine XK.region rfl ?_
      refine XO.q (Q.assign rfl) ?_
      refine XO.done ?_
      refine XK.rt [] Try.func36 Try.results36 (.t rfl .n) ?_
      exact ⟨by rw [hcheck, if_neg c0, if_pos (by simpa using c1)], rfl⟩
    · have _t1 := True.intro
      have ha : allowedP h = true := Classical.byContradiction c1
      refine XK.skip ?_
      refine XK.seq ?_
      refine XK.seq ?_
      refine XK.region rfl ?_
      refine XO.q (Q.fieldAddr rfl) ?_
      refine XO.q (Q.ld rfl rfl) ?_
      refine XO.len rfl fun l43 => ?_
      refine XO.q (Q.move rfl) ?_
      refine XO.done ?_
      refine XK.block ?_
      refine XK.while (X := Nat) [2, 3, 4, 5, 7, 9, 44, 45, 46, 47, 48, 49, 50, 51, 52, 53, 54, 55, 56, 57, 58, 59, 60, 61, 62, 63, 64, 65, 66, 67, 68, 69, 70, 71, 72, 73, 74, 75, 76, 77, 78, 79, 80, 81, 82, 83, 84, 85, 86, 87, 88, 89, 90, 91] (fun i => [(44, some (.int .i64 (i : Nat)))]) (fun i => []) (fun i => i ≤ h.rooms.length ∧ allTo (fun i => decide (slope h i ≤ (h.rooms.getD i default).store)) i = true) (fun i => h.rooms.length - i) (0) [] rfl ⟨by omega, rfl⟩ (.c rfl (.base 0 rfl rfl)) ?_
      rintro i ⟨hi, hall⟩ ih0
      dsimp only [List.cons_append, List.nil_append] at ih0 ⊢
      refine XK.seq ?_
      refine XK.region rfl ?_
      refine XO.q (Q.lss rfl rfl) ?_
      refine XO.done ?_
      refine XK.seq ?_
      refine XK.if rfl (fun c2 => ?_) (fun c2 => ?_)
      · have _t2 := True.intro
        refine XK.skip ?_
        refine XK.seq ?_
        refine XK.block ?_
        refine XK.seq ?_
        refine XK.region rfl ?_
        refine XO.q (Q.move rfl) ?_
        refine XO.ix rfl rfl (by omega) (by omega) fun i47 => ?_
        refine XO.q (Q.ldEA [_, _] rfl (by first | assumption | omega) rfl rfl) ?_
        refine XO.alloc fun b4 => ?_
        refine XO.q (Q.assign rfl) ?_
        refine XO.st rfl rfl rfl ?_
        refine XO.done ?_
        refine XK.seq ?_
        refine XK.region rfl ?_
        refine XO.q (Q.assign rfl) ?_
        refine XO.done ?_
        refine XK.seq ?_
        refine XK.seq ?_
        refine XK.region rfl ?_
        refine XO.q (Q.fieldAddr rfl) ?_
        refine XO.q (Q.ld rfl rfl) ?_
        refine XO.len rfl fun l51 => ?_
        refine XO.q (Q.move rfl) ?_
        refine XO.done ?_
        refine XK.block ?_
        refine XK.while (X := Nat) [5, 7, 52, 53, 54, 55, 56, 57, 58, 59, 60, 61, 62, 63, 64, 65, 66, 67, 68, 69, 70] (fun k => [(52, some (.int .i64 (k : Nat))), (5, some (.int .i64 (sumTo (wslope h i) k)))]) (fun k => []) (fun k => k ≤ h.walls.length) (fun k => h.walls.length - k) (0) [] rfl (by omega) (.c rfl (.c rfl (.base 0 rfl rfl))) ?_
        rintro k hk ih1
        dsimp only [List.cons_append, List.nil_append] at ih1 ⊢
        refine XK.seq ?_
        refine XK.region rfl ?_
        refine XO.q (Q.lss rfl rfl) ?_
        refine XO.done ?_
        refine XK.seq ?_
        refine XK.if rfl (fun c3 => ?_) (fun c3 => ?_)
        · have _t3 := True.intro
          have hws := wsum_rng ha (by omega) i (k := k) (by omega)
          have hwf := (allowed_facts ha).2.1 k (by omega)
          refine XK.skip ?_
          refine XK.seq ?_
          refine XK.block ?_
          refine XK.seq ?_
          refine XK.region rfl ?_
          refine XO.ix rfl rfl (by omega) (by omega) fun i54 => ?_
          refine XO.q (Q.ldEA [_, _, _] rfl (by first | assumption | omega) rfl rfl) ?_
          refine XO.alloc fun b7 => ?_
          refine XO.st rfl rfl rfl ?_
          refine XO.done ?_
          refine XK.seq ?_
          refine XK.region rfl ?_
          refine XO.q (Q.fieldAddr rfl) ?_
          refine XO.q (Q.ld rfl rfl) ?_
          refine XO.q (Q.move rfl) ?_
          refine XO.q (Q.eql rfl rfl) ?_
          refine XO.q (Q.move rfl) ?_
          refine XO.q (Quiet.guardF rfl rfl fun g61 p61 => Q.fieldAddr rfl) ?_
          refine XO.q (Quiet.guardF rfl rfl fun g62 p62 => Q.ld (lzv g62 rfl) rfl) ?_
          refine XO.q (Quiet.guardF rfl rfl fun g63 p63 => Q.move rfl) ?_
          refine XO.q (Quiet.guardF rfl rfl fun g64 p64 => Q.eql (lzv g64 rfl) (lzv g64 rfl)) ?_
          refine XO.q (Q.or rfl (fun hp => lzv hp rfl)) ?_
          refine XO.done ?_
          refine XK.if rfl (fun c4 => ?_) (fun c4 => ?_)
          · have _t4 := True.intro
            refine XK.region rfl ?_
            refine XO.q (Q.move rfl) ?_
            refine XO.q (Q.fieldAddr rfl) ?_
            refine XO.q (Q.ld rfl rfl) ?_
            refine XO.q (Q.add rfl rfl ⟨by omega, by omega⟩) ?_
            refine XO.q (Q.assign rfl) ?_
            refine XO.done ?_
            refine XK.inBlock ?_
            refine XK.region rfl ?_
            refine XO.q (Q.add rfl rfl ⟨by omega, by omega⟩) ?_
            refine XO.q (Q.move rfl) ?_
            refine XO.done ?_
            rw [show sumTo (wslope h i) k + (h.walls.getD k default).pass = sumTo (wslope h i) (k + 1) by rw [sumTo, wslope, if_pos c4]]
            exact ih1 (k + 1) _ _ (by omega) (by first | omega | (dsimp only; omega)) (.c rfl (.c rfl (.base 44 rfl rfl))) inferInstance
          · have _t4 := True.intro
            refine XK.skip ?_
            refine XK.inBlock ?_
            refine XK.region rfl ?_
            refine XO.q (Q.add rfl rfl ⟨by omega, by omega⟩) ?_
            refine XO.q (Q.move rfl) ?_
            refine XO.done ?_
            rw [show sumTo (wslope h i) k = sumTo (wslope h i) (k + 1) by rw [sumTo, wslope, if_neg c4, Int.add_zero]]
            exact ih1 (k + 1) _ _ (by omega) (by first | omega | (dsimp only; omega)) (.c rfl (.c rfl (.base 39 rfl rfl))) inferInstance
        · have _t3 := True.intro
          have hkw : k = h.walls.length := by omega
          rw [hkw]
          have hws := wsum_rng ha (by omega) i (k := h.walls.length) (Nat.le_refl _)
          rw [show sumTo (wslope h i) h.walls.length = sumTo (wslope h i) h.walls.length + sumTo (cslope h i) 0 by rw [sumTo, Int.add_zero]]
          clear ih1 hk hkw c3
          refine XK.exit rfl ?_
          refine XK.seq ?_
          refine XK.seq ?_
          refine XK.region rfl ?_
          refine XO.q (Q.fieldAddr rfl) ?_
          refine XO.q (Q.ld rfl rfl) ?_
          refine XO.len rfl fun l73 => ?_
          refine XO.q (Q.move rfl) ?_
          refine XO.done ?_
          refine XK.block ?_
          refine XK.while (X := Nat) [5, 9, 74, 75, 76, 77, 78, 79, 80, 81, 82, 83, 84, 85, 86] (fun k => [(74, some (.int .i64 (k : Nat))), (5, some (.int .i64 (sumTo (wslope h i) h.walls.length + sumTo (cslope h i) k)))]) (fun k => []) (fun k => k ≤ h.coolers.length) (fun k => h.coolers.length - k) (0) [] rfl (by omega) (.c rfl (.c rfl (.base 0 rfl rfl))) ?_
          rintro k hk ih2
          dsimp only [List.cons_append, List.nil_append] at ih2 ⊢
          refine XK.seq ?_
          refine XK.region rfl ?_
          refine XO.q (Q.lss rfl rfl) ?_
          refine XO.done ?_
          refine XK.seq ?_
          refine XK.if rfl (fun c5 => ?_) (fun c5 => ?_)
          · have _t5 := True.intro
            have hcs := csum_rng ha (by omega) i (k := k) (by omega)
            have hcf := (allowed_facts ha).2.2 k (by omega)
            refine XK.skip ?_
            refine XK.seq ?_
            refine XK.block ?_
            refine XK.seq ?_
            refine XK.region rfl ?_
            refine XO.ix rfl rfl (by omega) (by omega) fun i76 => ?_
            refine XO.q (Q.ldEA [_, _, _, _, _] rfl (by first | assumption | omega) rfl rfl) ?_
            refine XO.alloc fun b9 => ?_
            refine XO.st rfl rfl rfl ?_
            refine XO.done ?_
            refine XK.seq ?_
            refine XK.region rfl ?_
            refine XO.q (Q.fieldAddr rfl) ?_
            refine XO.q (Q.ld rfl rfl) ?_
            refine XO.q (Q.move rfl) ?_
            refine XO.q (Q.eql rfl rfl) ?_
            refine XO.done ?_
            refine XK.if rfl (fun c6 => ?_) (fun c6 => ?_)
            · have _t6 := True.intro
              refine XK.region rfl ?_
              refine XO.q (Q.move rfl) ?_
              refine XO.q (Q.fieldAddr rfl) ?_
              refine XO.q (Q.ld rfl rfl) ?_
              refine XO.q (Q.add rfl rfl ⟨by omega, by omega⟩) ?_
              refine XO.q (Q.assign rfl) ?_
              refine XO.done ?_
              refine XK.inBlock ?_
              refine XK.region rfl ?_
              refine XO.q (Q.add rfl rfl ⟨by omega, by omega⟩) ?_
              refine XO.q (Q.move rfl) ?_
              refine XO.done ?_
              rw [show sumTo (wslope h i) h.walls.length + sumTo (cslope h i) k + (h.coolers.getD k default).gain = sumTo (wslope h i) h.walls.length + sumTo (cslope h i) (k + 1) by rw [sumTo, cslope, if_pos c6, Int.add_assoc]]
              exact ih2 (k + 1) _ _ (by omega) (by first | omega | (dsimp only; omega)) (.c rfl (.c rfl (.base 32 rfl rfl))) inferInstance
            · have _t6 := True.intro
              refine XK.skip ?_
              refine XK.inBlock ?_
              refine XK.region rfl ?_
              refine XO.q (Q.add rfl rfl ⟨by omega, by omega⟩) ?_
              refine XO.q (Q.move rfl) ?_
              refine XO.done ?_
              rw [show sumTo (cslope h i) k = sumTo (cslope h i) (k + 1) by rw [sumTo, cslope, if_neg c6, Int.add_zero]]
              exact ih2 (k + 1) _ _ (by omega) (by first | omega | (dsimp only; omega)) (.c rfl (.c rfl (.base 27 rfl rfl))) inferInstance
          · have _t5 := True.intro
            have hkc : k = h.coolers.length := by omega
            rw [hkc]
            refine XK.exit rfl ?_
            refine XK.seq ?_
            refine XK.region rfl ?_
            refine XO.q (Q.move rfl) ?_
            refine XO.q (Q.fieldAddr rfl) ?_
            refine XO.q (Q.ld rfl rfl) ?_
            refine XO.q (Q.gtr rfl rfl) ?_
            refine XO.done ?_
            refine XK.if rfl (fun c7 => ?_) (fun c7 => ?_)
            · have _t7 := True.intro
              refine XK.seq ?_
              refine XK.region rfl ?_
              refine XO.q (Q.assign rfl) ?_
              refine XO.done ?_
              refine XK.rt [] Try.func36 Try.results36 (.t rfl .n) ?_
              exact ⟨by rw [hcheck, if_neg c0, if_neg (by rw [ha]; simp), if_neg]; rw [allTo_false (s := i) (by omega) (by rw [decide_eq_false_iff_not]; change ¬ sumTo (wslope h i) h.walls.length + sumTo (cslope h i) h.coolers.length ≤ _; omega)]; simp, rfl⟩
            · have _t7 := True.intro
              refine XK.skip ?_
              refine XK.inBlock ?_
              refine XK.region rfl ?_
              refine XO.q (Q.add rfl rfl ⟨by omega, by omega⟩) ?_
              refine XO.q (Q.move rfl) ?_
              refine XO.done ?_
              exact ih0 (i + 1) _ _ ⟨by omega, by rw [allTo_succ, hall, Bool.true_and, decide_eq_true_eq]; change sumTo (wslope h i) h.walls.length + sumTo (cslope h i) h.coolers.length ≤ _; omega⟩ (by first | omega | (dsimp only; omega)) (.c rfl (.base 118 rfl rfl)) inferInstance
      · have _t2 := True.intro
        refine XK.exit rfl ?_
        refine XK.seq ?_
        refine XK.region rfl ?_
        refine XO.q (Q.assign rfl) ?_
        refine XO.done ?_
        refine XK.rt [] Try.func36 Try.results36 (.t rfl .n) ?_
        have hin : i = h.rooms.length := by omega
        rw [hin] at hall
        exact ⟨by rw [hcheck, if_neg c0, if_neg (by rw [ha]; simp), if_pos hall], rfl⟩
theorem next7 (b : Nat) (vl : Value) (hl : PHeap) (l : List UInt8) [sl : Arr vl encU8 1 hl l] (i n : Nat) (hi : i ≤ 1000000000) (hn : 0 < n) (hn2 : n ≤ 1000000) : Spec Try.prog 35 #[ptr b 0, .int .i64 (n : Nat)] [blk b [vl, .int .i64 (i : Nat)] 99] [hl]
    (fun v hs => hs = [blk b [vl, .int .i64 ((i + 1 : Nat) : Int)] 99] ∧ ∃ r : Nat, v = .int .i64 (r : Nat) ∧ r < n) := by
  refine Spec.intro (fn := Try.f35) (N := 36) Try.func35 rfl Try.ntmps35 rfl fun B => ?_
  refine XK.seq ?_
  refine XK.region rfl ?_
  refine XO.q (Q.assign rfl) ?_
  refine XO.done ?_
  refine XK.seq ?_
  refine XK.region rfl ?_
  refine XO.q (Q.move rfl) ?_
  refine XO.q (Q.nilCheck rfl) ?_
  refine XO.q (Q.fieldAddr rfl) ?_
  refine XO.q (Q.ld rfl rfl) ?_
  refine XO.q (Q.add rfl rfl ⟨by omega, by omega⟩) ?_
  rw [show ((i : Int) + 1) = ((i + 1 : Nat) : Int) from rfl]
  refine XO.q (Q.nilCheck rfl) ?_
  refine XO.q (Q.fieldAddr rfl) ?_
  refine XO.st rfl rfl rfl ?_
  refine XO.done ?_
  refine XK.seq ?_
  refine XK.seq ?_
  refine XK.drawn [0, 1, 2, 3, 4, 5, 6, 7, 8, 9] [b] [] (.q 0 (.q 1 (.q 2 (.q 3 (.q 4 (.q 5 (.q 6 (.q 7 (.q 8 (.q 9 .done)))))))))) Try.mixed rfl (by kernel_rfl) ?_
  refine XT.q rfl rfl (Q.move rfl) ?_
  refine XT.q rfl rfl (Q.nilCheck rfl) ?_
  refine XT.q rfl rfl (Q.fieldAddr rfl) ?_
  refine XT.q rfl rfl (Q.ld rfl rfl) ?_
  refine XT.q rfl rfl (Q.move rfl) ?_
  refine XT.q rfl rfl (Q.nilCheck rfl) ?_
  refine XT.q rfl rfl (Q.fieldAddr rfl) ?_
  refine XT.q rfl rfl (Q.ld rfl rfl) ?_
  refine XT.q rfl rfl (Q.len rfl) ?_
  refine XT.q rfl rfl (Q.gtr rfl rfl) ?_
  refine XT.done ?_
  refine XK.if rfl (fun c0 => ?_) (fun c0 => ?_)
  · have _t0 := True.intro
    refine XK.seq ?_
    refine XK.region rfl ?_
    refine XO.q (Q.assign rfl) ?_
    refine XO.done ?_
    refine XK.rt [blk b [vl, .int .i64 ((i + 1 : Nat) : Int)] 99] Try.func35 Try.results35 (.t rfl .n) ?_
    exact ⟨rfl, 0, rfl, hn⟩
  · have _t0 := True.intro
    refine XK.skip ?_
    refine XK.seq ?_
    refine XK.drawn [0, 1, 2, 3, 4, 5, 6, 7, 8, 9, 10, 11, 12, 13, 14] [b] [] (.q 0 (.q 1 (.q 2 (.q 3 (.q 4 (.q 5 (.q 6 (.q 7 (.q 8 (.q 9 (.q 10 (.q 11 (.q 12 (.q 13 (.q 14 .done))))))))))))))) Try.mixed rfl (by kernel_rfl) ?_
    refine XT.q rfl rfl (Q.move rfl) ?_
    refine XT.q rfl rfl (Q.nilCheck rfl) ?_
    refine XT.q rfl rfl (Q.fieldAddr rfl) ?_
    refine XT.q rfl rfl (Q.ld rfl rfl) ?_
    refine XT.q rfl rfl (Q.move rfl) ?_
    refine XT.q rfl rfl (Q.nilCheck rfl) ?_
    refine XT.q rfl rfl (Q.fieldAddr rfl) ?_
    refine XT.q rfl rfl (Q.ld rfl rfl) ?_
    refine XT.q rfl rfl (Q.sub rfl rfl ⟨by omega, by omega⟩) ?_
    rw [show (((i + 1 : Nat) : Int) - 1) = (i : Int) by omega]
    refine XT.ix rfl rfl rfl rfl (by omega) (by omega) fun i31 => ?_
    refine XT.q rfl rfl (Q.ldE rfl (by first | assumption | omega) rfl) ?_
    refine XT.q rfl rfl (Q.conv rfl) ?_
    have hu := (l.getD i default).toNat_lt
    rw [wrap64_of ⟨by omega, by omega⟩]
    refine XT.q rfl rfl (Q.move rfl) ?_
    refine XT.q rfl rfl (Q.rem rfl rfl (by omega) (by omega)) ?_
    rw [show ((((l.getD i default).toNat : Nat) : Int) % (n : Int)) = (((l.getD i default).toNat % n : Nat) : Int) from rfl]
    refine XT.q rfl rfl (Q.assign rfl) ?_
    refine XT.done ?_
    refine XK.rt [blk b [vl, .int .i64 ((i + 1 : Nat) : Int)] 99] Try.func35 Try.results35 (.t rfl .n) ?_
    exact ⟨rfl, (l.getD i default).toNat % n, rfl, Nat.mod_lt _ hn⟩
end Go.X
