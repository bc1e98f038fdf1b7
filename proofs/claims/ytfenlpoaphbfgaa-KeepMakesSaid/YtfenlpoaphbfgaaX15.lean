/- Loops over functions: the rounds, the loop, an iterator's contract. No condition. -/
import Derived.Test.YtfenlpoaphbfgaaX14
set_option linter.unusedSimpArgs false
set_option linter.unusedVariables false
namespace Go.X

/-! ### a round -/
def rdy (l : Nat) (rec : Loop) : PHeap := sing l (.loop { rec with state := .ready, pending := none })
def bsy (l : Nat) (rec : Loop) : PHeap := sing l (.loop { rec with state := .busy, pending := none })
def ovr (l : Nat) (rec : Loop) (j : Option Code) : PHeap := sing l (.loop { rec with state := if j.isNone then .ready else .done, pending := j })
theorem ovr_none (l : Nat) (rec : Loop) : ovr l rec none = rdy l rec := rfl
def Leaves : Option Code → List Item → Prop
  | none, [] => True
  | some .ret, .code .ret :: _ => True
  | some (.exit id), .code (.exit id') :: k => id = id' ∧ exitTo id k = none
  | _, _ => False
/-- The frame of a round; at its end: the jump, the heaps. -/
abbrev rcx (P : Program) (f : FuncId) (N : Nat) (l : Nat) (rec : Loop) (B : PHeap) (R : Option Code → List PHeap → Prop) : Cx :=
  { P, f, rd := some l, N, B, E := fun fr w' => ∃ j k a ds hs, fr = mk f (some l) a (marks ds) k ∧ Leaves j k ∧ R j hs ∧ Sep (bsy l rec :: hs) [B] w' }
section
variable {P : Program} {f : FuncId} {N l : Nat} {rec : Loop} {B : PHeap} {R : Option Code → List PHeap → Prop} {k : List Item} {e : Env} {o o1 r : List PHeap}
theorem Sep.turn {b : Nat} {x y : Obj} {o r : List PHeap} {w : World} (s : Sep (sing b x :: o) r w) : Sep (sing b y :: o) r (w.putObj b y) ∧ w.heap[b]? = some x := by
  have hb : w.heap[b]? = some x := s.so _ List.mem_cons_self b x (sing_self b x)
  have hlt : b < w.heap.size := (Array.getElem?_eq_some_iff.1 hb).1
  refine ⟨s.swap (fun x' hx' => ?_) (fun x' ob hx' => ?_) (fun x' hx' => ?_) rfl rfl, hb⟩
  · unfold sing at *; dsimp only at hx' ⊢; split at hx'
    · cases hx'
    · simp [*]
  · obtain ⟨rfl, rfl⟩ := sing_some hx'
    exact World.putObj_heap_same hlt
  · refine World.putObj_heap_other ?_
    rintro rfl
    rw [sing_self] at hx'; cases hx'
theorem XK.beginRound [t : Take (rdy l rec) o o1] (h : XK (rcx P f N l rec B R) k e (bsy l rec :: o1) r) : XK (rcx P f N l rec B R) (.beginRound :: k) e o r := fun D ds a w cs ha he hD hm => by
  have hp : (D :: o).Perm (rdy l rec :: D :: o1) := (t.pf.cons D).trans (List.Perm.swap _ _ _)
  obtain ⟨h1, hb⟩ := Sep.turn (y := .loop { rec with state := .busy, pending := none }) (hm.perm hp)
  obtain ⟨fr, w', hE, st⟩ := h D ds a _ cs ha he hD (h1.perm (List.Perm.swap _ _ _))
  refine ⟨fr, w', hE, .head (step_lone_go ?_) st⟩
  have hr := run_beginRound (P := P) hb rfl
  simp [stepG, stepG.exec, stepG.apply, mk, Sem.runT_eq, hr, Result.andThen, Frame.finish]
theorem XK.leave {j : Option Code} (hs : List PHeap) [p : Wk o (bsy l rec :: hs)] (hj : Leaves j k) (hR : R j hs) : XK (rcx P f N l rec B R) k e o r := fun D ds a w cs ha he hD hm =>
  ⟨_, w, ⟨j, k, a, ds, hs, rfl, hj, hR, (p.sep hm.tail).reads (fun g hg => by simp at hg; subst hg; exact List.mem_cons_self)⟩, .refl _ _⟩
theorem step_leave {j : Option Code} {a : Array Value} {ds : List Deferred} {c0 : Frame} {cs : List Frame} {w w' : World} {v : Value} (hj : Leaves j k) (hr : (Instr.endRound l j).run P w = .ok v w') :
    step P (lone (mk f (some l) a ds k) (c0 :: cs) w) = .next (lone (c0.finish v) cs w') := by
  unfold Leaves at hj
  split at hj
  · exact step_lone_go (by simp [stepG, stepG.exec, mk, Sem.runT_eq, hr, doReturn])
  · exact step_lone_go (by simp [stepG, stepG.exec, mk, Sem.runT_eq, hr, doReturn])
  · obtain ⟨rfl, hx⟩ := hj
    exact step_lone_go (by simp [stepG, stepG.exec, mk, hx, Sem.runT_eq, hr, doReturn])
  · exact hj.elim
def pars : List Tmp → List Value → Env → Env
  | p :: ps, v :: vs, e => pars ps vs ((p, some v) :: e)
  | _, _, e => e
theorem pars_rel : ∀ (ps : List Tmp) (vs : List Value) (e : Env) (a : Array Value), (∀ p ∈ ps, p < a.size) → ERel e a →
    ERel (pars ps vs e) ((ps.zip vs).foldl (fun tmps (t, x) => tmps.setIfInBounds t x) a) ∧ ((ps.zip vs).foldl (fun tmps (t, x) => tmps.setIfInBounds t x) a).size = a.size
  | [], vs, e, a, _, he => by cases vs <;> exact ⟨he, rfl⟩
  | p :: ps, [], e, a, _, he => ⟨he, rfl⟩
  | p :: ps, v :: vs, e, a, hp, he => by
    have h1 : ERel ((p, some v) :: e) (a.setIfInBounds p v) := he.put (hp p List.mem_cons_self)
    obtain ⟨h2, h3⟩ := pars_rel ps vs _ (a.setIfInBounds p v) (fun q hq => by simp; exact hp q (List.mem_cons_of_mem _ hq)) h1
    exact ⟨h2, by rw [List.zip_cons_cons, List.foldl_cons]; rw [h3]; simp⟩
/-- A call of yield is a round. -/
theorem VSpec.round {Hr hs0 : List PHeap} {ps : List Tmp} {vs : List Value} {as bd : Code} {L0 : Nat} {a : Array Value} (hrec : rec = { state := .ready, pending := none, fn := f, tmps := a, params := ps.toArray, assign := as, body := bd, defers := L0 })
    (hN : a.size = N) (he : ERel e a) (hps : ∀ p ∈ ps, p < N) (hlen : vs.length = ps.length)
    (h : ∀ B, XK (rcx P f N l rec B R) [.code as, .beginRound, .code bd] (pars ps vs e) (rdy l rec :: hs0) Hr) :
    VSpec P (.func (.yield l) #[] #[]) vs (rdy l rec :: hs0) Hr (fun v hs => ∃ j hs', v = .bool (Option.isNone j) ∧ hs = ovr l rec j :: hs' ∧ R j hs') := fun o r w hs hr => by
  have hb : w.heap[l]? = some (.loop { rec with state := .ready, pending := none }) := hs.so _ List.mem_cons_self l _ (sing_self _ _)
  have hrun : (callv (.func (.yield l) #[] #[]) vs.toArray).run P w =
      .ok (.round l f ((ps.zip vs).foldl (fun tmps (t, x) => tmps.setIfInBounds t x) a) as bd) w := by
    unfold callv
    have e1 : (Deferred.ofValue (.func (.yield l) #[] #[]) vs.toArray).run P w = .ok { target := .fn (.yield l) #[], args := #[] ++ vs.toArray } w := rfl
    rw [bind_ok e1]
    simp only [invoke, Array.empty_append]
    rw [run_yield hb (by subst hrec; simp [hlen])]
    subst hrec
    simp [List.zip_toArray, List.foldl_toArray]
  unfold NDoes
  rw [hrun]
  intro c0 cs
  obtain ⟨hr1, hr2⟩ := pars_rel ps vs e a (fun p hp => hN ▸ hps p hp) he
  obtain ⟨fr, w', ⟨j, k, a', ds, hs', rfl, hj, hR, hS⟩, st⟩ := h (hole w (rdy l rec :: hs0)) emp [] _ w (c0 :: cs) (hr2.trans hN) hr1 ⟨List.nodup_nil, fun b => by simp [emp]⟩ (frame_in hs hr).empC
  obtain ⟨hS2, hb2⟩ := Sep.turn (y := .loop { rec with state := if j.isNone then .ready else .done, pending := j }) hS
  have hend := run_endRound (P := P) j hb2
  refine ⟨_, _, ⟨_, ⟨j, hs', rfl, rfl, hR⟩, frame_out hs hS2⟩, ?_⟩
  refine Steps.trans ?_ (.one (step_leave (f := f) (a := a') (ds := marks ds) (c0 := c0) (cs := cs) hj hend))
  exact st
end

/-! ### the loop -/
theorem NDoes.mono {P : Program} {s : Sem Next} {w : World} {Q R : Value → World → Prop} (h : NDoes P s w Q) (m : ∀ v w', Q v w' → R v w') : NDoes P s w R := by
  unfold NDoes at *
  split at h
  · exact h.mono fun e w'' ⟨v, he, hv⟩ => ⟨v, he, m _ _ hv⟩
  · exact fun c0 cs => let ⟨v, w', hv, hs⟩ := h c0 cs; ⟨v, w', m _ _ hv, hs⟩
  · exact h.elim
theorem VSpec.mono {P : Program} {y : Value} {vs : List Value} {Hm Hr : List PHeap} {R R' : Value → List PHeap → Prop} (h : VSpec P y vs Hm Hr R) (m : ∀ v hs, R v hs → R' v hs) : VSpec P y vs Hm Hr R' :=
  fun o r w hs hr => (h o r w hs hr).mono fun v _ ⟨hs', hR, hS⟩ => ⟨hs', m v hs' hR, hS⟩
theorem VSpec.joined {P : Program} {y : Value} {vs : List Value} {Hm Hr : List PHeap} {R : Value → List PHeap → Prop} (h : VSpec P y vs Hm Hr R) (hp : PD Hm) :
    VSpec P y vs [join Hm] Hr (fun v hs => ∃ hs', R v hs' ∧ PD hs' ∧ hs = [join hs']) := fun o r w hs hr =>
  (h o r w (Sep.split hp hs) hr).mono fun v _ ⟨hs', hR, hS⟩ => ⟨_, ⟨hs', hR, ⟨hS.left.pw, hS.left.no⟩, rfl⟩, hS.join⟩
/-- An iterator: it yields the items, one after the other, till a call of yield answers false. -/
def It (P : Program) (y : Value) (items : List (List Value)) (Hg : List PHeap) : Prop :=
  ∀ (f : Value) (Hr : List PHeap) (Q : Nat → PHeap → Prop) (X : PHeap → Prop),
    (∀ i, i < items.length → ∀ q, Q i q → VSpec P f (items.getD i []) [q] Hr (fun v hs => ∃ b q', v = .bool b ∧ hs = [q'] ∧ (b = true → Q (i + 1) q') ∧ (b = false → X q'))) →
    ∀ q, Q 0 q → VSpec P y [f] [q] (Hg ++ Hr) (fun _ hs => ∃ q', hs = [q'] ∧ (Q items.length q' ∨ X q'))
theorem step_range {P : Program} {f : FuncId} {a : Array Value} {ds mark : List Deferred} {k : List Item} {cs : List Frame} {w w1 : World} {l : Nat} {x : Operand} {y : Value} {ps : Array Tmp} {as bd : Code}
    {Post : Value → World → Prop} (he : (Instr.enterLoop f a ps as bd none).run P w = .ok (l, mark) w1) (hx : evA a x = y) (h : NDoes P (callv y #[.func (.yield l) #[] #[]]) w1 Post) :
    ∃ v w', Post v w' ∧ Steps P (lone (mk f none a ds (.code (.rangeFunc x ps as bd) :: k)) cs w) (lone (mk f none a (mark ++ ds) (.endRangeFunc l :: k)) cs w') := by
  have hev : ∀ z, (mk f none a (mark ++ ds) (.inRangeFunc l :: k)).eval z = evA a z := fun z => eval_mk z
  have hcall : (do
      let d ← resolve (mk f none a (mark ++ ds) (.inRangeFunc l :: k)).eval { callee := .value x, args := #[.const (.func (.yield l) #[] #[])], argTypes := #[] } 0
      invoke d.target d.args : Sem Next) = callv y #[.func (.yield l) #[] #[]] := by
    simp only [resolve, hev, hx, callv]
    simp [eval_mk, evA]
  simp only [mk] at hcall
  have hfin : ∀ v, (mk f none a (mark ++ ds) (.inRangeFunc l :: k)).finish v = mk f none a (mark ++ ds) (.endRangeFunc l :: k) := fun v => by simp [Frame.finish, mk]
  unfold NDoes at h
  split at h
  · rename_i g args w' hr
    obtain ⟨e, w'', fr, ⟨v, rfl, hp⟩, hsteps, _, hleave⟩ := h (mk f none a (mark ++ ds) (.inRangeFunc l :: k) :: cs)
    have henter : step P (lone (mk f none a ds (.code (.rangeFunc x ps as bd) :: k)) cs w) =
        .next (lone (Frame.enter P g args .normal) (mk f none a (mark ++ ds) (.inRangeFunc l :: k) :: cs) w') :=
      step_lone_go (by simp [stepG, stepG.exec, stepG.apply, mk, Sem.runT_eq, he, hcall, hr, GStep.bare_after])
    refine ⟨v, w'', hp, .head henter (Steps.trans hsteps ?_)⟩
    rw [← hfin v]; exact finish_returns hleave
  · rename_i l' g tmps as' bd' w' hr
    obtain ⟨v, w'', hp, hs⟩ := h (mk f none a (mark ++ ds) (.inRangeFunc l :: k)) cs
    have henter : step P (lone (mk f none a ds (.code (.rangeFunc x ps as bd) :: k)) cs w) =
        .next (lone (Frame.round l' g tmps as' bd' .normal) (mk f none a (mark ++ ds) (.inRangeFunc l :: k) :: cs) w') :=
      step_lone_go (by simp [stepG, stepG.exec, stepG.apply, mk, Sem.runT_eq, he, hcall, hr, GStep.bare_after])
    refine ⟨v, w'', hp, .head henter ?_⟩
    rw [← hfin v]; exact hs
  · exact h.elim
theorem step_endRange {P : Program} {f : FuncId} {a : Array Value} {ds : List Deferred} {k : List Item} {cs : List Frame} {w w1 : World} {l : Nat} {j : Option Code}
    (h : (Instr.endLoop l).run P w = .ok j w1) : step P (lone (mk f none a ds (.endRangeFunc l :: k)) cs w) = .next (lone (mk f none a ds ((j.map Item.code).toList ++ k)) cs w1) :=
  step_lone_go (by simp [stepG, stepG.exec, mk, Sem.runT_eq, h, GStep.bare_after])
def RoundR {X : Type} (oc : X → List PHeap) (I : X → Prop) (J : Code → X → Prop) : Option Code → List PHeap → Prop
  | none, hs => ∃ x, I x ∧ hs = oc x
  | some j, hs => ∃ x, J j x ∧ hs = oc x
/-- A loop over a function in a frame that is no round. 'I i x': ahead of item i; 'J j x': a round has left the loop by the jump j. -/
theorem XK.range {P : Program} {f : FuncId} {N : Nat} {B : PHeap} {E : Frame → World → Prop} {X : Type} {k : List Item} {e : Env} {o ok r : List PHeap} {x : Operand} {y : Value} {ps : List Tmp} {as bd : Code} {Hg : List PHeap} (items : List (List Value))
    (oc : X → List PHeap) (I : Nat → X → Prop) (J : Code → X → Prop) (x0 : X) (o0 : List PHeap) [rst : Rest o0 o ok] (ho0 : oc x0 = o0) (h0 : I 0 x0) (hx : ev e x = some y)
    (hit : It P y items Hg) [al : AllIn Hg ok (B :: r)] (hps : ps.all (fun p => Nat.blt p N) = true) (hlen : ∀ i, i < items.length → (items.getD i []).length = ps.length)
    (round : ∀ l rec B' i x, i < items.length → I i x → XK (rcx P f N l rec B' (RoundR oc (I (i + 1)) J)) [.code as, .beginRound, .code bd] (pars ps (items.getD i []) e) (rdy l rec :: oc x) (ok ++ r))
    (cont : ∀ x, I items.length x → XK ⟨P, f, none, N, B, E⟩ k e (oc x ++ ok) r)
    (jump : ∀ j x, J j x → XK ⟨P, f, none, N, B, E⟩ (.code j :: k) e (oc x ++ ok) r) :
    XK ⟨P, f, none, N, B, E⟩ (.code (.rangeFunc x ps.toArray as bd) :: k) e o r := fun D ds a w cs ha he hD hm => by
  have hm1 : Sep (D :: (o0 ++ ok)) (B :: r) w := rst.wk.sepD hm
  let rec' : Loop := { state := .ready, pending := none, fn := f, tmps := a, params := ps.toArray, assign := as, body := bd, defers := w.heap.size }
  let l := w.heap.size + 1
  let w1 := (w.alloc (.deferred (some []))).alloc (.loop rec')
  have henter : (Instr.enterLoop f a ps.toArray as bd none).run P w = .ok (l, [{ target := .collected w.heap.size, args := #[] }]) w1 := run_enterLoop_outer f a ps.toArray as bd
  have hs1 : Sep (rdy l rec' :: sing w.heap.size (.deferred (some [])) :: D :: (o0 ++ ok)) (B :: r) w1 := by
    have := (hm1.push (.deferred (some []))).push (.loop rec')
    simp only [Array.size_push] at this
    exact this
  let D' := Go.X.join [sing w.heap.size (.deferred (some [])), D]
  have hs2 : Sep (D' :: rdy l rec' :: (o0 ++ ok)) (B :: r) w1 := by
    refine Sep.join (hs := [sing w.heap.size (.deferred (some [])), D]) (hs1.perm ?_)
    exact (List.Perm.swap _ _ _).trans ((List.Perm.swap _ _ _).cons _)
  have hD' : Marked D' (w.heap.size :: ds) := by
    refine ⟨List.nodup_cons.2 ⟨fun hmem => ?_, hD.1⟩, fun b => ?_⟩
    · have := sub_lt (hm.so D List.mem_cons_self) (b := w.heap.size) (o := .deferred (some [])) (by rw [hD.2, if_pos hmem])
      omega
    · simp only [D', Go.X.join, sing, emp, Option.or_none, hD.2 b, List.mem_cons]
      by_cases hb : b = w.heap.size
      · simp [hb]
      · simp [hb]
  have hs3 : Sep (Go.X.join (rdy l rec' :: o0) :: D' :: ok) (B :: r) w1 := Sep.join (hs := rdy l rec' :: o0) (hs2.perm (by
    simp only [List.cons_append]
    exact (List.Perm.swap _ _ _).trans (List.perm_middle.symm.cons _)))
  have hp0 : PD (rdy l rec' :: oc x0) := by
    rw [ho0]
    have hsub : (rdy l rec' :: o0).Sublist (rdy l rec' :: (o0 ++ ok)) := List.Sublist.cons_cons _ (List.sublist_append_left _ _)
    exact ⟨hs2.tail.pw.sublist hsub, fun h hh => hs2.tail.no h (hsub.mem hh)⟩
  have hpsN : ∀ p ∈ ps, p < N := fun p hp => by
    have := List.all_eq_true.1 hps p hp
    rwa [Nat.blt_eq] at this
  have hyield : ∀ i, i < items.length → ∀ q, (∃ x, I i x ∧ PD (rdy l rec' :: oc x) ∧ q = Go.X.join (rdy l rec' :: oc x)) →
      VSpec P (.func (.yield l) #[] #[]) (items.getD i []) [q] (ok ++ r) (fun v hs => ∃ b q', v = .bool b ∧ hs = [q'] ∧
        (b = true → ∃ x, I (i + 1) x ∧ PD (rdy l rec' :: oc x) ∧ q' = Go.X.join (rdy l rec' :: oc x)) ∧
        (b = false → ∃ j x, J j x ∧ PD (ovr l rec' (some j) :: oc x) ∧ q' = Go.X.join (ovr l rec' (some j) :: oc x))) := by
    rintro i hi q ⟨x, hI, hp, rfl⟩
    refine ((VSpec.round (rec := rec') (N := N) (e := e) rfl ha he hpsN (hlen i hi) (fun B' => round l rec' B' i x hi hI)).joined hp).mono ?_
    rintro v hs ⟨hs', ⟨j, hs'', rfl, rfl, hR⟩, hpw, rfl⟩
    refine ⟨_, _, rfl, rfl, ?_, ?_⟩
    · intro hj
      cases j with
      | some j => cases hj
      | none =>
        obtain ⟨x', h1, rfl⟩ := hR
        exact ⟨x', h1, hpw, rfl⟩
    · intro hj
      cases j with
      | none => cases hj
      | some j =>
        obtain ⟨x', h1, rfl⟩ := hR
        exact ⟨j, x', h1, hpw, rfl⟩
  have hN := hit _ (ok ++ r) _ _ hyield (Go.X.join (rdy l rec' :: o0)) ⟨x0, h0, hp0, by rw [ho0]⟩ (D' :: ok) (B :: r) w1 hs3 (fun h hh => by
    rcases List.mem_append.1 hh with hh | hh
    · exact orMap (al.pf h hh) (List.mem_cons_of_mem _) id
    · rcases List.mem_append.1 hh with hh | hh
      · exact .inl (List.mem_cons_of_mem _ hh)
      · exact .inr (List.mem_cons_of_mem _ hh))
  obtain ⟨v, w', ⟨hs', ⟨q', rfl, hq⟩, hS⟩, st⟩ := step_range (ds := marks ds) (k := k) (cs := cs) henter (ev_rel he hx) hN
  rcases hq with ⟨x', hI, hpw, rfl⟩ | ⟨j, x', hJ, hpw, rfl⟩
  · obtain ⟨hS2, hb⟩ := Sep.turn (y := .loop { rec' with state := .exhausted, pending := none }) (Sep.split hpw hS)
    obtain ⟨fr, w2, hE, st2⟩ := cont x' hI D' (w.heap.size :: ds) a _ cs ha he hD' (hS2.tail.perm List.perm_middle)
    exact ⟨fr, w2, hE, Steps.trans st (.head (step_endRange (run_endLoop hb (by simp))) st2)⟩
  · obtain ⟨hS2, hb⟩ := Sep.turn (y := .loop { rec' with state := .exhausted, pending := some j }) (Sep.split hpw hS)
    obtain ⟨fr, w2, hE, st2⟩ := jump j x' hJ D' (w.heap.size :: ds) a _ cs ha he hD' (hS2.tail.perm List.perm_middle)
    exact ⟨fr, w2, hE, Steps.trans st (.head (step_endRange (run_endLoop hb (by simp))) st2)⟩
end Go.X
