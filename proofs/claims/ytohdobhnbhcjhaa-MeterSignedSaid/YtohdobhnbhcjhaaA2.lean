/- A part of the proof: a small program logic, plain laws and contracts of functions, each proved by a walk through its operations. No condition but those that stand in each theorem. -/
import Derived.Test.YtohdobhnbhcjhaaA1
import Derived.Carry
import Derived.Deep.Grids
import Derived.Deep.Slices
import Derived.OpenShut
import Derived.ProofKit
import Derived.SizedLaws
/- Loops over functions: the rounds, the loop, an iterator's contract. No condition. -/
set_option linter.unusedSimpArgs false
set_option linter.unusedVariables false
namespace Go.X

/-! ### a round -/
def rdy (l : Nat) (rec : Loop) : PHeap := sing l (.loop { rec with state := .ready, pending := none })
def bsy (l : Nat) (rec : Loop) : PHeap := sing l (.loop { rec with state := .busy, pending := none })
def ovr (l : Nat) (rec : Loop) (j : Option Code) : PHeap := sing l (.loop { rec with state := if j.isNone then .ready else .done, pending := j })
theorem ovr_none (l : Nat) (rec : Loop) : ovr l rec none = rdy l rec := rfl
def Leaves : Option Code → List Item → Prop
  | none, [] => True
  | some .ret, .code .ret :: _ => True
  | some (.exit id), .code (.exit id') :: k => id = id' ∧ exitTo id k = none
  | _, _ => False
/-- The frame of a round; at its end: the jump, the heaps. -/
abbrev rcx (P : Program) (f : FuncId) (N : Nat) (l : Nat) (rec : Loop) (B : PHeap) (R : Option Code → List PHeap → Prop) : Cx :=
  { P, f, rd := some l, N, B, E := fun fr w' => ∃ j k a ds hs, fr = mk f (some l) a (marks ds) k ∧ Leaves j k ∧ R j hs ∧ Sep (bsy l rec :: hs) [B] w' }
section
variable {P : Program} {f : FuncId} {N l : Nat} {rec : Loop} {B : PHeap} {R : Option Code → List PHeap → Prop} {k : List Item} {e : Env} {o o1 r : List PHeap}
theorem Sep.turn {b : Nat} {x y : Obj} {o r : List PHeap} {w : World} (s : Sep (sing b x :: o) r w) : Sep (sing b y :: o) r (w.putObj b y) ∧ w.heap[b]? = some x := by
  have hb : w.heap[b]? = some x := s.so _ List.mem_cons_self b x (sing_self b x)
  have hlt : b < w.heap.size := (Array.getElem?_eq_some_iff.1 hb).1
  refine ⟨s.swap (fun x' hx' => ?_) (fun x' ob hx' => ?_) (fun x' hx' => ?_) rfl rfl, hb⟩
  · unfold sing at *; dsimp only at hx' ⊢; split at hx'
    · cases hx'
    · simp [*]
  · obtain ⟨rfl, rfl⟩ := sing_some hx'
    exact World.putObj_heap_same hlt
  · refine World.putObj_heap_other ?_
    rintro rfl
    rw [sing_self] at hx'; cases hx'
theorem XK.beginRound [t : Take (rdy l rec) o o1] (h : XK (rcx P f N l rec B R) k e (bsy l rec :: o1) r) : XK (rcx P f N l rec B R) (.beginRound :: k) e o r := fun D ds a w cs ha he hD hm => by
  have hp : (D :: o).Perm (rdy l rec :: D :: o1) := (t.pf.cons D).trans (List.Perm.swap _ _ _)
  obtain ⟨h1, hb⟩ := Sep.turn (y := .loop { rec with state := .busy, pending := none }) (hm.perm hp)
  obtain ⟨fr, w', hE, st⟩ := h D ds a _ cs ha he hD (h1.perm (List.Perm.swap _ _ _))
  refine ⟨fr, w', hE, .head (step_lone_go ?_) st⟩
  have hr := run_beginRound (P := P) hb rfl
  simp [stepG, stepG.exec, stepG.apply, mk, Sem.runT_eq, hr, Result.andThen, Frame.finish]
theorem XK.leave {j : Option Code} (hs : List PHeap) [p : Wk o (bsy l rec :: hs)] (hj : Leaves j k) (hR : R j hs) : XK (rcx P f N l rec B R) k e o r := fun D ds a w cs ha he hD hm =>
  ⟨_, w, ⟨j, k, a, ds, hs, rfl, hj, hR, (p.sep hm.tail).reads (fun g hg => by simp at hg; subst hg; exact List.mem_cons_self)⟩, .refl _ _⟩
theorem step_leave {j : Option Code} {a : Array Value} {ds : List Deferred} {c0 : Frame} {cs : List Frame} {w w' : World} {v : Value} (hj : Leaves j k) (hr : (Instr.endRound l j).run P w = .ok v w') :
    step P (lone (mk f (some l) a ds k) (c0 :: cs) w) = .next (lone (c0.finish v) cs w') := by
  unfold Leaves at hj
  split at hj
  · exact step_lone_go (by simp [stepG, stepG.exec, mk, Sem.runT_eq, hr, doReturn])
  · exact step_lone_go (by simp [stepG, stepG.exec, mk, Sem.runT_eq, hr, doReturn])
  · obtain ⟨rfl, hx⟩ := hj
    exact step_lone_go (by simp [stepG, stepG.exec, mk, hx, Sem.runT_eq, hr, doReturn])
  · exact hj.elim
def pars : List Tmp → List Value → Env → Env
  | p :: ps, v :: vs, e => pars ps vs ((p, some v) :: e)
  | _, _, e => e
theorem pars_rel : ∀ (ps : List Tmp) (vs : List Value) (e : Env) (a : Array Value), (∀ p ∈ ps, p < a.size) → ERel e a →
    ERel (pars ps vs e) ((ps.zip vs).foldl (fun tmps (t, x) => tmps.setIfInBounds t x) a) ∧ ((ps.zip vs).foldl (fun tmps (t, x) => tmps.setIfInBounds t x) a).size = a.size
  | [], vs, e, a, _, he => by cases vs <;> exact ⟨he, rfl⟩
  | p :: ps, [], e, a, _, he => ⟨he, rfl⟩
  | p :: ps, v :: vs, e, a, hp, he => by
    have h1 : ERel ((p, some v) :: e) (a.setIfInBounds p v) := he.put (hp p List.mem_cons_self)
    obtain ⟨h2, h3⟩ := pars_rel ps vs _ (a.setIfInBounds p v) (fun q hq => by simp; exact hp q (List.mem_cons_of_mem _ hq)) h1
    exact ⟨h2, by rw [List.zip_cons_cons, List.foldl_cons]; rw [h3]; simp⟩
/-- A call of yield is a round. -/
theorem VSpec.round {Hr hs0 : List PHeap} {ps : List Tmp} {vs : List Value} {asn bd : Code} {L0 : Nat} {a : Array Value} (hrec : rec = { state := .ready, pending := none, fn := f, tmps := a, params := ps.toArray, assign := asn, body := bd, defers := L0 })
    (hN : a.size = N) (he : ERel e a) (hps : ∀ p ∈ ps, p < N) (hlen : vs.length = ps.length)
    (h : ∀ B, XK (rcx P f N l rec B R) [.code asn, .beginRound, .code bd] (pars ps vs e) (rdy l rec :: hs0) Hr) :
    VSpec P (.func (.yield l) #[] #[]) vs (rdy l rec :: hs0) Hr (fun v hs => ∃ j hs', v = .bool (Option.isNone j) ∧ hs = ovr l rec j :: hs' ∧ R j hs') := fun o r w hs hr => by
  have hb : w.heap[l]? = some (.loop { rec with state := .ready, pending := none }) := hs.so _ List.mem_cons_self l _ (sing_self _ _)
  have hrun : (callv (.func (.yield l) #[] #[]) vs.toArray).run P w =
      .ok (.round l f ((ps.zip vs).foldl (fun tmps (t, x) => tmps.setIfInBounds t x) a) asn bd) w := by
    unfold callv
    have e1 : (Deferred.ofValue (.func (.yield l) #[] #[]) vs.toArray).run P w = .ok { target := .fn (.yield l) #[], args := #[] ++ vs.toArray } w := rfl
    rw [bind_ok e1]
    simp only [invoke, Array.empty_append]
    rw [run_yield hb (by subst hrec; simp [hlen])]
    subst hrec
    simp [List.zip_toArray, List.foldl_toArray]
  unfold NDoes
  rw [hrun]
  intro c0 cs
  obtain ⟨hr1, hr2⟩ := pars_rel ps vs e a (fun p hp => hN ▸ hps p hp) he
  obtain ⟨fr, w', ⟨j, k, a', ds, hs', rfl, hj, hR, hS⟩, st⟩ := h (hole w (rdy l rec :: hs0)) emp [] _ w (c0 :: cs) (hr2.trans hN) hr1 ⟨List.nodup_nil, fun b => by simp [emp]⟩ (frame_in hs hr).empC
  obtain ⟨hS2, hb2⟩ := Sep.turn (y := .loop { rec with state := if j.isNone then .ready else .done, pending := j }) hS
  have hend := run_endRound (P := P) j hb2
  refine ⟨_, _, ⟨_, ⟨j, hs', rfl, rfl, hR⟩, frame_out hs hS2⟩, ?_⟩
  refine Steps.trans ?_ (.one (step_leave (f := f) (a := a') (ds := marks ds) (c0 := c0) (cs := cs) hj hend))
  exact st
end

/-! ### the loop -/
theorem NDoes.mono {P : Program} {s : Sem Next} {w : World} {Q R : Value → World → Prop} (h : NDoes P s w Q) (m : ∀ v w', Q v w' → R v w') : NDoes P s w R := by
  unfold NDoes at *
  split at h
  · exact h.mono fun e w'' ⟨v, he, hv⟩ => ⟨v, he, m _ _ hv⟩
  · exact fun c0 cs => let ⟨v, w', hv, hs⟩ := h c0 cs; ⟨v, w', m _ _ hv, hs⟩
  · exact h.elim
theorem VSpec.mono {P : Program} {y : Value} {vs : List Value} {Hm Hr : List PHeap} {R R' : Value → List PHeap → Prop} (h : VSpec P y vs Hm Hr R) (m : ∀ v hs, R v hs → R' v hs) : VSpec P y vs Hm Hr R' :=
  fun o r w hs hr => (h o r w hs hr).mono fun v _ ⟨hs', hR, hS⟩ => ⟨hs', m v hs' hR, hS⟩
theorem VSpec.joined {P : Program} {y : Value} {vs : List Value} {Hm Hr : List PHeap} {R : Value → List PHeap → Prop} (h : VSpec P y vs Hm Hr R) (hp : PD Hm) :
    VSpec P y vs [join Hm] Hr (fun v hs => ∃ hs', R v hs' ∧ PD hs' ∧ hs = [join hs']) := fun o r w hs hr =>
  (h o r w (Sep.split hp hs) hr).mono fun v _ ⟨hs', hR, hS⟩ => ⟨_, ⟨hs', hR, ⟨hS.left.pw, hS.left.no⟩, rfl⟩, hS.join⟩
/-- An iterator: it yields the items, one after the other, till a call of yield answers false. -/
def It (P : Program) (y : Value) (items : List (List Value)) (Hg : List PHeap) : Prop :=
  ∀ (f : Value) (Hr : List PHeap) (Q : Nat → PHeap → Prop) (X : PHeap → Prop),
    (∀ i, i < items.length → ∀ q, Q i q → VSpec P f (items.getD i []) [q] Hr (fun v hs => ∃ b q', v = .bool b ∧ hs = [q'] ∧ (b = true → Q (i + 1) q') ∧ (b = false → X q'))) →
    ∀ q, Q 0 q → VSpec P y [f] [q] (Hg ++ Hr) (fun _ hs => ∃ q', hs = [q'] ∧ (Q items.length q' ∨ X q'))
theorem step_range {P : Program} {f : FuncId} {a : Array Value} {ds mark : List Deferred} {k : List Item} {cs : List Frame} {w w1 : World} {l : Nat} {x : Operand} {y : Value} {ps : Array Tmp} {asn bd : Code}
    {Post : Value → World → Prop} (he : (Instr.enterLoop f a ps asn bd none).run P w = .ok (l, mark) w1) (hx : evA a x = y) (h : NDoes P (callv y #[.func (.yield l) #[] #[]]) w1 Post) :
    ∃ v w', Post v w' ∧ Steps P (lone (mk f none a ds (.code (.rangeFunc x ps asn bd) :: k)) cs w) (lone (mk f none a (mark ++ ds) (.endRangeFunc l :: k)) cs w') := by
  have hev : ∀ z, (mk f none a (mark ++ ds) (.inRangeFunc l :: k)).eval z = evA a z := fun z => eval_mk z
  have hcall : (do
      let d ← resolve (mk f none a (mark ++ ds) (.inRangeFunc l :: k)).eval { callee := .value x, args := #[.const (.func (.yield l) #[] #[])], argTypes := #[] } 0
      invoke d.target d.args : Sem Next) = callv y #[.func (.yield l) #[] #[]] := by
    simp only [resolve, hev, hx, callv]
    simp [eval_mk, evA]
  simp only [mk] at hcall
  have hfin : ∀ v, (mk f none a (mark ++ ds) (.inRangeFunc l :: k)).finish v = mk f none a (mark ++ ds) (.endRangeFunc l :: k) := fun v => by simp [Frame.finish, mk]
  unfold NDoes at h
  split at h
  · rename_i g args w' hr
    obtain ⟨e, w'', fr, ⟨v, rfl, hp⟩, hsteps, _, hleave⟩ := h (mk f none a (mark ++ ds) (.inRangeFunc l :: k) :: cs)
    have henter : step P (lone (mk f none a ds (.code (.rangeFunc x ps asn bd) :: k)) cs w) =
        .next (lone (Frame.enter P g args .normal) (mk f none a (mark ++ ds) (.inRangeFunc l :: k) :: cs) w') :=
      step_lone_go (by simp [stepG, stepG.exec, stepG.apply, mk, Sem.runT_eq, he, hcall, hr, GStep.bare_after])
    refine ⟨v, w'', hp, .head henter (Steps.trans hsteps ?_)⟩
    rw [← hfin v]; exact finish_returns hleave
  · rename_i l' g tmps asn' bd' w' hr
    obtain ⟨v, w'', hp, hs⟩ := h (mk f none a (mark ++ ds) (.inRangeFunc l :: k)) cs
    have henter : step P (lone (mk f none a ds (.code (.rangeFunc x ps asn bd) :: k)) cs w) =
        .next (lone (Frame.round l' g tmps asn' bd' .normal) (mk f none a (mark ++ ds) (.inRangeFunc l :: k) :: cs) w') :=
      step_lone_go (by simp [stepG, stepG.exec, stepG.apply, mk, Sem.runT_eq, he, hcall, hr, GStep.bare_after])
    refine ⟨v, w'', hp, .head henter ?_⟩
    rw [← hfin v]; exact hs
  · exact h.elim
theorem step_endRange {P : Program} {f : FuncId} {a : Array Value} {ds : List Deferred} {k : List Item} {cs : List Frame} {w w1 : World} {l : Nat} {j : Option Code}
    (h : (Instr.endLoop l).run P w = .ok j w1) : step P (lone (mk f none a ds (.endRangeFunc l :: k)) cs w) = .next (lone (mk f none a ds ((j.map Item.code).toList ++ k)) cs w1) :=
  step_lone_go (by simp [stepG, stepG.exec, mk, Sem.runT_eq, h, GStep.bare_after])
def RoundR {X : Type} (oc : X → List PHeap) (I : X → Prop) (J : Code → X → Prop) : Option Code → List PHeap → Prop
  | none, hs => ∃ x, I x ∧ hs = oc x
  | some j, hs => ∃ x, J j x ∧ hs = oc x
/-- A loop over a function in a frame that is no round. 'I i x': ahead of item i; 'J j x': a round has left the loop by the jump j. -/
theorem XK.range {P : Program} {f : FuncId} {N : Nat} {B : PHeap} {E : Frame → World → Prop} {X : Type} {k : List Item} {e : Env} {o ok r : List PHeap} {x : Operand} {y : Value} {ps : List Tmp} {asn bd : Code} {Hg : List PHeap} (items : List (List Value))
    (oc : X → List PHeap) (I : Nat → X → Prop) (J : Code → X → Prop) (x0 : X) (o0 : List PHeap) [rst : Rest o0 o ok] (ho0 : oc x0 = o0) (h0 : I 0 x0) (hx : ev e x = some y)
    (hit : It P y items Hg) [al : AllIn Hg ok (B :: r)] (hps : ps.all (fun p => Nat.blt p N) = true) (hlen : ∀ i, i < items.length → (items.getD i []).length = ps.length)
    (round : ∀ l rec B' i x, i < items.length → I i x → XK (rcx P f N l rec B' (RoundR oc (I (i + 1)) J)) [.code asn, .beginRound, .code bd] (pars ps (items.getD i []) e) (rdy l rec :: oc x) (ok ++ r))
    (cont : ∀ x, I items.length x → XK ⟨P, f, none, N, B, E⟩ k e (oc x ++ ok) r)
    (jump : ∀ j x, J j x → XK ⟨P, f, none, N, B, E⟩ (.code j :: k) e (oc x ++ ok) r) :
    XK ⟨P, f, none, N, B, E⟩ (.code (.rangeFunc x ps.toArray asn bd) :: k) e o r := fun D ds a w cs ha he hD hm => by
  have hm1 : Sep (D :: (o0 ++ ok)) (B :: r) w := rst.wk.sepD hm
  let rec' : Loop := { state := .ready, pending := none, fn := f, tmps := a, params := ps.toArray, assign := asn, body := bd, defers := w.heap.size }
  let l := w.heap.size + 1
  let w1 := (w.alloc (.deferred (some []))).alloc (.loop rec')
  have henter : (Instr.enterLoop f a ps.toArray asn bd none).run P w = .ok (l, [{ target := .collected w.heap.size, args := #[] }]) w1 := run_enterLoop_outer f a ps.toArray asn bd
  have hs1 : Sep (rdy l rec' :: sing w.heap.size (.deferred (some [])) :: D :: (o0 ++ ok)) (B :: r) w1 := by
    have := (hm1.push (.deferred (some []))).push (.loop rec')
    simp only [Array.size_push] at this
    exact this
  let D' := Go.X.join [sing w.heap.size (.deferred (some [])), D]
  have hs2 : Sep (D' :: rdy l rec' :: (o0 ++ ok)) (B :: r) w1 := by
    refine Sep.join (hs := [sing w.heap.size (.deferred (some [])), D]) (hs1.perm ?_)
    exact (List.Perm.swap _ _ _).trans ((List.Perm.swap _ _ _).cons _)
  have hD' : Marked D' (w.heap.size :: ds) := by
    refine ⟨List.nodup_cons.2 ⟨fun hmem => ?_, hD.1⟩, fun b => ?_⟩
    · have := sub_lt (hm.so D List.mem_cons_self) (b := w.heap.size) (o := .deferred (some [])) (by rw [hD.2, if_pos hmem])
      omega
    · simp only [D', Go.X.join, sing, emp, Option.or_none, hD.2 b, List.mem_cons]
      by_cases hb : b = w.heap.size
      · simp [hb]
      · simp [hb]
  have hs3 : Sep (Go.X.join (rdy l rec' :: o0) :: D' :: ok) (B :: r) w1 := Sep.join (hs := rdy l rec' :: o0) (hs2.perm (by
    simp only [List.cons_append]
    exact (List.Perm.swap _ _ _).trans (List.perm_middle.symm.cons _)))
  have hp0 : PD (rdy l rec' :: oc x0) := by
    rw [ho0]
    have hsub : (rdy l rec' :: o0).Sublist (rdy l rec' :: (o0 ++ ok)) := List.Sublist.cons_cons _ (List.sublist_append_left _ _)
    exact ⟨hs2.tail.pw.sublist hsub, fun h hh => hs2.tail.no h (hsub.mem hh)⟩
  have hpsN : ∀ p ∈ ps, p < N := fun p hp => by
    have := List.all_eq_true.1 hps p hp
    rwa [Nat.blt_eq] at this
  have hyield : ∀ i, i < items.length → ∀ q, (∃ x, I i x ∧ PD (rdy l rec' :: oc x) ∧ q = Go.X.join (rdy l rec' :: oc x)) →
      VSpec P (.func (.yield l) #[] #[]) (items.getD i []) [q] (ok ++ r) (fun v hs => ∃ b q', v = .bool b ∧ hs = [q'] ∧
        (b = true → ∃ x, I (i + 1) x ∧ PD (rdy l rec' :: oc x) ∧ q' = Go.X.join (rdy l rec' :: oc x)) ∧
        (b = false → ∃ j x, J j x ∧ PD (ovr l rec' (some j) :: oc x) ∧ q' = Go.X.join (ovr l rec' (some j) :: oc x))) := by
    rintro i hi q ⟨x, hI, hp, rfl⟩
    refine ((VSpec.round (rec := rec') (N := N) (e := e) rfl ha he hpsN (hlen i hi) (fun B' => round l rec' B' i x hi hI)).joined hp).mono ?_
    rintro v hs ⟨hs', ⟨j, hs'', rfl, rfl, hR⟩, hpw, rfl⟩
    refine ⟨_, _, rfl, rfl, ?_, ?_⟩
    · intro hj
      cases j with
      | some j => cases hj
      | none =>
        obtain ⟨x', h1, rfl⟩ := hR
        exact ⟨x', h1, hpw, rfl⟩
    · intro hj
      cases j with
      | none => cases hj
      | some j =>
        obtain ⟨x', h1, rfl⟩ := hR
        exact ⟨j, x', h1, hpw, rfl⟩
  have hN := hit _ (ok ++ r) _ _ hyield (Go.X.join (rdy l rec' :: o0)) ⟨x0, h0, hp0, by rw [ho0]⟩ (D' :: ok) (B :: r) w1 hs3 (fun h hh => by
    rcases List.mem_append.1 hh with hh | hh
    · exact orMap (al.pf h hh) (List.mem_cons_of_mem _) id
    · rcases List.mem_append.1 hh with hh | hh
      · exact .inl (List.mem_cons_of_mem _ hh)
      · exact .inr (List.mem_cons_of_mem _ hh))
  obtain ⟨v, w', ⟨hs', ⟨q', rfl, hq⟩, hS⟩, st⟩ := step_range (ds := marks ds) (k := k) (cs := cs) henter (ev_rel he hx) hN
  rcases hq with ⟨x', hI, hpw, rfl⟩ | ⟨j, x', hJ, hpw, rfl⟩
  · obtain ⟨hS2, hb⟩ := Sep.turn (y := .loop { rec' with state := .exhausted, pending := none }) (Sep.split hpw hS)
    obtain ⟨fr, w2, hE, st2⟩ := cont x' hI D' (w.heap.size :: ds) a _ cs ha he hD' (hS2.tail.perm List.perm_middle)
    exact ⟨fr, w2, hE, Steps.trans st (.head (step_endRange (run_endLoop hb (by simp))) st2)⟩
  · obtain ⟨hS2, hb⟩ := Sep.turn (y := .loop { rec' with state := .exhausted, pending := some j }) (Sep.split hpw hS)
    obtain ⟨fr, w2, hE, st2⟩ := jump j x' hJ D' (w.heap.size :: ds) a _ cs ha he hD' (hS2.tail.perm List.perm_middle)
    exact ⟨fr, w2, hE, Steps.trans st (.head (step_endRange (run_endLoop hb (by simp))) st2)⟩
end Go.X

/- Bits of unsigned numbers; copies between slices. No condition. -/
set_option linter.unusedSimpArgs false
set_option linter.unusedVariables false
namespace Go.X
section
variable {P : Program} {ops : Array Oper} {e : Env} {o r : List PHeap} {d : Option Tmp} {ty : TypeId} {pos : String} {aft : Array Edge}
theorem wrapu64 {n : Int} (h : 0 ≤ n ∧ n < 18446744073709551616) : IntKind.u64.wrap n = n := by
  have : IntKind.u64.wrap n = n % 18446744073709551616 := rfl
  rw [this]; omega
theorem Q.addU {t t2 : TypeId} {x y : Operand} {m n : Int} (hx : ev e x = some (.int .u64 m)) (hy : ev e y = some (.int .u64 n)) (h : 0 ≤ m + n ∧ m + n < 18446744073709551616) :
    Quiet P ops ⟨d, .binOp .add t x y t2, ty, pos, aft, none⟩ e o r (.int .u64 (m + n)) := by
  have := Q.addW (P := P) (ops := ops) (o := o) (r := r) (d := d) (ty := ty) (pos := pos) (aft := aft) (t := t) (t2 := t2) hx hy
  rwa [wrapu64 h] at this
theorem Q.mulU {t t2 : TypeId} {x y : Operand} {m n : Int} (hx : ev e x = some (.int .u64 m)) (hy : ev e y = some (.int .u64 n)) (h : 0 ≤ m * n ∧ m * n < 18446744073709551616) :
    Quiet P ops ⟨d, .binOp .mul t x y t2, ty, pos, aft, none⟩ e o r (.int .u64 (m * n)) := by
  have := Q.mulW (P := P) (ops := ops) (o := o) (r := r) (d := d) (ty := ty) (pos := pos) (aft := aft) (t := t) (t2 := t2) hx hy
  rwa [wrapu64 h] at this
/-- & with 2^32 - 1 -/
theorem Q.mask32 {t t2 : TypeId} {x y : Operand} {m : Int} (hx : ev e x = some (.int .u64 m)) (hy : ev e y = some (.int .u64 4294967295)) (h : 0 ≤ m ∧ m < 18446744073709551616) :
    Quiet P ops ⟨d, .binOp .and t x y t2, ty, pos, aft, none⟩ e o r (.int .u64 (m % 4294967296)) := Q.bin hx hy fun w => by
  obtain ⟨n, rfl⟩ := Int.eq_ofNat_of_zero_le h.1
  have hn : n < 18446744073709551616 := by omega
  have e1 : binOp .and t (.int .u64 (n : Int)) (.int .u64 4294967295) = Op.intBits .and .u64 (n : Int) 4294967295 := by simp [binOp]
  rw [e1]
  have e2 : (BitVec.ofInt 64 (n : Int) &&& BitVec.ofInt 64 4294967295).toNat = n % 4294967296 := by
    have e3 : BitVec.ofInt 64 (4294967295 : Int) = BitVec.ofNat 64 (2 ^ 32 - 1) := by decide
    rw [e3, BitVec.ofInt_natCast, BitVec.toNat_and, BitVec.toNat_ofNat, BitVec.toNat_ofNat, Nat.mod_eq_of_lt hn, Nat.mod_eq_of_lt (show 2 ^ 32 - 1 < 2 ^ 64 by decide), Nat.and_two_pow_sub_one_eq_mod]
  have e4 : Op.intBits .and .u64 (n : Int) 4294967295 = (pure (.int .u64 (IntKind.u64.wrap ((BitVec.ofInt 64 (n : Int) &&& BitVec.ofInt 64 4294967295).toNat : Int))) : Sem Value) := rfl
  rw [e4, e2, wrapu64 (by omega)]
  simp
theorem Q.shr32 {t t2 : TypeId} {x y : Operand} {k' : IntKind} {m : Int} (hx : ev e x = some (.int .u64 m)) (hy : ev e y = some (.int k' 32)) :
    Quiet P ops ⟨d, .binOp .shr t x y t2, ty, pos, aft, none⟩ e o r (.int .u64 (m / 4294967296)) := Q.bin hx hy fun w => by
  have e1 : binOp .shr t (.int .u64 m) (.int k' 32) = Op.shift .shr .u64 m k' 32 := by simp [binOp]
  rw [e1]
  have e2 : Op.shift .shr .u64 m k' 32 = (pure (.int .u64 (m.fdiv (2 ^ 32))) : Sem Value) := rfl
  rw [e2, Int.fdiv_eq_ediv_of_nonneg _ (by decide)]
  rfl
end

/-! ### copies -/
theorem flat_take {α : Type} {enc : α → List Value} {sz : Nat} (he : ∀ x, (enc x).length = sz) : ∀ (xs : List α) (i : Nat), (xs.take i).flatMap enc = (xs.flatMap enc).take (i * sz)
  | [], i => by simp
  | x :: xs, 0 => by simp
  | x :: xs, i + 1 => by
    rw [List.take_succ_cons, List.flatMap_cons, List.flatMap_cons, flat_take he xs i, Nat.add_mul, Nat.one_mul, List.take_append, he]
    rw [List.take_of_length_le (l := enc x) (by rw [he]; omega), show i * sz + sz - sz = i * sz by omega]
theorem flat_drop {α : Type} {enc : α → List Value} {sz : Nat} (he : ∀ x, (enc x).length = sz) : ∀ (xs : List α) (i : Nat), (xs.drop i).flatMap enc = (xs.flatMap enc).drop (i * sz)
  | [], i => by simp
  | x :: xs, 0 => by simp
  | x :: xs, i + 1 => by
    rw [List.drop_succ_cons, List.flatMap_cons, flat_drop he xs i, Nat.add_mul, Nat.one_mul, List.drop_append, he]
    rw [List.drop_of_length_le (l := enc x) (by rw [he]; omega), show i * sz + sz - sz = i * sz by omega, List.nil_append]
def tailv (v : Value) (sz i : Nat) : Value := match v with
  | .slice ad n c => .slice (if c = i then ad else ad.map (·.add (i * sz))) (n - i) (c - i)
  | v => v
def splice {α : Type} (xs ys : List α) (i : Nat) : List α := xs.take i ++ ys.take (min ys.length (xs.length - i)) ++ xs.drop (i + min ys.length (xs.length - i))
section
variable {P : Program} {ops : Array Oper} {e : Env} {o r : List PHeap} {d : Option Tmp} {ty : TypeId} {pos : String} {aft : Array Edge}
variable {α : Type} {enc : α → List Value} {sz : Nat} {h : PHeap} {xs : List α} {v : Value}
theorem tailv_zero {T : TypeId} [s : OArr v enc sz T h xs] : tailv v sz 0 = v := by
  obtain ⟨he, hm, ⟨rfl, rfl, rfl⟩ | ⟨b, c, cs, rfl, rfl, hle, hlen, ht⟩⟩ := s.pf
  · rfl
  · simp only [tailv, Nat.zero_mul, Nat.sub_zero, Option.map_some, add_none]
    split <;> simp
theorem Q.tail {t el : TypeId} [u : Und P t (.slice el)] [z : TySize P el sz] {x : Operand} {lo : Option Operand} {i : Nat} (hx : ev e x = some v) [s : Arr v enc sz h xs] (hlo : Bd e 0 lo i) (hi : i ≤ xs.length) :
    Quiet P ops ⟨d, .slice t x lo none none, ty, pos, aft, none⟩ e o r (tailv v sz i) := .mk fun a w he _ => by
  obtain ⟨henc, hm, ad, c, rfl, hle, hnn, hc⟩ := s.pf
  have hrun : (Instr.sliceAt t (.slice ad xs.length c) (lo.map (evA a)) none none).run P w =
      .ok (.slice (if c = i then ad else ad.map (·.add (i * sz))) (xs.length - i) (c - i)) w := by
    unfold Instr.sliceAt
    rw [bind_ok (u.pf w)]
    simp only
    unfold Instr.slice
    rw [bind_ok (u.pf w)]
    simp only
    have hb : (Instr.sliceBounds true xs.length c (lo.map (evA a)) none none).run P w = .ok (i, xs.length, c) w := by
      unfold Instr.sliceBounds
      simp only [pure_bind]
      rcases Bd.run (P := P) he hlo xs.length .sliceB (by omega) w with ⟨h3, h4⟩ | ⟨v3, h3, h4⟩
      · rw [h3, h4]; rfl
      · rw [h3]
        simp only [Option.isSome_none, Bool.false_eq_true, if_false]
        rw [bind_ok h4]; rfl
    rw [bind_ok hb]
    simp only
    rw [bind_ok (z.pf w)]
    rfl
  simp only [execOp, ev_rel he hx, Option.map_none]
  exact run_val hrun
theorem run_copy {t0 t1 ty el : TypeId} [u : Und P t0 (.slice el)] [z : TySize P el sz] {v2 : Value} {h2 : PHeap} {ys : List α} [s2 : Arr v2 enc sz h2 ys] {w w' : World} (hsub2 : sub h2 w) {ad : Option Addr} {m c : Nat}
    (hst : ((match ad with | some a => storeCells a ((ys.take (min ys.length m)).flatMap enc) 0 | none => pure () : Sem Unit)).run P w = .ok () w') :
    (Builtin.copy_ #[t0, t1] ty #[.slice ad m c, v2]).run P w = .ok (.int .i64 ((min ys.length m : Nat) : Int)) w' := by
  obtain ⟨henc2, hm2, a2, c2, hv2, hle2, hnn2, hc2⟩ := s2.pf
  have hlen2 : (Builtin.lenOf v2).run P w = .ok ys.length w := by rw [hv2]; rfl
  have hcells : (Builtin.firstCells sz (min ys.length m) v2).run P w = .ok ((ys.take (min ys.length m)).flatMap enc).toArray w := s2.cells hsub2 _ (by omega)
  unfold Builtin.copy_
  simp only [List.getElem?_toArray, List.getElem?_cons_zero, List.getElem?_cons_succ]
  rw [bind_ok (u.pf w)]
  simp only
  rw [bind_ok hlen2, bind_ok (z.pf w)]
  have hcells' : (Builtin.firstCells sz (Nat.min ys.length m) v2).run P w = .ok ((ys.take (min ys.length m)).flatMap enc).toArray w := hcells
  rw [bind_ok hcells']
  cases ad with
  | none =>
    simp only at hst ⊢
    have : w' = w := by
      have h1 : (pure () : Sem Unit).run P w = .ok () w := rfl
      rw [h1] at hst
      injection hst with h2 h3
      exact h3.symm
    subst this
    rfl
  | some a =>
    simp only at hst ⊢
    rw [bind_ok hst]
    rfl
theorem Stp0.copy {t0 t1 el T : TypeId} [u : Und P t0 (.slice el)] [z : TySize P el sz] {x y : Operand} {vd v2 : Value} {h2 : PHeap} {ys : List α} {i : Nat} {o1 : List PHeap} (hx : ev e x = some vd) (hd : vd = tailv v sz i) (hy : ev e y = some v2)
    [s : OArr v enc sz T h xs] [tk : Take h o o1] [s2 : Arr v2 enc sz h2 ys] [m : InM h2 o r] (hi : i ≤ xs.length) :
    Stp0 P ops ⟨d, .call ⟨.builtin .copy, #[x, y], #[t0, t1]⟩, ty, pos, aft, none⟩ e o r (fun v' o2 => ∃ h', v' = .int .i64 ((min ys.length (xs.length - i) : Nat) : Int) ∧ OArr v enc sz T h' (splice xs ys i) ∧ o2 = h' :: o1) := fun a w he hs => by
  subst hd
  have hs1 := hs.perm tk.pf
  have hsub2 : sub h2 w := m.pf.elim (hs.so _) (hs.sr _)
  have hx' := ev_rel he hx
  have hy' := ev_rel he hy
  obtain ⟨henc2, hm2, a2, c2, hv2, hle2, hnn2, hc2⟩ := s2.pf
  have hexec : ∀ w', (Builtin.copy_ #[t0, t1] ty #[tailv v sz i, v2]).run P w = .ok (.int .i64 ((min ys.length (xs.length - i) : Nat) : Int)) w' →
      (execOp (evA a) (⟨d, .call ⟨.builtin .copy, #[x, y], #[t0, t1]⟩, ty, pos, aft, none⟩ : Oper)).run P w = .ok (.value (.int .i64 ((min ys.length (xs.length - i) : Nat) : Int))) w' := by
    intro w' hw'
    simp only [execOp, resolve, List.map_toArray, List.map_cons, List.map_nil, hx', hy']
    exact run_val hw'
  obtain ⟨henc, hm, ⟨rfl, rfl, rfl⟩ | ⟨b, c, cs, rfl, rfl, hle, hlen, ht⟩⟩ := s.pf
  · unfold Does
    rw [if_pos (by simp [Region.wanted]), hexec w (by
      have hi0 : i = 0 := by simpa using hi
      subst hi0
      have := run_copy (t0 := t0) (t1 := t1) (ty := ty) (el := el) (s2 := s2) (w := w) (w' := w) (P := P) hsub2 (ad := none) (m := 0) (c := 0) rfl
      simpa [tailv] using this)]
    refine ⟨emp :: o1, ⟨emp, rfl, ?_, rfl⟩, hs1⟩
    simp [splice]
    exact s
  · have hn' : min ys.length (xs.length - i) ≤ xs.length - i := Nat.min_le_right _ _
    have hny : min ys.length (xs.length - i) ≤ ys.length := Nat.min_le_left _ _
    generalize hne : min ys.length (xs.length - i) = n' at *
    have hZ : ((ys.take n').flatMap enc).length = n' * sz := by rw [flat_len henc, List.length_take, Nat.min_eq_left hny]
    have hmul1 : i * sz + n' * sz ≤ xs.length * sz := by rw [← Nat.add_mul]; exact Nat.mul_le_mul_right _ (by omega)
    have hmul2 : xs.length * sz ≤ c * sz := Nat.mul_le_mul_right _ hle
    have hh : w.heap[b]? = some (.cells cs.toArray T (0, 0)) := hs1.so _ List.mem_cons_self b _ (sing_self _ _)
    have hones : ∀ v ∈ (ys.take n').flatMap enc, one v = true := fun v hv => by
      obtain ⟨y, hy1, hy2⟩ := List.mem_flatMap.1 hv
      exact hm2.2 y (List.mem_of_mem_take hy1) v hy2
    obtain ⟨w', h1, h2, h3, h4⟩ := run_storeCells (P := P) (b := b) (k := i * sz) (T := T) ((ys.take n').flatMap enc) 0 w cs hones hh (by omega)
    have hst : ((match (if c = i then some (⟨b, 0, none⟩ : Addr) else (some (⟨b, 0, none⟩ : Addr)).map (·.add (i * sz))) with | some a => storeCells a ((ys.take n').flatMap enc) 0 | none => pure () : Sem Unit)).run P w = .ok () w' := by
      by_cases hci : c = i
      · rw [if_pos hci]
        have hn0 : n' = 0 := by omega
        subst hn0
        simp only [List.take_zero, List.flatMap_nil] at h1 ⊢
        exact h1
      · rw [if_neg hci]
        simp only [Option.map_some, add_none, Nat.zero_add]
        exact h1
    unfold Does
    rw [if_pos (by simp [Region.wanted]), hexec w' (by
      have := run_copy (t0 := t0) (t1 := t1) (ty := ty) (el := el) (s2 := s2) (w := w) (w' := w') (P := P) hsub2 (ad := (if c = i then some (⟨b, 0, none⟩ : Addr) else (some (⟨b, 0, none⟩ : Addr)).map (·.add (i * sz)))) (m := xs.length - i) (c := c - i) (by rw [hne]; exact hst)
      rw [hne] at this
      exact this)]
    simp only [Nat.add_zero, hZ] at h2
    refine ⟨blk b (cs.take (i * sz) ++ (ys.take n').flatMap enc ++ cs.drop (i * sz + n' * sz)) T :: o1, ⟨_, rfl, ?_, rfl⟩, Sep.swap hs1 ?_ ?_ ?_ rfl h4⟩
    · have hlen' : (splice xs ys i).length = xs.length := by
        unfold splice; rw [hne]; simp only [List.length_append, List.length_take, List.length_drop]; omega
      refine ⟨henc, ⟨by rw [hlen']; exact hm.1, fun y hy cc hcc => ?_⟩, .inr ⟨b, c, _, by rw [hlen'], rfl, by rw [hlen']; exact hle, ?_, ?_⟩⟩
      · unfold splice at hy
        rcases List.mem_append.1 hy with hy | hy
        · rcases List.mem_append.1 hy with hy | hy
          · exact hm.2 y (List.mem_of_mem_take hy) cc hcc
          · exact hm2.2 y (List.mem_of_mem_take hy) cc hcc
        · exact hm.2 y (List.mem_of_mem_drop hy) cc hcc
      · simp only [List.length_append, List.length_take, List.length_drop, hZ]; omega
      · rw [hlen']
        unfold splice
        rw [hne, List.flatMap_append, List.flatMap_append, flat_take henc xs, flat_drop henc xs, ← ht, Nat.add_mul]
        rw [List.take_append, List.take_append]
        simp only [List.length_append, List.length_take, hZ]
        rw [List.take_of_length_le (l := cs.take (i * sz)) (by rw [List.length_take]; omega), List.take_of_length_le (l := (ys.take n').flatMap enc) (by rw [hZ]; omega)]
        congr 1
        · congr 1
          rw [List.take_take, Nat.min_eq_left (by omega)]
        · rw [List.drop_take]
          congr 1
          omega
    · exact fun x hx => none_blk (blk_none hx)
    · intro x ob hb
      obtain ⟨rfl, rfl⟩ := sing_some hb
      exact h2
    · exact fun x hx => h3 x (blk_none hx)
theorem Stp.copy {t0 t1 el T : TypeId} [u : Und P t0 (.slice el)] [z : TySize P el sz] {x y : Operand} {vd v2 : Value} {h2 : PHeap} {ys : List α} {i : Nat} {o1 : List PHeap} (hx : ev e x = some vd) (hd : vd = tailv v sz i) (hy : ev e y = some v2)
    [s : OArr v enc sz T h xs] [tk : Take h o o1] [s2 : Arr v2 enc sz h2 ys] [m : InM h2 o r] (hi : i ≤ xs.length) :
    Stp P ops ⟨d, .call ⟨.builtin .copy, #[x, y], #[t0, t1]⟩, ty, pos, aft, none⟩ e o r (fun v' o2 => ∃ h', v' = .int .i64 ((min ys.length (xs.length - i) : Nat) : Int) ∧ OArr v enc sz T h' (splice xs ys i) ∧ o2 = h' :: o1) := fun D a w he hs =>
  (Stp0.copy (tk := tk.more D) (m := m.more D) hx hd hy hi a w he hs).mono fun v w' ⟨o2, ⟨h', h1, h2, h3⟩, hs'⟩ => ⟨o2, ⟨h' :: o1, ⟨h', h1, h2, rfl⟩, by rw [h3]; exact List.Perm.swap _ _ _⟩, hs'⟩
end
section
variable {c : Cx} {ops : Array Oper} {rest : List Oper} {k : List Item} {e : Env} {o r : List PHeap} {d : Nat} {ty : TypeId} {pos : String} {aft : Array Edge}
variable {α : Type} {enc : α → List Value} {sz : Nat} {h : PHeap} {xs : List α} {v : Value}
theorem XO.copy {t0 t1 el T : TypeId} [u : Und c.P t0 (.slice el)] [z : TySize c.P el sz] {x y : Operand} {vd v2 : Value} {h2 : PHeap} {ys : List α} {i : Nat} {o1 : List PHeap} (hx : ev e x = some vd) (hd : vd = tailv v sz i) (hy : ev e y = some v2)
    [s : OArr v enc sz T h xs] [tk : Take h o o1] [s2 : Arr v2 enc sz h2 ys] [m : InM h2 o (c.B :: r)] (hi : i ≤ xs.length)
    (hn : ∀ h', OArr v enc sz T h' (splice xs ys i) → XO c ops rest k ((d, some (.int .i64 ((min ys.length (xs.length - i) : Nat) : Int))) :: e) (h' :: o1) r) :
    XO c ops (⟨some d, .call ⟨.builtin .copy, #[x, y], #[t0, t1]⟩, ty, pos, aft, none⟩ :: rest) k e o r :=
  XO.s (Stp.copy hx hd hy hi) fun v' o2 ⟨h', h1, h2, h3⟩ => by subst h1 h3; exact hn h' h2
variable {fl : List Nat} {f : List PHeap} {i0 : Nat} {bb : Bool} {tt uu : Plan}
theorem XT.copy {t0 t1 el T : TypeId} [u : Und c.P t0 (.slice el)] [z : TySize c.P el sz] {x y : Operand} {vd v2 : Value} {h2 : PHeap} {ys : List α} {i : Nat} {o1 : List PHeap}
    (hi0 : ops[i0]? = some ⟨some d, .call ⟨.builtin .copy, #[x, y], #[t0, t1]⟩, ty, pos, aft, none⟩) (hok : okOper c.N ⟨some d, .call ⟨.builtin .copy, #[x, y], #[t0, t1]⟩, ty, pos, aft, none⟩ = true)
    (hx : ev e x = some vd) (hd : vd = tailv v sz i) (hy : ev e y = some v2)
    [s : OArr v enc sz T h xs] [tk : Take h o o1] [s2 : Arr v2 enc sz h2 ys] [m : InM h2 o (c.B :: r)] (hi : i ≤ xs.length)
    (hn : ∀ h', OArr v enc sz T h' (splice xs ys i) → Keeps bb f (h' :: o1) ∧ XT c ops fl f k r tt ((d, some (.int .i64 ((min ys.length (xs.length - i) : Nat) : Int))) :: e) (h' :: o1)) (hu : XT c ops fl f k r uu e o) :
    XT c ops fl f k r (.br i0 bb tt uu) e o :=
  XT.s hi0 hok (Stp.copy hx hd hy hi) (fun v' o2 ⟨h', h1, h2, h3⟩ => by subst h1 h3; exact hn h' h2) hu
end
def cutv (v : Value) (sz i j : Nat) : Value := match v with
  | .slice ad n c => .slice (if c = i then ad else ad.map (·.add (i * sz))) (j - i) (c - i)
  | v => v
section
variable {P : Program} {ops : Array Oper} {e : Env} {o r : List PHeap} {d : Option Tmp} {ty : TypeId} {pos : String} {aft : Array Edge}
variable {α : Type} {enc : α → List Value} {sz : Nat} {h : PHeap} {xs : List α} {v : Value}
theorem Arr.cut (s : Arr v enc sz h xs) {i j : Nat} (hij : i ≤ j) (hj : j ≤ xs.length) : Arr (cutv v sz i j) enc sz h ((xs.drop i).take (j - i)) := ⟨by
  obtain ⟨henc, hm, ad, c, rfl, hle, hnn, hc⟩ := s.pf
  have hl : ((xs.drop i).take (j - i)).length = j - i := by simp; omega
  refine ⟨henc, ⟨by omega, fun y hy cc hcc => hm.2 y (List.mem_of_mem_drop (List.mem_of_mem_take hy)) cc hcc⟩, (if c = i then ad else ad.map (·.add (i * sz))), c - i, by rw [hl]; rfl, by omega, ?_, fun hp => ?_⟩
  · intro hnone
    split at hnone
    · rw [hnn hnone]; omega
    · cases ad with
      | none => rw [hnn rfl]; omega
      | some a => simp at hnone
  · obtain ⟨b, k, cs, T, fr, rfl, hb, hcs⟩ := hc (by omega)
    refine ⟨b, k + i * sz, cs, T, fr, ?_, hb, fun m n hm' hn => ?_⟩
    · rw [if_neg (by omega)]
      simp [add_none]
    · have := hcs (i + m) n (by omega) hn
      rw [Nat.add_mul, ← Nat.add_assoc] at this
      rw [this]
      congr 1
      rw [List.getElem?_take, if_pos (by omega), List.getElem?_drop]⟩
theorem Q.cut {t el : TypeId} [u : Und P t (.slice el)] [z : TySize P el sz] {x : Operand} {lo hi : Option Operand} {i j : Nat} (hx : ev e x = some v) [s : Arr v enc sz h xs] (hlo : Bd e 0 lo i) (hhi : Bd e xs.length hi j) (hij : i ≤ j) (hj : j ≤ xs.length) :
    Quiet P ops ⟨d, .slice t x lo hi none, ty, pos, aft, none⟩ e o r (cutv v sz i j) := .mk fun a w he _ => by
  obtain ⟨henc, hm, ad, c, rfl, hle, hnn, hc⟩ := s.pf
  have hrun : (Instr.sliceAt t (.slice ad xs.length c) (lo.map (evA a)) (hi.map (evA a)) none).run P w =
      .ok (.slice (if c = i then ad else ad.map (·.add (i * sz))) (j - i) (c - i)) w := by
    unfold Instr.sliceAt
    rw [bind_ok (u.pf w)]
    simp only
    unfold Instr.slice
    rw [bind_ok (u.pf w)]
    simp only
    have hb : (Instr.sliceBounds true xs.length c (lo.map (evA a)) (hi.map (evA a)) none).run P w = .ok (i, j, c) w := by
      unfold Instr.sliceBounds
      simp only [pure_bind]
      rcases Bd.run (P := P) he hhi c .sliceAcap (by omega) w with ⟨h1, h2⟩ | ⟨v1, h1, h2⟩
      · rw [h1, h2]
        simp only [pure_bind]
        rcases Bd.run (P := P) he hlo xs.length .sliceB (by omega) w with ⟨h3, h4⟩ | ⟨v3, h3, h4⟩
        · rw [h3, h4]; rfl
        · rw [h3]
          simp only [Option.isSome_none, Bool.false_eq_true, if_false]
          rw [bind_ok h4]; rfl
      · rw [h1]
        simp only [if_true]
        rw [bind_ok h2]
        rcases Bd.run (P := P) he hlo j .sliceB hij w with ⟨h3, h4⟩ | ⟨v3, h3, h4⟩
        · rw [h3, h4]; rfl
        · rw [h3]
          simp only [Option.isSome_none, Bool.false_eq_true, if_false]
          rw [bind_ok h4]; rfl
    rw [bind_ok hb]
    simp only
    rw [bind_ok (z.pf w)]
    rfl
  simp only [execOp, ev_rel he hx, Option.map_none]
  exact run_val hrun
end
end Go.X

/- Operations under a guard that is known to hold. No condition. -/
set_option linter.unusedSimpArgs false
set_option linter.unusedVariables false
namespace Go.X
section
variable {P : Program} {ops : Array Oper} {e : Env} {o r : List PHeap} {d : Option Tmp} {ty : TypeId} {pos : String} {aft : Array Edge}
theorem Stp.want {op : Op} {j gt : Nat} {want b : Bool} {Ψ : Value → List PHeap → Prop} (hj : (ops[j]?).bind (·.dst) = some gt) (hg : find e gt = some (.bool b)) (hb : b = want)
    (s : Stp P ops ⟨d, op, ty, pos, aft, none⟩ e o r Ψ) : Stp P ops ⟨d, op, ty, pos, aft, some (j, want)⟩ e o r Ψ := fun D a w he hs => by
  have h := s D a w he hs
  have hw := wanted_guard (d := d) (ty := ty) (pos := pos) (aft := aft) (want := want) (op := op) hj (he gt _ hg)
  have hx : execOp (evA a) (⟨d, op, ty, pos, aft, some (j, want)⟩ : Oper) = execOp (evA a) (⟨d, op, ty, pos, aft, none⟩ : Oper) := rfl
  unfold Does at h ⊢
  rw [hw, hx, if_pos (by simp [hb])]
  rwa [if_pos (by simp [Region.wanted])] at h
end
section
variable {c : Cx} {ops : Array Oper} {rest : List Oper} {k : List Item} {e : Env} {o r : List PHeap} {d : Nat} {ty : TypeId} {pos : String} {aft : Array Edge}
variable {α : Type} {enc : α → List Value} {sz : Nat} {h : PHeap} {xs : List α} {v : Value}
theorem XO.litG {t el : TypeId} [u : Und c.P t (.slice el)] [z : TySize c.P el sz] {zs : List Value} [zz : Zero c.P el zs] {n : Nat} {l : List (Nat × Operand)} {j gt : Nat} {want b : Bool} (zl cs : List Value) (xs : List α) (enc : α → List Value)
    (hj : (ops[j]?).bind (·.dst) = some gt) (hg : find e gt = some (.bool b)) (hb : b = want)
    (hzs : zs.length = sz) (hsz : Nat.blt 0 sz = true) (hn : Nat.ble (n * sz) 16777216 = true) (hzl : (List.replicate n zs).flatten = zl) (hf : Fill e (fun i => some (i * sz, sz)) l zl cs)
    (henc : ∀ x, (enc x).length = sz) (hcs : xs.flatMap enc = cs) (hxn : xs.length = n) (ho : Ones cs) (hle : Nat.ble n 16777216 = true)
    (hnx : ∀ v' h', OArr v' enc sz el h' xs → XO c ops rest k ((d, some v') :: e) (h' :: o) r) :
    XO c ops (⟨some d, .buildSlice t n l.toArray, ty, pos, aft, some (j, want)⟩ :: rest) k e o r :=
  XO.s (Stp.want hj hg hb ((Makes.lit cs hzs hsz hn (by rw [hzl]; exact hf)).stp _ _)) fun _ _ ⟨b, hv, ho'⟩ => by subst hv ho'; exact hnx _ _ (OArr.lit xs enc henc hcs hxn ho hle)
end
end Go.X

/- From the reading of arguments to slices that are read; what a call leaves as it was. No condition. -/
set_option linter.unusedSimpArgs false
set_option linter.unusedVariables false
namespace Go.X
open Go.ChangeShapes Go.WideShapes Go.Deep
def heapOf (w : World) : PHeap := ⟨fun b => w.heap[b]?, some (mt w)⟩
theorem heap_sep (w : World) : Sep [] [heapOf w] w where
  pw := List.Pairwise.nil
  dr := fun h hh => by cases hh
  so := fun h hh => by cases hh
  sr := fun g hg b ob hb => by
    simp only [List.mem_singleton] at hg; subst hg; exact hb
  no := fun h hh => by cases hh
  sm := fun g hg m hm => by
    simp only [List.mem_singleton] at hg; subst hg; exact Option.some.inj hm
structure Stays (W w' : World) : Prop where
  os : w'.os = W.os
  output : w'.output = W.output
  block : ∀ k, k < W.heap.size → w'.heap[k]? = W.heap[k]?
theorem stays_of {o : List PHeap} {W w' : World} (s : Sep o [heapOf W] w') : Stays W w' := by
  have h1 := s.sm _ List.mem_cons_self _ rfl
  simp only [mt, Prod.mk.injEq] at h1
  refine ⟨h1.1, h1.2, fun k hk => ?_⟩
  have h2 : W.heap[k]? = some (W.heap[k]'hk) := Array.getElem?_eq_getElem hk
  rw [h2]
  exact s.sr _ List.mem_cons_self k _ h2
theorem Stays.same {W w' : World} (h : Stays W w') {p : MemPlace} (hp : p.block < W.heap.size) : W.sameAt w' p := by
  cases p with
  | cell b o => exact World.cell?_of_block (w := W) (h.block b hp)
  | map b => exact h.block b hp
theorem Stays.frame {W w' : World} (h : Stays W w') (may : MemPlace → Prop) : W.keptBut w' may := by
  refine ⟨h.os, h.output, fun i hi => ?_⟩
  rw [h.block i hi]
  split <;> simp_all
theorem Stays.trod {H : Type} {enc : TypeId × Value → H} {P : Program} {t : TypeId} (hl : laidOutB P = true) (hr : P.readableRec t = true) (hrow : t < P.types.size) {W W' : World} {v : Value} {d : DataW H} {ps : List MemPlace}
    (h : DataW.Trod enc P W 0 (fun _ => true) true t v d ps) (hb : Stays W W') (hlt : ∀ x ∈ ps, x.block < W.heap.size) :
    DataW.Trod enc P W' 0 (fun b => decide (b < W.heap.size)) true t v d ps :=
  WideElems.Trod_stays hl hr hrow h (fun x hx => hb.same (hlt x hx)) (fun x hx => by simpa using hlt x hx)
theorem Stays.refl (W : World) : Stays W W := ⟨rfl, rfl, fun _ _ => rfl⟩
theorem calls_of_spec {P : Program} {f : FuncId} {args : Array Value} {hr : List PHeap} {W : World} {R : Value → List PHeap → Prop} (h : Spec P f args [] hr R) (hh : ∀ h ∈ hr, h = heapOf W) :
    Calls P f args W fun e w' => ∃ v hs, e = .returned v ∧ R v hs ∧ Stays W w' :=
  (h [] [heapOf W] W (heap_sep W) (fun x hx => .inr (by rw [hh x hx]; exact List.mem_cons_self))).mono fun e w' ⟨v, hs, he, hR, hS⟩ => ⟨v, hs, he, hR, stays_of (o := hs ++ []) hS⟩

theorem cell_heap {W : World} {a : Addr} {v : Value} (h : W.cell? a = some v) : ∃ cs T fr, a.spot = none ∧ W.heap[a.block]? = some (.cells cs T fr) ∧ cs[a.off]? = some v := by
  have hs := World.cell?_spot h
  unfold World.cell? at h
  split at h
  · rename_i c T fr hb
    rw [if_neg (by simp [hs])] at h
    exact ⟨c, T, fr, hs, hb, h⟩
  · cases h
theorem arr_one {α : Type} {W : World} {enc : α → List Value} (henc : ∀ x, ∃ u, enc x = [u] ∧ one u = true) {a : Addr} {len cap : Nat} {xs : List α} (hlen : xs.length = len) (hc : len ≤ cap) (h47 : len ≤ 140737488355328)
    (hcell : ∀ i (hi : i < xs.length), ∀ u, enc xs[i] = [u] → W.cell? (a.add i) = some u) : Arr (.slice (some a) len cap) enc 1 (heapOf W) xs := by
  subst hlen
  refine ⟨fun x => by obtain ⟨u, hu, _⟩ := henc x; rw [hu]; rfl, ⟨h47, fun x _ c hc => by obtain ⟨u, hu, ho⟩ := henc x; rw [hu] at hc; simp only [List.mem_singleton] at hc; subst hc; exact ho⟩, some a, cap, rfl, hc, (fun h => by cases h), fun hp => ?_⟩
  obtain ⟨u0, hu0, _⟩ := henc (xs[0]'hp)
  have h0 := hcell 0 hp u0 hu0
  obtain ⟨b, k, sp⟩ := a
  obtain ⟨cs, T, fr, hsp, hb, _⟩ := cell_heap h0
  have hsp' : sp = none := by simpa [Addr.add] using hsp
  subst hsp'
  have hb' : W.heap[b]? = some (.cells cs T fr) := by simpa [Addr.add] using hb
  refine ⟨b, k, cs, T, fr, rfl, hb', fun i j hi hj => ?_⟩
  obtain ⟨u, hu, _⟩ := henc (xs[i]'hi)
  have hi' := hcell i hi u hu
  rw [add_none] at hi'
  obtain ⟨cs2, T2, fr2, _, hb2, hc2⟩ := cell_heap hi'
  have hb2' : W.heap[b]? = some (.cells cs2 T2 fr2) := hb2
  rw [hb'] at hb2'
  simp only [Option.some.injEq, Obj.cells.injEq] at hb2'
  obtain ⟨rfl, rfl, rfl⟩ := hb2'
  have hj0 : j = 0 := by omega
  subst hj0
  rw [List.getElem?_eq_getElem hi, Option.bind_some, hu]
  simpa using hc2
section
variable {H : Type} {enc : TypeId × Value → H} {P : Program} {w : World} {held : Bool}
theorem arr_ints {t e : TypeId} {fuel : Nat} {cs : List Value} {x : DataW H × List MemPlace} (ht : P.underlying t = some (.slice e)) (he : P.underlying e = some (.int .i64)) (hc : P.cellsOf e = 1)
    (h : DataW.trod enc P w 0 (fun _ => true) held fuel t cs = some x) (hw : ∀ elems spare, x.1 = .slice elems spare → elems.length + spare.length ≤ 140737488355328) : ∃ v xs, cs = [v] ∧ Arr v encI 1 (heapOf w) xs := by
  rcases open_ints ht he hc h with ⟨rfl, _⟩ | ⟨a, len, cap, zs, rfl, _, hl, hm, hz, hx, hcell, hwz⟩
  · exact ⟨_, [], rfl, Arr.nil (fun _ => rfl)⟩
  · have hz' : zs.length = cap := by simpa using hz
    have hb : len ≤ 140737488355328 := by
      have := hw _ _ (by rw [hx])
      simp [lits] at this
      omega
    refine ⟨_, zs.take len, rfl, arr_one (fun x => ⟨_, rfl, rfl⟩) (by simp; omega) hl hb fun i hi u hu => ?_⟩
    have hi2 : i < zs.length := by simp at hi; omega
    rw [hcell i hi2]
    simp only [encI, List.cons.injEq, and_true] at hu
    rw [← hu]
    simp [List.getD_eq_getElem?_getD, hi2]
theorem arr_bools {t e : TypeId} {fuel : Nat} {cs : List Value} {x : DataW H × List MemPlace} (ht : P.underlying t = some (.slice e)) (he : P.underlying e = some .bool) (hc : P.cellsOf e = 1)
    (h : DataW.trod enc P w 0 (fun _ => true) held fuel t cs = some x) (hw : ∀ elems spare, x.1 = .slice elems spare → elems.length + spare.length ≤ 140737488355328) : ∃ v xs, cs = [v] ∧ Arr v encB 1 (heapOf w) xs := by
  rcases open_bools ht he hc h with ⟨rfl, _⟩ | ⟨a, len, cap, B, rfl, _, hl, hm, hx, hcell⟩
  · exact ⟨_, [], rfl, Arr.nil (fun _ => rfl)⟩
  · have hb : len ≤ 140737488355328 := by
      rcases open_slice ht h with ⟨h1, _⟩ | ⟨a', len', cap', m, n, D, Pl, h1, _, hl', _, hmm, hx', _⟩
      · cases h1
      · simp only [List.cons.injEq, Value.slice.injEq, Option.some.injEq, and_true] at h1
        obtain ⟨rfl, rfl, rfl⟩ := h1
        have := hw _ _ (by rw [hx'])
        simp at this
        omega
    refine ⟨_, (List.range len).map B, rfl, arr_one (fun x => ⟨_, rfl, rfl⟩) (by simp) hl hb fun i hi u hu => ?_⟩
    have hi2 : i < len := by simpa using hi
    rw [hcell i (by omega)]
    simp only [encB, List.cons.injEq, and_true] at hu
    rw [← hu]
    simp
end
end Go.X

/- Arguments of rows opened: small numbers, slices of bytes. No condition. -/
set_option linter.unusedSimpArgs false
set_option linter.unusedVariables false
namespace Go.X
open Go.ChangeShapes Go.WideShapes Go.Deep
section
variable {H : Type} {enc : TypeId × Value → H} {P : Program} {W : World} {base : Nat} {v : Value} {d : DataW H} {ps : List MemPlace}
theorem open_u8 {t : TypeId} (ht : P.underlying t = some (.int .u8)) (hv : Value.okWide P W .any base t v) (h : DataW.Trod enc P W 0 (fun _ => true) true t v d ps) :
    ∃ n : Nat, n < 256 ∧ v = .int .u8 (n : Nat) ∧ d = .lit (.int .u8 (n : Nat)) ∧ ps = [] ∧ (Lit.int .u8 (n : Nat)).wf = true := by
  obtain ⟨m, rfl, rfl, rfl, hw⟩ := open_int ht hv h
  have := bounds_u8 hw
  obtain ⟨n, rfl⟩ := Int.eq_ofNat_of_zero_le this.1
  exact ⟨n, by omega, rfl, rfl, rfl, hw⟩
theorem open_u16 {t : TypeId} (ht : P.underlying t = some (.int .u16)) (hv : Value.okWide P W .any base t v) (h : DataW.Trod enc P W 0 (fun _ => true) true t v d ps) :
    ∃ n : Nat, n < 65536 ∧ v = .int .u16 (n : Nat) ∧ d = .lit (.int .u16 (n : Nat)) ∧ ps = [] ∧ (Lit.int .u16 (n : Nat)).wf = true := by
  obtain ⟨m, rfl, rfl, rfl, hw⟩ := open_int ht hv h
  have := bounds_u16 hw
  obtain ⟨n, rfl⟩ := Int.eq_ofNat_of_zero_le this.1
  exact ⟨n, by omega, rfl, rfl, rfl, hw⟩
theorem bounds_i64 {n : Int} (h : (Lit.int .i64 n).wf = true) : in64 n := by
  simp [Lit.wf, IntKind.min, IntKind.max, IntKind.signed, IntKind.bits] at h
  exact ⟨by omega, by omega⟩
theorem open_i64 {t : TypeId} (ht : P.underlying t = some (.int .i64)) (hv : Value.okWide P W .any base t v) (h : DataW.Trod enc P W 0 (fun _ => true) true t v d ps) :
    ∃ n : Int, in64 n ∧ v = .int .i64 n ∧ d = .lit (.int .i64 n) ∧ ps = [] ∧ (Lit.int .i64 n).wf = true := by
  obtain ⟨m, rfl, rfl, rfl, hw⟩ := open_int ht hv h
  exact ⟨m, bounds_i64 hw, rfl, rfl, rfl, hw⟩
theorem arr_u8s {held : Bool} {t e : TypeId} {fuel : Nat} {cs : List Value} {x : DataW H × List MemPlace} (ht : P.underlying t = some (.slice e)) (he : P.underlying e = some (.int .u8)) (hc : P.cellsOf e = 1)
    (h : DataW.trod enc P W 0 (fun _ => true) held fuel t cs = some x) (hw : ∀ elems spare, x.1 = .slice elems spare → elems.length + spare.length ≤ 140737488355328) : ∃ v xs, cs = [v] ∧ Arr v encU8 1 (heapOf W) xs := by
  rcases open_ints ht he hc h with ⟨rfl, _⟩ | ⟨a, len, cap, zs, rfl, _, hl, hm, hz, hx, hcell, hwz⟩
  · exact ⟨_, [], rfl, Arr.nil (fun _ => rfl)⟩
  · have hz' : zs.length = cap := by simpa using hz
    have hb : len ≤ 140737488355328 := by
      have := hw _ _ (by rw [hx])
      simp [lits] at this
      omega
    refine ⟨_, (zs.take len).map fun n => UInt8.ofNat n.toNat, rfl, arr_one (fun x => ⟨_, rfl, rfl⟩) (by simp; omega) hl hb fun i hi u hu => ?_⟩
    have hi2 : i < zs.length := by simp at hi; omega
    rw [hcell i hi2]
    simp only [encU8, List.cons.injEq, and_true] at hu
    rw [← hu]
    have hb := range_u8 hwz i
    have e : zs[i]?.getD 0 = zs[i] := by simp [hi2]
    rw [e] at hb
    simp only [List.getElem_map, List.getElem_take, List.getD_eq_getElem?_getD, e, UInt8.toNat_ofNat']
    congr 2
    omega
theorem slice_weight {t e : TypeId} (ht : P.underlying t = some (.slice e)) (hb : 0 < P.bytesOf e) (hw : ∀ n ∈ d.weights P t, n ≤ reachBytes) : ∀ elems spare, d = .slice elems spare → elems.length + spare.length ≤ 140737488355328 := by
  rintro elems spare rfl
  have h := hw ((elems.length + spare.length) * P.bytesOf e) (by simp [DataW.weights, ht])
  have h1 : (elems.length + spare.length) * 1 ≤ (elems.length + spare.length) * P.bytesOf e := Nat.mul_le_mul_left _ hb
  have h2 : reachBytes = 140737488351232 := rfl
  omega
theorem slice_cells {t e : TypeId} (ht : P.underlying t = some (.slice e)) (hv : Value.okWide P W .any base t v) : v.cells.toList = [v] := by
  obtain ⟨a, len, cap, rfl⟩ := okWide_slice ht hv
  rfl
theorem open_u8s {t e : TypeId} (ht : P.underlying t = some (.slice e)) (he : P.underlying e = some (.int .u8)) (hc : P.cellsOf e = 1) (hb : 0 < P.bytesOf e) (hv : Value.okWide P W .any base t v)
    (h : DataW.Trod enc P W 0 (fun _ => true) true t v d ps) (hw : ∀ n ∈ d.weights P t, n ≤ reachBytes) : ∃ xs : List UInt8, Arr v encU8 1 (heapOf W) xs := by
  obtain ⟨fuel, hf⟩ := h
  rw [slice_cells ht hv] at hf
  obtain ⟨v', xs, hcs, hA⟩ := arr_u8s ht he hc hf (slice_weight ht hb hw)
  simp only [List.cons.injEq, and_true] at hcs
  subst hcs
  exact ⟨xs, hA⟩
theorem open_i64s {t e : TypeId} (ht : P.underlying t = some (.slice e)) (he : P.underlying e = some (.int .i64)) (hc : P.cellsOf e = 1) (hb : 0 < P.bytesOf e) (hv : Value.okWide P W .any base t v)
    (h : DataW.Trod enc P W 0 (fun _ => true) true t v d ps) (hw : ∀ n ∈ d.weights P t, n ≤ reachBytes) : ∃ xs : List Int, Arr v encI 1 (heapOf W) xs := by
  obtain ⟨fuel, hf⟩ := h
  rw [slice_cells ht hv] at hf
  obtain ⟨v', xs, hcs, hA⟩ := arr_ints ht he hc hf (slice_weight ht hb hw)
  simp only [List.cons.injEq, and_true] at hcs
  subst hcs
  exact ⟨xs, hA⟩
end
end Go.X

/- An argument that is a list of lists of bytes, opened. No condition. -/
set_option linter.unusedSimpArgs false
set_option linter.unusedVariables false
namespace Go.X
open Go.ChangeShapes Go.WideShapes Go.Deep
theorem arr_vals {W : World} {a : Addr} {len cap : Nat} {xs : List Value} (hone : ∀ x ∈ xs, one x = true) (hlen : xs.length = len) (hc : len ≤ cap) (h47 : len ≤ 140737488355328)
    (hcell : ∀ i (hi : i < xs.length), W.cell? (a.add i) = some xs[i]) : Arr (.slice (some a) len cap) encV 1 (heapOf W) xs := by
  subst hlen
  refine ⟨fun x => rfl, ⟨h47, fun x hx c hc => by simp only [encV, List.mem_singleton] at hc; subst hc; exact hone _ hx⟩, some a, cap, rfl, hc, (fun h => by cases h), fun hp => ?_⟩
  have h0 := hcell 0 hp
  obtain ⟨b, k, sp⟩ := a
  obtain ⟨cs, T, fr, hsp, hb, _⟩ := cell_heap h0
  have hsp' : sp = none := by simpa [Addr.add] using hsp
  subst hsp'
  have hb' : W.heap[b]? = some (.cells cs T fr) := by simpa [Addr.add] using hb
  refine ⟨b, k, cs, T, fr, rfl, hb', fun i j hi hj => ?_⟩
  have hi' := hcell i hi
  rw [add_none] at hi'
  obtain ⟨cs2, T2, fr2, _, hb2, hc2⟩ := cell_heap hi'
  have hb2' : W.heap[b]? = some (.cells cs2 T2 fr2) := hb2
  rw [hb'] at hb2'
  simp only [Option.some.injEq, Obj.cells.injEq] at hb2'
  obtain ⟨rfl, rfl, rfl⟩ := hb2'
  have hj0 : j = 0 := by omega
  subst hj0
  rw [List.getElem?_eq_getElem hi, Option.bind_some]
  simpa [encV] using hc2
section
variable {H : Type} {enc : TypeId × Value → H} {P : Program} {W : World} {base : Nat} {v : Value} {d : DataW H} {ps : List MemPlace}
theorem weights_all {e : TypeId} : ∀ {l : List (DataW H)} {d : DataW H}, d ∈ l → ∀ n ∈ d.weights P e, n ∈ DataW.weightsAll P e l
  | x :: l, d, hd, n, hn => by
    rw [DataW.weightsAll, List.mem_append]
    rcases List.mem_cons.1 hd with rfl | hd
    · exact .inl hn
    · exact .inr (weights_all hd n hn)
theorem open_u8ss {t e q : TypeId} (ht : P.underlying t = some (.slice e)) (he : P.underlying e = some (.slice q)) (hq : P.underlying q = some (.int .u8)) (ce : P.cellsOf e = 1) (be : 0 < P.bytesOf e) (cq : P.cellsOf q = 1) (bq : 0 < P.bytesOf q)
    (hv : Value.okWide P W .any base t v) (h : DataW.Trod enc P W 0 (fun _ => true) true t v d ps) (hw : ∀ n ∈ d.weights P t, n ≤ reachBytes) :
    ∃ us : List Value, Arr v encV 1 (heapOf W) us ∧ ∀ u ∈ us, ∃ x, Arr u encU8 1 (heapOf W) x := by
  obtain ⟨fuel, hf⟩ := h
  rw [slice_cells ht hv] at hf
  have hwt := slice_weight ht be hw
  rcases open_slice1 ht ce hf with ⟨h1, h2⟩ | ⟨a, len, cap, m, n, V, D, Pl, h1, _, hl, hm, hmm, hx, hr⟩
  · simp only [List.cons.injEq, and_true] at h1
    subst h1
    exact ⟨[], Arr.nil (fun _ => rfl), fun i hi => by cases hi⟩
  · simp only [List.cons.injEq, and_true] at h1
    subst h1
    simp only [if_true] at hmm
    subst hmm
    simp only [Prod.mk.injEq] at hx
    obtain ⟨rfl, _⟩ := hx
    have hb : len ≤ 140737488355328 := by
      have := hwt _ _ rfl
      simp at this
      omega
    have hrow : ∀ r, r < len → ∃ x, Arr (V r) encU8 1 (heapOf W) x := fun r hr2 => by
      obtain ⟨_, h3⟩ := hr r (by omega)
      obtain ⟨v', xs, hcs, hA⟩ := arr_u8s he hq cq h3 (slice_weight he bq fun n hn => hw n (by
        simp only [DataW.weights, ht]
        refine List.mem_cons_of_mem _ (List.mem_append_left _ (weights_all (d := D r) (List.mem_map.2 ⟨r, List.mem_range.2 hr2, rfl⟩) n hn))))
      simp only [List.cons.injEq, and_true] at hcs
      subst hcs
      exact ⟨xs, hA⟩
    refine ⟨(List.range len).map V, arr_vals (fun x hx => ?_) (by simp) hl hb (fun i hi => ?_), fun i hi => ?_⟩
    · obtain ⟨r, hr2, rfl⟩ := List.mem_map.1 hx
      obtain ⟨x, hA⟩ := hrow r (List.mem_range.1 hr2)
      exact (Arr.one (s := hA)).pf.2
    · simp only [List.length_map, List.length_range] at hi
      simp only [List.getElem_map, List.getElem_range]
      exact (hr i (by omega)).1
    · obtain ⟨r, hr2, rfl⟩ := List.mem_map.1 hi
      exact hrow r (List.mem_range.1 hr2)
end
end Go.X

/- Guards within guards. No condition. -/
set_option linter.unusedSimpArgs false
set_option linter.unusedVariables false
namespace Go.X
theorem bpT {b : Bool} {p : Prop} [t : BoolP b p] (h : b = true) : p := t.pf.1 h
theorem bpF {b : Bool} {p : Prop} [t : BoolP b p] (h : b = false) : ¬ p := fun hp => by rw [t.pf.2 hp] at h; cases h
theorem wanted_val {ops : Array Oper} {d : Option Tmp} {op : Op} {ty : TypeId} {pos : String} {aft : Array Edge} {j : Nat} {want : Bool} {g : Nat} {a : Array Value} {v : Value} (hj : (ops[j]?).bind (·.dst) = some g) (hv : a.getD g undef = v) (hn : v ≠ .bool want) :
    Region.wanted ⟨d, op, ty, pos, aft, some (j, want)⟩ (yielded ops a) = false := by
  have hy : yielded ops a j ≠ some want := by
    unfold yielded
    rw [hj]
    simp only [Option.bind_some]
    rcases Nat.lt_or_ge g a.size with hlt | hge
    · have e1 : a[g]? = some a[g] := Array.getElem?_eq_getElem hlt
      have e2 : a[g] = v := by simpa [hlt] using hv
      rw [e1, e2]
      intro h
      cases v <;> simp_all
    · rw [Array.getElem?_eq_none hge]
      simp
  simp only [Region.wanted]
  simpa using hy
/-- What the value at g tells: φ, or not. -/
def Tells (e : Env) (g : Nat) (want : Bool) (φ : Prop) : Prop := ∃ v, find e g = some v ∧ (φ → v = .bool want) ∧ (¬ φ → v ≠ .bool want)
theorem undef_ne {b : Bool} : undef ≠ .bool b := by simp [undef]
theorem Tells.d1 {e : Env} {g : Nat} {want b : Bool} (h : find e g = some (.bool b)) : Tells e g want (b = want) :=
  ⟨_, h, fun hb => by rw [hb], fun hb hv => hb (by simpa using hv)⟩
theorem Tells.d2 {e : Env} {g : Nat} {want b b1 w1 : Bool} (h : find e g = some (lz b1 w1 (.bool b))) : Tells e g want (b1 = w1 ∧ b = want) :=
  ⟨_, h, fun ⟨h1, h2⟩ => by simp [lz, h1, h2], fun hn hv => by
    unfold lz at hv
    split at hv
    · exact hn ⟨‹_›, by simpa using hv⟩
    · exact undef_ne hv⟩
theorem Tells.d3 {e : Env} {g : Nat} {want b b1 w1 b2 w2 : Bool} (h : find e g = some (lz b1 w1 (lz b2 w2 (.bool b)))) : Tells e g want (b1 = w1 ∧ b2 = w2 ∧ b = want) :=
  ⟨_, h, fun ⟨h1, h2, h3⟩ => by simp [lz, h1, h2, h3], fun hn hv => by
    unfold lz at hv
    split at hv
    · split at hv
      · exact hn ⟨‹_›, ‹_›, by simpa using hv⟩
      · exact undef_ne hv
    · exact undef_ne hv⟩
section
variable {P : Program} {ops : Array Oper} {e : Env} {o r : List PHeap} {d : Option Tmp} {ty : TypeId} {pos : String} {aft : Array Edge}
theorem Tells.no {φ : Prop} {j : Nat} {want : Bool} {g : Nat} {op : Op} {a : Array Value} (hj : (ops[j]?).bind (·.dst) = some g) (t : Tells e g want φ) (he : ERel e a) (hn : ¬ φ) :
    Region.wanted ⟨d, op, ty, pos, aft, some (j, want)⟩ (yielded ops a) = false := by
  obtain ⟨v, h1, _, h3⟩ := t
  exact wanted_val hj (he _ _ h1) (h3 hn)
theorem Tells.yes {φ : Prop} {j : Nat} {want : Bool} {g : Nat} {op : Op} {a : Array Value} (hj : (ops[j]?).bind (·.dst) = some g) (t : Tells e g want φ) (he : ERel e a) (hn : φ) :
    Region.wanted ⟨d, op, ty, pos, aft, some (j, want)⟩ (yielded ops a) = true := by
  obtain ⟨v, h1, h2, _⟩ := t
  have := he _ _ h1
  rw [h2 hn] at this
  rw [wanted_guard hj this]
  simp
theorem Quiet.tells {φ : Prop} {op : Op} {v v' : Value} {j : Nat} {want : Bool} {g : Nat} (hj : (ops[j]?).bind (·.dst) = some g) (t : Tells e g want φ) (h1 : φ → v' = v) (h2 : ¬ φ → v' = undef)
    (h : φ → Quiet P ops ⟨d, op, ty, pos, aft, none⟩ e o r v) : Quiet P ops ⟨d, op, ty, pos, aft, some (j, want)⟩ e o r v' := by
  intro a w he hr
  by_cases hp : φ
  · rcases h hp a w he hr with ⟨_, h3⟩ | ⟨h3, _⟩
    · left
      refine ⟨t.yes hj he hp, ?_⟩
      rw [h1 hp]
      exact h3
    · simp [Region.wanted] at h3
  · exact .inr ⟨t.no hj he hp, h2 hp⟩
theorem Quiet.guard2 {op : Op} {v : Value} {j : Nat} {want b b1 w1 : Bool} {g : Nat} (hj : (ops[j]?).bind (·.dst) = some g) (hg : find e g = some (lz b1 w1 (.bool b)))
    (h : b1 = w1 → b = want → Quiet P ops ⟨d, op, ty, pos, aft, none⟩ e o r v) : Quiet P ops ⟨d, op, ty, pos, aft, some (j, want)⟩ e o r (lz b1 w1 (lz b want v)) :=
  Quiet.tells hj (.d2 hg) (fun ⟨h1, h2⟩ => by simp [lz, h1, h2]) (fun hn => by
    unfold lz
    split
    · split
      · exact absurd ⟨‹_›, ‹_›⟩ hn
      · rfl
    · rfl) (fun ⟨h1, h2⟩ => h h1 h2)
theorem Quiet.guard3 {op : Op} {v : Value} {j : Nat} {want b b1 w1 b2 w2 : Bool} {g : Nat} (hj : (ops[j]?).bind (·.dst) = some g) (hg : find e g = some (lz b1 w1 (lz b2 w2 (.bool b))))
    (h : b1 = w1 → b2 = w2 → b = want → Quiet P ops ⟨d, op, ty, pos, aft, none⟩ e o r v) : Quiet P ops ⟨d, op, ty, pos, aft, some (j, want)⟩ e o r (lz b1 w1 (lz b2 w2 (lz b want v))) :=
  Quiet.tells hj (.d3 hg) (fun ⟨h1, h2, h3⟩ => by simp [lz, h1, h2, h3]) (fun hn => by
    unfold lz
    split
    · split
      · split
        · exact absurd ⟨‹_›, ‹_›, ‹_›⟩ hn
        · rfl
      · rfl
    · rfl) (fun ⟨h1, h2, h3⟩ => h h1 h2 h3)
/-- A call of a function value that only computes, under guards. -/
theorem Stp.vtells {φ : Prop} {x : Operand} {l : List Operand} {tys : Array TypeId} {y : Value} {vs : List Value} {Hr : List PHeap} {u u' : Value} {j : Nat} {want : Bool} {g : Nat}
    (hj : (ops[j]?).bind (·.dst) = some g) (t : Tells e g want φ) (h1 : φ → u' = u) (h2 : ¬ φ → u' = undef) (hx : φ → ev e x = some y) (hl : φ → EvL e l vs) (hS : φ → VSpec P y vs [] Hr (fun v hs => v = u ∧ hs = [])) [al : AllIn Hr o r] :
    Stp P ops ⟨d, .call ⟨.value x, l.toArray, tys⟩, ty, pos, aft, some (j, want)⟩ e o r (fun v o2 => v = u' ∧ o2 = o) := fun D a w he hs => by
  by_cases hp : φ
  · have hw := t.yes (d := d) (ty := ty) (pos := pos) (aft := aft) (op := .call ⟨.value x, l.toArray, tys⟩) hj he hp
    have hx' : (execOp (evA a) (⟨d, .call ⟨.value x, l.toArray, tys⟩, ty, pos, aft, some (j, want)⟩ : Oper)) = callv y vs.toArray := by
      simp only [execOp, resolve, ev_rel he (hx hp), List.map_toArray, (hl hp).rel he, callv]
    have h := hS hp (D :: o) r w hs (al.more D).pf
    unfold Does
    rw [hw, if_pos rfl, hx']
    unfold NDoes at h
    split at h <;> rename_i heq
    · rw [heq]
      refine h.mono ?_
      rintro e' w' ⟨v, rfl, hs', ⟨rfl, rfl⟩, hS'⟩
      exact ⟨v, rfl, D :: o, ⟨o, ⟨(h1 hp).symm, rfl⟩, List.Perm.refl _⟩, hS'⟩
    · rw [heq]
      intro c0 cs
      obtain ⟨v, w', ⟨hs', ⟨rfl, rfl⟩, hS'⟩, st⟩ := h c0 cs
      exact ⟨v, w', ⟨D :: o, ⟨o, ⟨(h1 hp).symm, rfl⟩, List.Perm.refl _⟩, hS'⟩, st⟩
    · exact h.elim
  · unfold Does
    rw [t.no hj he hp]
    exact ⟨D :: o, ⟨o, ⟨(h2 hp).symm, rfl⟩, List.Perm.refl _⟩, hs⟩
end
section
variable {c : Cx} {ops : Array Oper} {rest : List Oper} {k : List Item} {e : Env} {o r : List PHeap} {d : Nat} {ty : TypeId} {pos : String} {aft : Array Edge}
variable {fl : List Nat} {f : List PHeap} {i0 : Nat} {bb : Bool} {tt uu : Plan}
section
variable {x : Operand} {l : List Operand} {tys : Array TypeId} {y : Value} {vs : List Value} {Hr : List PHeap} {u : Value} {j g : Nat} {want b b1 w1 b2 w2 : Bool}
theorem XO.vg1 (hj : (ops[j]?).bind (·.dst) = some g) (hg : find e g = some (.bool b)) (hx : b = want → ev e x = some y) (hl : b = want → EvL e l vs)
    (hS : b = want → VSpec c.P y vs [] Hr (fun v hs => v = u ∧ hs = [])) [al : AllIn Hr o (c.B :: r)] (h : XO c ops rest k ((d, some (lz b want u)) :: e) o r) :
    XO c ops (⟨some d, .call ⟨.value x, l.toArray, tys⟩, ty, pos, aft, some (j, want)⟩ :: rest) k e o r :=
  XO.s (Stp.vtells hj (.d1 hg) (u' := lz b want u) (fun h => by simp [lz, h]) (fun h => by simp [lz, h]) hx hl hS) fun v o2 ⟨h1, h2⟩ => by subst h1 h2; exact h
theorem XO.vg2 (hj : (ops[j]?).bind (·.dst) = some g) (hg : find e g = some (lz b1 w1 (.bool b))) (hx : b1 = w1 → b = want → ev e x = some y) (hl : b1 = w1 → b = want → EvL e l vs)
    (hS : b1 = w1 → b = want → VSpec c.P y vs [] Hr (fun v hs => v = u ∧ hs = [])) [al : AllIn Hr o (c.B :: r)] (h : XO c ops rest k ((d, some (lz b1 w1 (lz b want u))) :: e) o r) :
    XO c ops (⟨some d, .call ⟨.value x, l.toArray, tys⟩, ty, pos, aft, some (j, want)⟩ :: rest) k e o r :=
  XO.s (Stp.vtells hj (.d2 hg) (u' := lz b1 w1 (lz b want u)) (fun h => by simp [lz, h.1, h.2]) (fun h => by
    unfold lz
    split
    · split
      · exact absurd ⟨‹_›, ‹_›⟩ h
      · rfl
    · rfl) (fun h => hx h.1 h.2) (fun h => hl h.1 h.2) (fun h => hS h.1 h.2)) fun v o2 ⟨h1, h2⟩ => by subst h1 h2; exact h
theorem XT.vg1 (hi : ops[i0]? = some ⟨some d, .call ⟨.value x, l.toArray, tys⟩, ty, pos, aft, some (j, want)⟩) (hok : okOper c.N ⟨some d, .call ⟨.value x, l.toArray, tys⟩, ty, pos, aft, some (j, want)⟩ = true)
    (hj : (ops[j]?).bind (·.dst) = some g) (hg : find e g = some (.bool b)) (hx : b = want → ev e x = some y) (hl : b = want → EvL e l vs)
    (hS : b = want → VSpec c.P y vs [] Hr (fun v hs => v = u ∧ hs = [])) [al : AllIn Hr o (c.B :: r)] (h : Keeps bb f o ∧ XT c ops fl f k r tt ((d, some (lz b want u)) :: e) o) (hu : XT c ops fl f k r uu e o) :
    XT c ops fl f k r (.br i0 bb tt uu) e o :=
  XT.s hi hok (Stp.vtells hj (.d1 hg) (u' := lz b want u) (fun h => by simp [lz, h]) (fun h => by simp [lz, h]) hx hl hS) (fun v o2 ⟨h1, h2⟩ => by subst h1 h2; exact h) hu
theorem XT.vg2 (hi : ops[i0]? = some ⟨some d, .call ⟨.value x, l.toArray, tys⟩, ty, pos, aft, some (j, want)⟩) (hok : okOper c.N ⟨some d, .call ⟨.value x, l.toArray, tys⟩, ty, pos, aft, some (j, want)⟩ = true)
    (hj : (ops[j]?).bind (·.dst) = some g) (hg : find e g = some (lz b1 w1 (.bool b))) (hx : b1 = w1 → b = want → ev e x = some y) (hl : b1 = w1 → b = want → EvL e l vs)
    (hS : b1 = w1 → b = want → VSpec c.P y vs [] Hr (fun v hs => v = u ∧ hs = [])) [al : AllIn Hr o (c.B :: r)] (h : Keeps bb f o ∧ XT c ops fl f k r tt ((d, some (lz b1 w1 (lz b want u))) :: e) o) (hu : XT c ops fl f k r uu e o) :
    XT c ops fl f k r (.br i0 bb tt uu) e o :=
  XT.s hi hok (Stp.vtells hj (.d2 hg) (u' := lz b1 w1 (lz b want u)) (fun h => by simp [lz, h.1, h.2]) (fun h => by
    unfold lz
    split
    · split
      · exact absurd ⟨‹_›, ‹_›⟩ h
      · rfl
    · rfl) (fun h => hx h.1 h.2) (fun h => hl h.1 h.2) (fun h => hS h.1 h.2)) (fun v o2 ⟨h1, h2⟩ => by subst h1 h2; exact h) hu
end
end
end Go.X

/- Shifts and bits, whatever they give. No condition. -/
set_option linter.unusedSimpArgs false
set_option linter.unusedVariables false
namespace Go.X
def andI (k : IntKind) (m n : Int) : Int := k.wrap ((BitVec.ofInt k.bits m &&& BitVec.ofInt k.bits n).toNat : Int)
def shrI (k : IntKind) (m n : Int) : Int := m.fdiv (2 ^ min n.toNat k.bits)
section
variable {P : Program} {ops : Array Oper} {e : Env} {o r : List PHeap} {d : Option Tmp} {ty : TypeId} {pos : String} {aft : Array Edge}
theorem Q.shrW {t t2 : TypeId} {x y : Operand} {k k' : IntKind} {m n : Int} (hx : ev e x = some (.int k m)) (hy : ev e y = some (.int k' n)) (h : 0 ≤ n) :
    Quiet P ops ⟨d, .binOp .shr t x y t2, ty, pos, aft, none⟩ e o r (.int k (shrI k m n)) := Q.bin hx hy fun w => by
  have e1 : binOp .shr t (.int k m) (.int k' n) = Op.shift .shr k m k' n := by simp [binOp]
  rw [e1]
  unfold Op.shift
  rw [if_neg (by omega)]
  rfl
theorem Q.andW {t t2 : TypeId} {x y : Operand} {k : IntKind} {m n : Int} (hx : ev e x = some (.int k m)) (hy : ev e y = some (.int k n)) :
    Quiet P ops ⟨d, .binOp .and t x y t2, ty, pos, aft, none⟩ e o r (.int k (andI k m n)) := Q.bin hx hy fun w => by
  have e1 : binOp .and t (.int k m) (.int k n) = Op.intBits .and k m n := by simp [binOp]
  rw [e1]
  rfl
end
end Go.X

/- Calls under a guard that is known to hold. No condition. -/
set_option linter.unusedSimpArgs false
set_option linter.unusedVariables false
namespace Go.X
section
variable {c : Cx} {ops : Array Oper} {rest : List Oper} {k : List Item} {e : Env} {o r : List PHeap} {d : Nat} {ty : TypeId} {pos : String} {aft : Array Edge}
variable {fl : List Nat} {f : List PHeap} {i0 : Nat} {bb : Bool} {tt uu : Plan}
theorem EvL.evs {e : Env} : ∀ {l : List Operand} {vs : List Value}, EvL e l vs → evs e l = some vs
  | [], _, .n => rfl
  | x :: l, _, .c h r => by simp only [X.evs, h, EvL.evs r]
theorem XO.callS {g : FuncId} {x : Operand} {l : List Operand} {tys : Array TypeId} {fst vs cap A : List Value} {Hm Hr : List PHeap} {R : Value → List PHeap → Prop} {o1 : List PHeap} {j gt : Nat} {want b : Bool}
    (hj : (ops[j]?).bind (·.dst) = some gt) (hg : find e gt = some (.bool b)) (hb : b = want)
    (hc : ∀ args w, (callFunc g args).run c.P w = .ok (.enter g args) w) (hx : ev e x = some (.func (.func g) fst.toArray cap.toArray)) (hl : EvL e l vs) (hA : fst ++ vs ++ cap = A)
    (hS : Spec c.P g A.toArray Hm Hr R) [t : Takes Hm o o1] [al : AllIn Hr o1 (c.B :: r)] (h : ∀ v hs, R v hs → XO c ops rest k ((d, some v) :: e) (hs ++ o1) r) :
    XO c ops (⟨some d, .call ⟨.value x, l.toArray, tys⟩, ty, pos, aft, some (j, want)⟩ :: rest) k e o r :=
  XO.s (Stp.want hj hg hb (Stp.call hc hx hl.evs hA hS)) fun v o2 ⟨hs, hR, h2⟩ => by subst h2; exact h v hs hR
theorem XT.callS {g : FuncId} {x : Operand} {l : List Operand} {tys : Array TypeId} {fst vs cap A : List Value} {Hm Hr : List PHeap} {R : Value → List PHeap → Prop} {o1 : List PHeap} {j gt : Nat} {want b : Bool}
    (hi : ops[i0]? = some ⟨some d, .call ⟨.value x, l.toArray, tys⟩, ty, pos, aft, some (j, want)⟩) (hok : okOper c.N ⟨some d, .call ⟨.value x, l.toArray, tys⟩, ty, pos, aft, some (j, want)⟩ = true)
    (hj : (ops[j]?).bind (·.dst) = some gt) (hg : find e gt = some (.bool b)) (hb : b = want)
    (hc : ∀ args w, (callFunc g args).run c.P w = .ok (.enter g args) w) (hx : ev e x = some (.func (.func g) fst.toArray cap.toArray)) (hl : EvL e l vs) (hA : fst ++ vs ++ cap = A)
    (hS : Spec c.P g A.toArray Hm Hr R) [tk : Takes Hm o o1] [al : AllIn Hr o1 (c.B :: r)] (h : ∀ v hs, R v hs → Keeps bb f (hs ++ o1) ∧ XT c ops fl f k r tt ((d, some v) :: e) (hs ++ o1)) (hu : XT c ops fl f k r uu e o) :
    XT c ops fl f k r (.br i0 bb tt uu) e o :=
  XT.s hi hok (Stp.want hj hg hb (Stp.call hc hx hl.evs hA hS)) (fun v o2 ⟨hs, hR, h2⟩ => by subst h2; exact h v hs hR) hu
end
end Go.X

/- The place of a field of an element. No condition. -/
namespace Go.X
variable {P : Program} {ops : Array Oper} {e : Env} {o r : List PHeap} {d : Option Tmp} {ty : TypeId} {pos : String} {aft : Array Edge}
variable {α : Type} {enc : α → List Value} {sz : Nat} {h : PHeap} {xs : List α} {v : Value}
theorem Q.fieldQ {s' f off : Nat} [fl : Fld P s' f off] {x : Operand} {i k : Nat} (hx : ev e x = some (pat v sz i k)) [s : Arr v enc sz h xs] (hi : i < xs.length) :
    Quiet P ops ⟨d, .fieldAddr s' x f, ty, pos, aft, none⟩ e o r (pat v sz i (k + off)) := Q.fieldP (n := 0) hx hi
end Go.X

/- An element of an array value: elements of one cell. No condition. -/
set_option linter.unusedVariables false
namespace Go.X
variable {P : Program} {ops : Array Oper} {e : Env} {o r : List PHeap} {d : Option Tmp} {ty : TypeId} {pos : String} {aft : Array Edge}
theorem Q.index1 {t el len : TypeId} [u : Und P t (.array len el)] [z : TySize P el 1] [g : IsAgg P el false] {x y : Operand} {k : IntKind} {n : Int} {cs : List Value} {v : Value} (hx : ev e x = some (.agg cs.toArray)) (hy : ev e y = some (.int k n))
    (h0 : 0 ≤ n) (h1 : n < (len : Int)) (hv : cs[n.toNat]? = some v) : Quiet P ops ⟨d, .index t x y, ty, pos, aft, none⟩ e o r v := .mk fun a w he _ => by
  simp only [execOp, ev_rel he hx, ev_rel he hy]
  refine run_val ?_
  unfold Instr.index
  have e1 : (asIntOf (.int k n)).run P w = .ok (k, n) w := rfl
  rw [bind_ok e1]
  simp only
  rw [bind_ok (u.pf w)]
  simp only
  rw [if_pos ⟨h0, h1⟩, bind_ok (z.pf w)]
  unfold part
  rw [bind_ok (g.pf w)]
  simp [hv, pure]
theorem Spec.wide {f : FuncId} {args : Array Value} {Hm Hr Hr' : List PHeap} {R : Value → List PHeap → Prop} (h : Spec P f args Hm Hr R) (hh : ∀ x ∈ Hr, x ∈ Hr') : Spec P f args Hm Hr' R :=
  fun o r w hs hr => h o r w hs (fun x hx => hr x (hh x hx))
end Go.X

/- A store to the first field. -/
namespace Go.X
instance (priority := high) Upd.first {b : Nat} {vs : List Value} {o o' : List PHeap} [t : Upd b 0 vs o o'] : Upd b (0 + 0) vs o o' := ⟨t.pf⟩
end Go.X

/- min and max of whole numbers of any width. -/
set_option linter.unusedVariables false
namespace Go.X
section
variable {P : Program} {ops : Array Oper} {e : Env} {o r : List PHeap} {d : Option Tmp} {ty : TypeId} {pos : String} {aft : Array Edge}
theorem run_minK {m n : Int} {k : IntKind} {ty' : Array TypeId} {w : World} {cs : Array Bool} (b : Bool) :
    (builtin (if b then .min else .max) ty' ty cs #[.int k m, .int k n]).run P w = .ok (.value (.int k (if b then min m n else max m n))) w := by
  cases b with
  | true =>
    simp only [if_true, builtin]
    refine run_val ?_
    have h1 : Builtin.min_ ty' ty #[.int k m, .int k n] = (pure (.int k (if n < m then n else m)) : Sem Value) := by
      simp [Builtin.min_, Builtin.min2]
    rw [h1]
    have h2 : (if n < m then n else m) = min m n := by omega
    rw [h2]; rfl
  | false =>
    simp only [Bool.false_eq_true, if_false, builtin]
    refine run_val ?_
    have h1 : ∃ z, Builtin.max_ ty' ty #[.int k m, .int k n] = (pure (.int k z) : Sem Value) ∧ z = max m n := by
      refine ⟨_, by simp [Builtin.max_, Builtin.max2]; rfl, ?_⟩
      omega
    obtain ⟨z, h1, rfl⟩ := h1
    rw [h1]; rfl
theorem Q.minK {x y : Operand} {tys : Array TypeId} {k : IntKind} {m n : Int} (hx : ev e x = some (.int k m)) (hy : ev e y = some (.int k n)) :
    Quiet P ops ⟨d, .call ⟨.builtin .min, #[x, y], tys⟩, ty, pos, aft, none⟩ e o r (.int k (Min.min m n)) := .mk fun a w he _ => by
  simp only [execOp, resolve, List.map_toArray, List.map_cons, List.map_nil, ev_rel he hx, ev_rel he hy]
  rw [bind_ok (a := _) (w1 := w) rfl]
  simp only [invoke]
  exact run_minK true
theorem Q.maxK {x y : Operand} {tys : Array TypeId} {k : IntKind} {m n : Int} (hx : ev e x = some (.int k m)) (hy : ev e y = some (.int k n)) :
    Quiet P ops ⟨d, .call ⟨.builtin .max, #[x, y], tys⟩, ty, pos, aft, none⟩ e o r (.int k (Max.max m n)) := .mk fun a w he _ => by
  simp only [execOp, resolve, List.map_toArray, List.map_cons, List.map_nil, ev_rel he hx, ev_rel he hy]
  rw [bind_ok (a := _) (w1 := w) rfl]
  simp only [invoke]
  exact run_minK false
end
end Go.X

/- Iterators that yield fresh values: what was yielded stays readable; loops over them. No condition. -/
set_option linter.unusedSimpArgs false
set_option linter.unusedVariables false
namespace Go.X

/-! ### two heaps as one -/
def cat (a b : PHeap) : PHeap := join [a, b]
theorem cat_left (a b : PHeap) : leH a (cat a b) := fun x ob h => by
  show ((a x).or _) = _
  rw [h]; rfl
theorem cat_right {a b : PHeap} (hd : Disj a b) : leH b (cat a b) := fun x ob h => by
  show ((a x).or ((b x).or none)) = _
  rcases hd x with h1 | h1
  · rw [h1, h]; rfl
  · rw [h] at h1; cases h1
theorem leH.trans {a b c : PHeap} (h1 : leH a b) (h2 : leH b c) : leH a c := fun x ob h => h2 x ob (h1 x ob h)
theorem leH.emp (h : PHeap) : leH emp h := fun x ob h => by cases h
section
variable {c : Cx} {ops : Array Oper} {rest : List Oper} {k : List Item} {e : Env} {o o1 o2 r : List PHeap} {fl : List Nat} {f : List PHeap} {t : Plan}
/-- Two owned heaps become one. -/
theorem XK.cat (a b : PHeap) [ta : Take a o o1] [tb : Take b o1 o2] (h : leH a (cat a b) → leH b (cat a b) → XK c k e (cat a b :: o2) r) : XK c k e o r := fun D ds w0 w cs ha he hD hm => by
  have hp : (D :: o).Perm ([a, b] ++ (D :: o2)) := ((ta.pf.trans (tb.pf.cons a)).cons D).trans (by
    show (D :: a :: b :: o2).Perm (a :: b :: D :: o2)
    exact (List.Perm.swap _ _ _).trans ((List.Perm.swap _ _ _).cons _))
  have hs := hm.perm hp
  have hd : Disj a b := (List.pairwise_cons.1 hs.pw).1 b (by simp)
  exact h (cat_left a b) (cat_right hd) D ds w0 w cs ha he hD ((Sep.join hs).perm (List.Perm.swap _ _ _))
theorem XO.cat (a b : PHeap) [ta : Take a o o1] [tb : Take b o1 o2] (h : leH a (cat a b) → leH b (cat a b) → XO c ops rest k e (cat a b :: o2) r) : XO c ops rest k e o r := fun j hj hok D ds w0 w cs ha he hD hm => by
  have hp : (D :: o).Perm ([a, b] ++ (D :: o2)) := ((ta.pf.trans (tb.pf.cons a)).cons D).trans (by
    show (D :: a :: b :: o2).Perm (a :: b :: D :: o2)
    exact (List.Perm.swap _ _ _).trans ((List.Perm.swap _ _ _).cons _))
  have hs := hm.perm hp
  have hd : Disj a b := (List.pairwise_cons.1 hs.pw).1 b (by simp)
  exact h (cat_left a b) (cat_right hd) j hj hok D ds w0 w cs ha he hD ((Sep.join hs).perm (List.Perm.swap _ _ _))
end
/-- Under a guard that is known not to hold, nothing is done. -/
theorem Quiet.off {P : Program} {ops : Array Oper} {e : Env} {o r : List PHeap} {d : Option Tmp} {ty : TypeId} {pos : String} {aft : Array Edge} {op : Op} {j g : Nat} {want b : Bool}
    (hj : (ops[j]?).bind (·.dst) = some g) (hg : find e g = some (.bool b)) (hb : b ≠ want) : Quiet P ops ⟨d, op, ty, pos, aft, some (j, want)⟩ e o r undef := fun a w he _ => by
  refine .inr ⟨?_, rfl⟩
  rw [wanted_guard hj (he g _ hg)]
  simp [hb]
theorem XT.vcall {c : Cx} {ops : Array Oper} {fl : List Nat} {f : List PHeap} {k : List Item} {e : Env} {o r : List PHeap} {i0 d : Nat} {ty : TypeId} {pos : String} {aft : Array Edge} {bb : Bool} {tt uu : Plan}
    {x : Operand} {l : List Operand} {tys : Array TypeId} {y : Value} {vs : List Value} {Hm Hr : List PHeap} {R : Value → List PHeap → Prop} {o1 : List PHeap}
    (hi : ops[i0]? = some ⟨some d, .call ⟨.value x, l.toArray, tys⟩, ty, pos, aft, none⟩) (hok : okOper c.N ⟨some d, .call ⟨.value x, l.toArray, tys⟩, ty, pos, aft, none⟩ = true)
    (hx : ev e x = some y) (hl : evs e l = some vs) (hS : VSpec c.P y vs Hm Hr R) [t : Takes Hm o o1] [al : AllIn Hr o1 (c.B :: r)]
    (h : ∀ v hs, R v hs → Keeps bb f (hs ++ o1) ∧ XT c ops fl f k r tt ((d, some v) :: e) (hs ++ o1)) (hu : XT c ops fl f k r uu e o) :
    XT c ops fl f k r (.br i0 bb tt uu) e o := XT.s hi hok (Stp.vcall hx hl hS) (fun v o2 ⟨hs, hR, h2⟩ => by subst h2; exact h v hs hR) hu

/-- A heap that is one of two that are read. -/
class Either (x : PHeap) (a b : outParam PHeap) : Prop where
  pf : x = a ∨ x = b
instance (priority := low) InM.either (x a b : PHeap) (o r : List PHeap) [t : Either x a b] [ia : InM a o r] [ib : InM b o r] : InM x o r := ⟨t.pf.elim (fun h => h ▸ ia.pf) (fun h => h ▸ ib.pf)⟩
/-! ### iterators with fresh values -/
/-- It yields n times; K: all that it has yielded, to be read in the rounds, owned at the end; Hs: what the iterator itself holds. -/
def ItK (P : Program) (y : Value) (n : Nat) (Y : Nat → PHeap → List Value → Prop) (Hs Hg : List PHeap) : Prop :=
  ∀ (f : Value) (Hr : List PHeap) (Q : Nat → PHeap → PHeap → Prop) (X : PHeap → PHeap → Prop),
    (∀ i K K' q, leH K K' → Q i K q → Q i K' q) →
    (∀ i, i < n → ∀ K vs q, Y i K vs → Q i K q → VSpec P f vs [q] (K :: Hr) (fun v hs => ∃ b q', v = .bool b ∧ hs = [q'] ∧ (b = true → Q (i + 1) K q') ∧ (b = false → X K q'))) →
    ∀ q, Q 0 emp q → VSpec P y [f] (q :: Hs) (Hg ++ Hr) (fun _ hs => ∃ q' K, hs = [q', K] ∧ (Q n K q' ∨ X K q'))
theorem XK.rangeK {P : Program} {f : FuncId} {N : Nat} {B : PHeap} {E : Frame → World → Prop} {X : Type} {k : List Item} {e : Env} {o o1 ok r : List PHeap} {x : Operand} {y : Value} {ps : List Tmp} {asn bd : Code} {Hs Hg : List PHeap} {n : Nat} {Y : Nat → PHeap → List Value → Prop}
    (oc : X → List PHeap) (I : Nat → X → PHeap → Prop) (J : Code → X → PHeap → Prop) (x0 : X) (o0 : List PHeap) (hx : ev e x = some y) (hit : ItK P y n Y Hs Hg)
    [rst : Rest o0 o o1] [tk : Takes Hs o1 ok] (ho0 : oc x0 = o0) (hmono : ∀ i x K K', leH K K' → I i x K → I i x K') (h0 : I 0 x0 emp)
    [al : AllIn Hg ok (B :: r)] (hps : ps.all (fun p => Nat.blt p N) = true) (hlen : ∀ i K vs, Y i K vs → vs.length = ps.length)
    (round : ∀ l rec B' i x K vs, i < n → Y i K vs → I i x K → XK (rcx P f N l rec B' (RoundR oc (fun x => I (i + 1) x K) (fun j x => J j x K))) [.code asn, .beginRound, .code bd] (pars ps vs e) (rdy l rec :: oc x) (K :: (ok ++ r)))
    (cont : ∀ x K, I n x K → XK ⟨P, f, none, N, B, E⟩ k e (oc x ++ K :: ok) r)
    (jump : ∀ j x K, J j x K → XK ⟨P, f, none, N, B, E⟩ (.code j :: k) e (oc x ++ K :: ok) r) :
    XK ⟨P, f, none, N, B, E⟩ (.code (.rangeFunc x ps.toArray asn bd) :: k) e o r := fun D ds a w cs ha he hD hm => by
  have hm0 : Sep (D :: (o0 ++ o1)) (B :: r) w := rst.wk.sepD hm
  have hm1 : Sep (D :: (o0 ++ (Hs ++ ok))) (B :: r) w := hm0.perm ((tk.pf.append_left o0).cons D)
  let rec' : Loop := { state := .ready, pending := none, fn := f, tmps := a, params := ps.toArray, assign := asn, body := bd, defers := w.heap.size }
  let l := w.heap.size + 1
  let w1 := (w.alloc (.deferred (some []))).alloc (.loop rec')
  have henter : (Instr.enterLoop f a ps.toArray asn bd none).run P w = .ok (l, [{ target := .collected w.heap.size, args := #[] }]) w1 := run_enterLoop_outer f a ps.toArray asn bd
  have hs1 : Sep (rdy l rec' :: sing w.heap.size (.deferred (some [])) :: D :: (o0 ++ (Hs ++ ok))) (B :: r) w1 := by
    have := (hm1.push (.deferred (some []))).push (.loop rec')
    simp only [Array.size_push] at this
    exact this
  let D' := Go.X.join [sing w.heap.size (.deferred (some [])), D]
  have hs2 : Sep (D' :: rdy l rec' :: (o0 ++ (Hs ++ ok))) (B :: r) w1 := by
    refine Sep.join (hs := [sing w.heap.size (.deferred (some [])), D]) (hs1.perm ?_)
    exact (List.Perm.swap _ _ _).trans ((List.Perm.swap _ _ _).cons _)
  have hD' : Marked D' (w.heap.size :: ds) := by
    refine ⟨List.nodup_cons.2 ⟨fun hmem => ?_, hD.1⟩, fun b => ?_⟩
    · have := sub_lt (hm.so D List.mem_cons_self) (b := w.heap.size) (o := .deferred (some [])) (by rw [hD.2, if_pos hmem])
      omega
    · simp only [D', Go.X.join, sing, emp, Option.or_none, hD.2 b, List.mem_cons]
      by_cases hb : b = w.heap.size
      · simp [hb]
      · simp [hb]
  have hs3 : Sep ((Go.X.join (rdy l rec' :: o0) :: Hs) ++ (D' :: ok)) (B :: r) w1 := by
    refine (Sep.join (hs := rdy l rec' :: o0) (o := D' :: (Hs ++ ok)) (hs2.perm ?_)).perm ?_
    · show (D' :: ((rdy l rec' :: o0) ++ (Hs ++ ok))).Perm ((rdy l rec' :: o0) ++ D' :: (Hs ++ ok))
      exact List.perm_middle.symm
    · show (_ :: D' :: (Hs ++ ok)).Perm (_ :: (Hs ++ D' :: ok))
      exact List.perm_middle.symm.cons _
  have hp0 : PD (rdy l rec' :: oc x0) := by
    rw [ho0]
    have hsub : (rdy l rec' :: o0).Sublist (rdy l rec' :: (o0 ++ (Hs ++ ok))) := List.Sublist.cons_cons _ (List.sublist_append_left _ _)
    exact ⟨hs2.tail.pw.sublist hsub, fun h hh => hs2.tail.no h (hsub.mem hh)⟩
  have hpsN : ∀ p ∈ ps, p < N := fun p hp => by
    have := List.all_eq_true.1 hps p hp
    rwa [Nat.blt_eq] at this
  have hyield : ∀ i, i < n → ∀ K vs q, Y i K vs → (∃ x, I i x K ∧ PD (rdy l rec' :: oc x) ∧ q = Go.X.join (rdy l rec' :: oc x)) →
      VSpec P (.func (.yield l) #[] #[]) vs [q] (K :: (ok ++ r)) (fun v hs => ∃ b q', v = .bool b ∧ hs = [q'] ∧
        (b = true → ∃ x, I (i + 1) x K ∧ PD (rdy l rec' :: oc x) ∧ q' = Go.X.join (rdy l rec' :: oc x)) ∧
        (b = false → ∃ j x, J j x K ∧ PD (ovr l rec' (some j) :: oc x) ∧ q' = Go.X.join (ovr l rec' (some j) :: oc x))) := by
    rintro i hi K vs q hY ⟨x, hI, hp, rfl⟩
    refine ((VSpec.round (rec := rec') (N := N) (e := e) rfl ha he hpsN (hlen i K vs hY) (fun B' => round l rec' B' i x K vs hi hY hI)).joined hp).mono ?_
    rintro v hs ⟨hs', ⟨j, hs'', rfl, rfl, hR⟩, hpw, rfl⟩
    refine ⟨_, _, rfl, rfl, ?_, ?_⟩
    · intro hj
      cases j with
      | some j => cases hj
      | none =>
        obtain ⟨x', h1, rfl⟩ := hR
        exact ⟨x', h1, hpw, rfl⟩
    · intro hj
      cases j with
      | none => cases hj
      | some j =>
        obtain ⟨x', h1, rfl⟩ := hR
        exact ⟨j, x', h1, hpw, rfl⟩
  have hN := hit _ (ok ++ r) (fun i K q => ∃ x, I i x K ∧ PD (rdy l rec' :: oc x) ∧ q = Go.X.join (rdy l rec' :: oc x)) _ (fun i K K' q hle ⟨x, hI, h1⟩ => ⟨x, hmono i x K K' hle hI, h1⟩) hyield (Go.X.join (rdy l rec' :: o0)) ⟨x0, h0, hp0, by rw [ho0]⟩ (D' :: ok) (B :: r) w1 hs3 (fun h hh => by
    rcases List.mem_append.1 hh with hh | hh
    · exact orMap (al.pf h hh) (List.mem_cons_of_mem _) id
    · rcases List.mem_append.1 hh with hh | hh
      · exact .inl (List.mem_cons_of_mem _ hh)
      · exact .inr (List.mem_cons_of_mem _ hh))
  obtain ⟨v, w', ⟨hs', ⟨q', K, rfl, hq⟩, hS⟩, st⟩ := step_range (ds := marks ds) (k := k) (cs := cs) henter (ev_rel he hx) hN
  have hperm : ∀ g : List PHeap, (g ++ ([K] ++ (D' :: ok))).Perm (D' :: (g ++ K :: ok)) := fun g => by
    refine ((List.Perm.swap D' K ok).append_left g).trans ?_
    exact List.perm_middle
  rcases hq with ⟨x', hI, hpw, rfl⟩ | ⟨j, x', hJ, hpw, rfl⟩
  · obtain ⟨hS2, hb⟩ := Sep.turn (y := .loop { rec' with state := .exhausted, pending := none }) (Sep.split hpw hS)
    obtain ⟨fr, w2, hE, st2⟩ := cont x' K hI D' (w.heap.size :: ds) a _ cs ha he hD' (hS2.tail.perm (hperm _))
    exact ⟨fr, w2, hE, Steps.trans st (.head (step_endRange (run_endLoop hb (by simp))) st2)⟩
  · obtain ⟨hS2, hb⟩ := Sep.turn (y := .loop { rec' with state := .exhausted, pending := some j }) (Sep.split hpw hS)
    obtain ⟨fr, w2, hE, st2⟩ := jump j x' K hJ D' (w.heap.size :: ds) a _ cs ha he hD' (hS2.tail.perm (hperm _))
    exact ⟨fr, w2, hE, Steps.trans st (.head (step_endRange (run_endLoop hb (by simp))) st2)⟩
end Go.X

/- Literals under guards: made, or not. No condition. -/
set_option linter.unusedSimpArgs false
set_option linter.unusedVariables false
namespace Go.X
section
variable {P : Program} {ops : Array Oper} {e : Env} {o r : List PHeap} {d : Option Tmp} {ty : TypeId} {pos : String} {aft : Array Edge}
theorem Stp.tells {op : Op} {φ : Prop} {j g : Nat} {want : Bool} {Ψ : Value → List PHeap → Prop} (hj : (ops[j]?).bind (·.dst) = some g) (t : Tells e g want φ) (hp : φ)
    (s : Stp P ops ⟨d, op, ty, pos, aft, none⟩ e o r Ψ) : Stp P ops ⟨d, op, ty, pos, aft, some (j, want)⟩ e o r Ψ := fun D a w he hs => by
  have h := s D a w he hs
  have hw := t.yes (d := d) (ty := ty) (pos := pos) (aft := aft) (op := op) hj he hp
  have hx : execOp (evA a) (⟨d, op, ty, pos, aft, some (j, want)⟩ : Oper) = execOp (evA a) (⟨d, op, ty, pos, aft, none⟩ : Oper) := rfl
  unfold Does at h ⊢
  rw [hw, hx, if_pos rfl]
  rwa [if_pos (by simp [Region.wanted])] at h
theorem Stp.mono {x : Oper} {Ψ Ψ' : Value → List PHeap → Prop} (s : Stp P ops x e o r Ψ) (m : ∀ v o', Ψ v o' → Ψ' v o') : Stp P ops x e o r Ψ' := fun D a w he hs =>
  (s D a w he hs).mono fun v w' ⟨o2, ⟨o', h1, h2⟩, h3⟩ => ⟨o2, ⟨o', m _ _ h1, h2⟩, h3⟩
theorem Stp.litT {α : Type} {sz : Nat} {φ : Prop} {j g : Nat} {want : Bool}
    {t el : TypeId} [u : Und P t (.slice el)] [z : TySize P el sz] {zs : List Value} [zz : Zero P el zs] {n : Nat} {l : List (Nat × Operand)} (zl cs : List Value) (xs : List α) (enc : α → List Value)
    (hj : (ops[j]?).bind (·.dst) = some g) (t2 : Tells e g want φ)
    (hzs : zs.length = sz) (hsz : Nat.blt 0 sz = true) (hn : Nat.ble (n * sz) 16777216 = true) (hzl : (List.replicate n zs).flatten = zl) (hf : φ → Fill e (fun i => some (i * sz, sz)) l zl cs)
    (henc : ∀ x, (enc x).length = sz) (hcs : xs.flatMap enc = cs) (hxn : xs.length = n) (ho : φ → Ones cs) (hle : Nat.ble n 16777216 = true) :
    Stp P ops ⟨d, .buildSlice t n l.toArray, ty, pos, aft, some (j, want)⟩ e o r (fun v o2 => ∃ h, o2 = h :: o ∧ (φ → OArr v enc sz el h xs) ∧ (¬ φ → v = undef)) := by
  by_cases hp : φ
  · exact (Stp.tells hj t2 hp ((Makes.lit (t := t) (el := el) (zs := zs) cs hzs hsz hn (by rw [hzl]; exact hf hp)).stp _ _)).mono fun v o' ⟨b, hv, ho'⟩ =>
      ⟨_, ho', fun _ => by subst hv; exact OArr.lit xs enc henc hcs hxn (ho hp) hle, fun hn => absurd hp hn⟩
  · intro D a w he hs
    unfold Does
    rw [t2.no hj he hp, if_neg (by decide)]
    exact ⟨emp :: D :: o, ⟨emp :: o, ⟨emp, rfl, fun h => absurd h hp, fun _ => rfl⟩, List.Perm.swap _ _ _⟩, hs.emp 1⟩
end
section
variable {c : Cx} {ops : Array Oper} {rest : List Oper} {k : List Item} {e : Env} {o r : List PHeap} {d : Nat} {ty : TypeId} {pos : String} {aft : Array Edge}
variable {fl : List Nat} {f : List PHeap} {i0 : Nat} {bb : Bool} {tt uu : Plan}
variable {α : Type} {sz : Nat} {j g : Nat} {want b b1 w1 : Bool} {t el : TypeId} [u : Und c.P t (.slice el)] [z : TySize c.P el sz] {zs : List Value} [zz : Zero c.P el zs] {n : Nat} {l : List (Nat × Operand)} (zl cs : List Value) (xs : List α) (enc : α → List Value)
theorem lz_of {b w : Bool} {v : Value} (h : ¬ b = w → v = undef) : v = lz b w v := by
  unfold lz
  split
  · rfl
  · exact h ‹_›
theorem lz_of2 {b1 w1 b w : Bool} {v : Value} (h : ¬ (b1 = w1 ∧ b = w) → v = undef) : v = lz b1 w1 (lz b w v) := by
  unfold lz
  split
  · split
    · rfl
    · exact h (fun hh => by rename_i h2; exact h2 hh.2)
  · exact h (fun hh => by rename_i h2; exact h2 hh.1)
theorem XO.lit1 (hj : (ops[j]?).bind (·.dst) = some g) (hg : find e g = some (.bool b))
    (hzs : zs.length = sz) (hsz : Nat.blt 0 sz = true) (hn : Nat.ble (n * sz) 16777216 = true) (hzl : (List.replicate n zs).flatten = zl) (hf : b = want → Fill e (fun i => some (i * sz, sz)) l zl cs)
    (henc : ∀ x, (enc x).length = sz) (hcs : xs.flatMap enc = cs) (hxn : xs.length = n) (ho : b = want → Ones cs) (hle : Nat.ble n 16777216 = true)
    (hnx : ∀ v' h', (b = want → OArr v' enc sz el h' xs) → XO c ops rest k ((d, some (lz b want v')) :: e) (h' :: o) r) :
    XO c ops (⟨some d, .buildSlice t n l.toArray, ty, pos, aft, some (j, want)⟩ :: rest) k e o r :=
  XO.s (Stp.litT zl cs xs enc hj (.d1 hg) hzs hsz hn hzl hf henc hcs hxn ho hle) fun v o2 ⟨h, h1, h2, h3⟩ => by
    subst h1
    have := hnx v h h2
    rwa [← lz_of h3] at this
theorem XO.lit2 (hj : (ops[j]?).bind (·.dst) = some g) (hg : find e g = some (lz b1 w1 (.bool b)))
    (hzs : zs.length = sz) (hsz : Nat.blt 0 sz = true) (hn : Nat.ble (n * sz) 16777216 = true) (hzl : (List.replicate n zs).flatten = zl) (hf : b1 = w1 → b = want → Fill e (fun i => some (i * sz, sz)) l zl cs)
    (henc : ∀ x, (enc x).length = sz) (hcs : xs.flatMap enc = cs) (hxn : xs.length = n) (ho : b1 = w1 → b = want → Ones cs) (hle : Nat.ble n 16777216 = true)
    (hnx : ∀ v' h', (b1 = w1 → b = want → OArr v' enc sz el h' xs) → XO c ops rest k ((d, some (lz b1 w1 (lz b want v'))) :: e) (h' :: o) r) :
    XO c ops (⟨some d, .buildSlice t n l.toArray, ty, pos, aft, some (j, want)⟩ :: rest) k e o r :=
  XO.s (Stp.litT zl cs xs enc hj (.d2 hg) hzs hsz hn hzl (fun h => hf h.1 h.2) henc hcs hxn (fun h => ho h.1 h.2) hle) fun v o2 ⟨h, h1, h2, h3⟩ => by
    subst h1
    have := hnx v h (fun a b => h2 ⟨a, b⟩)
    rwa [← lz_of2 h3] at this
theorem XT.lit1 (hi : ops[i0]? = some ⟨some d, .buildSlice t n l.toArray, ty, pos, aft, some (j, want)⟩) (hok : okOper c.N ⟨some d, .buildSlice t n l.toArray, ty, pos, aft, some (j, want)⟩ = true)
    (hj : (ops[j]?).bind (·.dst) = some g) (hg : find e g = some (.bool b))
    (hzs : zs.length = sz) (hsz : Nat.blt 0 sz = true) (hn : Nat.ble (n * sz) 16777216 = true) (hzl : (List.replicate n zs).flatten = zl) (hf : b = want → Fill e (fun i => some (i * sz, sz)) l zl cs)
    (henc : ∀ x, (enc x).length = sz) (hcs : xs.flatMap enc = cs) (hxn : xs.length = n) (ho : b = want → Ones cs) (hle : Nat.ble n 16777216 = true)
    (hnx : ∀ v' h', (b = want → OArr v' enc sz el h' xs) → Keeps bb f (h' :: o) ∧ XT c ops fl f k r tt ((d, some (lz b want v')) :: e) (h' :: o)) (hu : XT c ops fl f k r uu e o) : XT c ops fl f k r (.br i0 bb tt uu) e o :=
  XT.s hi hok (Stp.litT zl cs xs enc hj (.d1 hg) hzs hsz hn hzl hf henc hcs hxn ho hle) (fun v o2 ⟨h, h1, h2, h3⟩ => by
    subst h1
    have := hnx v h h2
    rwa [← lz_of h3] at this) hu
theorem XT.lit2 (hi : ops[i0]? = some ⟨some d, .buildSlice t n l.toArray, ty, pos, aft, some (j, want)⟩) (hok : okOper c.N ⟨some d, .buildSlice t n l.toArray, ty, pos, aft, some (j, want)⟩ = true)
    (hj : (ops[j]?).bind (·.dst) = some g) (hg : find e g = some (lz b1 w1 (.bool b)))
    (hzs : zs.length = sz) (hsz : Nat.blt 0 sz = true) (hn : Nat.ble (n * sz) 16777216 = true) (hzl : (List.replicate n zs).flatten = zl) (hf : b1 = w1 → b = want → Fill e (fun i => some (i * sz, sz)) l zl cs)
    (henc : ∀ x, (enc x).length = sz) (hcs : xs.flatMap enc = cs) (hxn : xs.length = n) (ho : b1 = w1 → b = want → Ones cs) (hle : Nat.ble n 16777216 = true)
    (hnx : ∀ v' h', (b1 = w1 → b = want → OArr v' enc sz el h' xs) → Keeps bb f (h' :: o) ∧ XT c ops fl f k r tt ((d, some (lz b1 w1 (lz b want v'))) :: e) (h' :: o)) (hu : XT c ops fl f k r uu e o) : XT c ops fl f k r (.br i0 bb tt uu) e o :=
  XT.s hi hok (Stp.litT zl cs xs enc hj (.d2 hg) hzs hsz hn hzl (fun h => hf h.1 h.2) henc hcs hxn (fun h => ho h.1 h.2) hle) (fun v o2 ⟨h, h1, h2, h3⟩ => by
    subst h1
    have := hnx v h (fun a b => h2 ⟨a, b⟩)
    rwa [← lz_of2 h3] at this) hu
end
end Go.X

/- Plain facts on lists. No condition. -/
set_option linter.unusedVariables false
namespace Go.X
theorem take_step {α : Type} [Inhabited α] {xs ys : List α} {i : Nat} (h : xs.take i = ys.take i) (hx : i < xs.length) (hy : i < ys.length) (he : xs.getD i default = ys.getD i default) : xs.take (i + 1) = ys.take (i + 1) := by
  rw [List.take_succ_eq_append_getElem hx, List.take_succ_eq_append_getElem hy, h]
  simp [hx, hy] at he
  rw [he]
theorem take_all {α : Type} {xs ys : List α} {i : Nat} (h : xs.take i = ys.take i) (hx : ¬ (i : Int) < xs.length) (hl : xs.length = ys.length) : xs = ys := by
  rw [List.take_of_length_le (by omega), List.take_of_length_le (by omega)] at h
  exact h
theorem getD_mem {α : Type} [Inhabited α] {xs : List α} {i : Nat} (h : i < xs.length) : xs.getD i default ∈ xs := by
  simp [h]
/-- The first place that a test takes; -1 if there is none. -/
def findFirst {α : Type} (p : α → Bool) (xs : List α) : Int := match xs.findIdx? p with
  | some i => i
  | none => -1
theorem any_step {α : Type} [Inhabited α] {p : α → Bool} {xs : List α} {i : Nat} (h : (xs.take i).any p = false) (hx : i < xs.length) (hp : p (xs.getD i default) = false) : (xs.take (i + 1)).any p = false := by
  rw [List.take_succ_eq_append_getElem hx, List.any_append, h]
  simp [hx] at hp
  simp [hp]
theorem findFirst_here {α : Type} [Inhabited α] {p : α → Bool} {xs : List α} {i : Nat} (h : (xs.take i).any p = false) (hx : i < xs.length) (hp : p (xs.getD i default) = true) : findFirst p xs = i := by
  unfold findFirst
  have : xs.findIdx? p = some i := by
    rw [List.findIdx?_eq_some_iff_getElem]
    simp [hx] at hp
    refine ⟨hx, hp, fun j hj => ?_⟩
    have := List.any_eq_false.1 h xs[j] (by rw [List.mem_take_iff_getElem]; exact ⟨j, by omega, rfl⟩)
    simpa using this
  rw [this]
theorem findFirst_none {α : Type} {p : α → Bool} {xs : List α} {i : Nat} (h : (xs.take i).any p = false) (hx : ¬ (i : Int) < xs.length) : findFirst p xs = -1 := by
  rw [List.take_of_length_le (by omega)] at h
  unfold findFirst
  have : xs.findIdx? p = none := by
    rw [List.findIdx?_eq_none_iff]
    intro x hx
    have := List.any_eq_false.1 h x hx
    simpa using this
  rw [this]
theorem findFirst_any {α : Type} {p : α → Bool} {xs : List α} : decide ((0 : Int) ≤ findFirst p xs) = xs.any p := by
  unfold findFirst
  cases h : xs.findIdx? p with
  | none =>
    rw [List.findIdx?_eq_none_iff] at h
    have : xs.any p = false := List.any_eq_false.2 (fun x hx => by simp [h x hx])
    simp [this]
  | some i =>
    rw [List.findIdx?_eq_some_iff_getElem] at h
    obtain ⟨hi, hp, _⟩ := h
    have : xs.any p = true := List.any_eq_true.2 ⟨xs[i], List.getElem_mem hi, hp⟩
    simp only [this, decide_eq_true_eq]
    omega
end Go.X

/- Halls, in plain numbers and lists. No condition. -/
set_option linter.unusedVariables false
namespace Go.X
structure HRoom where
  store : Int
  limit : Int
structure HWall where
  a : Int
  b : Int
  pass : Int
structure HBranch where
  up : Int
  opn : Int
  leak : Int
structure HCooler where
  room : Int
  br : Int
  gain : Int
  carry : Int
  supply : Int
instance : Inhabited HRoom := ⟨⟨0, 0⟩⟩
instance : Inhabited HWall := ⟨⟨0, 0, 0⟩⟩
instance : Inhabited HBranch := ⟨⟨0, 0, 0⟩⟩
instance : Inhabited HCooler := ⟨⟨0, 0, 0, 0, 0⟩⟩
structure Hall where
  rooms : List HRoom
  walls : List HWall
  branches : List HBranch
  coolers : List HCooler
structure HCase where
  load : List Int
  out : Int
  pump : Int
def sumTo (f : Nat → Int) : Nat → Int
  | 0 => 0
  | n + 1 => sumTo f n + f n
def inP (n m : Int) : Bool := decide (0 ≤ n) && decide (n ≤ m)
def ixP (n : Int) (len : Nat) : Bool := decide (0 ≤ n) && decide (n < (len : Int))
def okRoom (x : HRoom) : Bool := (decide (1 ≤ x.store) && decide (x.store ≤ 1000000)) && inP x.limit 1000000
def okWall (n : Nat) (x : HWall) : Bool := ((ixP x.a n && (decide (x.b = -1) || ixP x.b n)) && decide (x.a ≠ x.b)) && inP x.pass 100000
def okBranch (i : Nat) (x : HBranch) : Bool := ((if i = 0 then decide (x.up = -1) else ixP x.up i) && inP x.opn 100) && inP x.leak 100000
def okCooler (n m : Nat) (x : HCooler) : Bool := (((ixP x.room n && ixP x.br m) && inP x.gain 100000) && inP x.carry 1000) && inP x.supply 1000000
/-- All of the first n. -/
def allTo (p : Nat → Bool) (n : Nat) : Bool := (List.range n).all p
theorem allTo_succ {p : Nat → Bool} {n : Nat} : allTo p (n + 1) = (allTo p n && p n) := by
  unfold allTo; rw [List.range_succ, List.all_append]; simp
theorem allTo_false {p : Nat → Bool} {n s : Nat} (hs : s < n) (h : p s = false) : allTo p n = false := by
  unfold allTo
  rw [List.all_eq_false]
  exact ⟨s, List.mem_range.2 hs, by simp [h]⟩
theorem allTo_at {p : Nat → Bool} {n s : Nat} (h : allTo p n = true) (hs : s < n) : p s = true := by
  unfold allTo at h
  rw [List.all_eq_true] at h
  exact h s (List.mem_range.2 hs)
def roomsOk (h : Hall) (n : Nat) : Bool := allTo (fun i => okRoom (h.rooms.getD i default)) n
def wallsOk (h : Hall) (n : Nat) : Bool := allTo (fun i => okWall h.rooms.length (h.walls.getD i default)) n
def branchesOk (h : Hall) (n : Nat) : Bool := allTo (fun i => okBranch i (h.branches.getD i default)) n
def coolersOk (h : Hall) (n : Nat) : Bool := allTo (fun i => okCooler h.rooms.length h.branches.length (h.coolers.getD i default)) n
def allowedP (h : Hall) : Bool := ((roomsOk h h.rooms.length && wallsOk h h.walls.length) && branchesOk h h.branches.length) && coolersOk h h.coolers.length
def wslope (h : Hall) (i : Nat) (k : Nat) : Int := if (h.walls.getD k default).a = i ∨ (h.walls.getD k default).b = i then (h.walls.getD k default).pass else 0
def cslope (h : Hall) (i : Nat) (k : Nat) : Int := if (h.coolers.getD k default).room = i then (h.coolers.getD k default).gain else 0
def slope (h : Hall) (i : Nat) : Int := sumTo (wslope h i) h.walls.length + sumTo (cslope h i) h.coolers.length
def hcheck (h : Hall) : Int :=
  if (((((h.rooms.length : Int) < 1 ∨ 8 < (h.rooms.length : Int)) ∨ 16 < (h.walls.length : Int)) ∨ 16 < (h.branches.length : Int)) ∨ 16 < (h.coolers.length : Int)) then 2
  else if allowedP h = false then 6
  else if allTo (fun i => decide (slope h i ≤ (h.rooms.getD i default).store)) h.rooms.length = true then 0 else 70
/-- What is known of a valid hall. -/
structure HOk (h : Hall) : Prop where
  r1 : 1 ≤ h.rooms.length
  r2 : h.rooms.length ≤ 8
  w2 : h.walls.length ≤ 16
  b2 : h.branches.length ≤ 16
  c2 : h.coolers.length ≤ 16
  room : ∀ i, i < h.rooms.length → 1 ≤ (h.rooms.getD i default).store ∧ (h.rooms.getD i default).store ≤ 1000000 ∧ 0 ≤ (h.rooms.getD i default).limit ∧ (h.rooms.getD i default).limit ≤ 1000000
  wall : ∀ i, i < h.walls.length → (0 ≤ (h.walls.getD i default).a ∧ (h.walls.getD i default).a < h.rooms.length) ∧ ((h.walls.getD i default).b = -1 ∨ (0 ≤ (h.walls.getD i default).b ∧ (h.walls.getD i default).b < h.rooms.length)) ∧
    (h.walls.getD i default).a ≠ (h.walls.getD i default).b ∧ 0 ≤ (h.walls.getD i default).pass ∧ (h.walls.getD i default).pass ≤ 100000
  branch : ∀ i, i < h.branches.length → (if i = 0 then (h.branches.getD i default).up = -1 else 0 ≤ (h.branches.getD i default).up ∧ (h.branches.getD i default).up < i) ∧ (0 ≤ (h.branches.getD i default).opn ∧ (h.branches.getD i default).opn ≤ 100) ∧
    0 ≤ (h.branches.getD i default).leak ∧ (h.branches.getD i default).leak ≤ 100000
  cooler : ∀ i, i < h.coolers.length → (0 ≤ (h.coolers.getD i default).room ∧ (h.coolers.getD i default).room < h.rooms.length) ∧ (0 ≤ (h.coolers.getD i default).br ∧ (h.coolers.getD i default).br < h.branches.length) ∧
    (0 ≤ (h.coolers.getD i default).gain ∧ (h.coolers.getD i default).gain ≤ 100000) ∧ (0 ≤ (h.coolers.getD i default).carry ∧ (h.coolers.getD i default).carry ≤ 1000) ∧ 0 ≤ (h.coolers.getD i default).supply ∧ (h.coolers.getD i default).supply ≤ 1000000
  slope : ∀ i, i < h.rooms.length → X.slope h i ≤ (h.rooms.getD i default).store
theorem hcheck_ok {h : Hall} (hc : hcheck h = 0) : HOk h := by
  unfold hcheck at hc
  split at hc
  · omega
  · rename_i h1
    split at hc
    · omega
    · rename_i h2
      split at hc
      · rename_i h3
        simp only [Bool.not_eq_false, allowedP, Bool.and_eq_true] at h2
        obtain ⟨⟨⟨a1, a2⟩, a3⟩, a4⟩ := h2
        refine ⟨by omega, by omega, by omega, by omega, by omega, fun i hi => ?_, fun i hi => ?_, fun i hi => ?_, fun i hi => ?_, fun i hi => ?_⟩
        · have := allTo_at a1 hi
          simp only [okRoom, inP, Bool.and_eq_true, decide_eq_true_eq] at this
          omega
        · have := allTo_at a2 hi
          simp only [okWall, inP, ixP, Bool.and_eq_true, Bool.or_eq_true, decide_eq_true_eq] at this
          omega
        · have := allTo_at a3 hi
          simp only [okBranch, inP, ixP, Bool.and_eq_true, decide_eq_true_eq] at this
          by_cases h0 : i = 0
          · subst h0; simp only [if_true, decide_eq_true_eq] at this ⊢; omega
          · rw [if_neg h0] at this ⊢
            simp only [Bool.and_eq_true, decide_eq_true_eq] at this
            omega
        · have := allTo_at a4 hi
          simp only [okCooler, inP, ixP, Bool.and_eq_true, decide_eq_true_eq] at this
          omega
        · have := allTo_at h3 hi
          simpa using this
      · omega
/-- The sum of what is open below a branch. -/
def sumOpen (h : Hall) (u : Int) (n : Nat) : Int := sumTo (fun k => if (h.branches.getD k default).up = u then (h.branches.getD k default).opn else 0) n
def feedOf (h : Hall) (pump : Int) (out : List Int) (n : Nat) : Int :=
  if n = 0 then pump
  else if 0 < sumOpen h (h.branches.getD n default).up h.branches.length then
    out.getD (h.branches.getD n default).up.toNat 0 * (h.branches.getD n default).opn / sumOpen h (h.branches.getD n default).up h.branches.length
  else 0
def flowsTo (h : Hall) (pump : Int) : Nat → List Int
  | 0 => []
  | n + 1 => flowsTo h pump n ++ [max (feedOf h pump (flowsTo h pump n) n - (h.branches.getD n default).leak) 0]
def flowsL (h : Hall) (pump : Int) : List Int := flowsTo h pump h.branches.length
def onBr (h : Hall) (b : Int) (n : Nat) : Int := sumTo (fun k => if (h.coolers.getD k default).br = b then 1 else 0) n
def takenAt (h : Hall) (t f : List Int) (k : Nat) : Int :=
  min (max ((h.coolers.getD k default).gain * (t.getD (h.coolers.getD k default).room.toNat 0 - (h.coolers.getD k default).supply)) 0)
    ((h.coolers.getD k default).carry * f.getD (h.coolers.getD k default).br.toNat 0 / onBr h (h.coolers.getD k default).br h.coolers.length)
def takenL (h : Hall) (t : List Int) (pump : Int) : List Int := (List.range h.coolers.length).map (takenAt h t (flowsL h pump))
def wheat (h : Hall) (t : List Int) (out : Int) (i : Nat) (k : Nat) : Int :=
  if (h.walls.getD k default).a = i then (h.walls.getD k default).pass * ((if 0 ≤ (h.walls.getD k default).b then t.getD (h.walls.getD k default).b.toNat 0 else out) - t.getD i 0)
  else if (h.walls.getD k default).b = i then (h.walls.getD k default).pass * (t.getD (h.walls.getD k default).a.toNat 0 - t.getD i 0)
  else 0
def cheat (h : Hall) (taken : List Int) (i : Nat) (k : Nat) : Int := if (h.coolers.getD k default).room = i then - taken.getD k 0 else 0
def heatOf (h : Hall) (t : List Int) (c : HCase) (i : Nat) : Int :=
  (h.rooms.getD i default).store * t.getD i 0 + c.load.getD i 0 + sumTo (wheat h t c.out i) h.walls.length + sumTo (cheat h (takenL h t c.pump) i) h.coolers.length
def nextAt (h : Hall) (t : List Int) (c : HCase) (i : Nat) : Int := min (heatOf h t c i / (h.rooms.getD i default).store) 1000000
def nextL (h : Hall) (t : List Int) (c : HCase) : List Int := (List.range h.rooms.length).map (nextAt h t c)
def warmP (h : Hall) (t : List Int) : Int := if (t.length : Int) ≠ h.rooms.length then 1 else if t.any (fun n => !inP n 1000000) = true then 6 else 0
def casedP (h : Hall) (c : HCase) : Int := if (c.load.length : Int) ≠ h.rooms.length then 1 else if (c.load.any (fun n => !inP n 10000000) = true ∨ ¬ inP c.out 1000000 = true) ∨ ¬ inP c.pump 100000 = true then 6 else 0
def bothP (l : List Int) : Int := if 1 ∈ l then 1 else if 6 ∈ l then 6 else 0
def nextG (h : Hall) (t : List Int) (c : HCase) : List Int × Int :=
  if hcheck h ≠ 0 then ([], hcheck h) else if bothP [warmP h t, casedP h c] ≠ 0 then ([], bothP [warmP h t, casedP h c]) else (nextL h t c, 0)
def flowsG (h : Hall) (pump : Int) : List Int × Int := if hcheck h ≠ 0 then ([], hcheck h) else if ¬ inP pump 100000 = true then ([], 6) else (flowsL h pump, 0)
structure TOk (h : Hall) (t : List Int) : Prop where
  len : t.length = h.rooms.length
  rng : ∀ i, i < t.length → 0 ≤ t.getD i 0 ∧ t.getD i 0 ≤ 1000000
structure COk (h : Hall) (c : HCase) : Prop where
  len : c.load.length = h.rooms.length
  rng : ∀ i, i < c.load.length → 0 ≤ c.load.getD i 0 ∧ c.load.getD i 0 ≤ 10000000
  out : 0 ≤ c.out ∧ c.out ≤ 1000000
  pump : 0 ≤ c.pump ∧ c.pump ≤ 100000
theorem any_no {l : List Int} {m : Int} (h : ¬ l.any (fun n => !inP n m) = true) (i : Nat) (hi : i < l.length) : 0 ≤ l.getD i 0 ∧ l.getD i 0 ≤ m := by
  have h1 : l.any (fun n => !inP n m) = false := by simpa using h
  have := List.any_eq_false.1 h1 (l.getD i 0) (getD_mem hi)
  simp only [inP, Bool.not_eq_true', Bool.and_eq_false_iff, decide_eq_false_iff_not] at this
  omega
theorem warm_ok {h : Hall} {t : List Int} (hw : warmP h t = 0) : TOk h t := by
  unfold warmP at hw
  split at hw
  · omega
  · split at hw
    · omega
    · rename_i h1 h2
      exact ⟨by omega, any_no h2⟩
theorem cased_ok {h : Hall} {c : HCase} (hw : casedP h c = 0) : COk h c := by
  unfold casedP at hw
  split at hw
  · omega
  · split at hw
    · omega
    · rename_i h1 h2
      simp only [not_or, Classical.not_not] at h2
      obtain ⟨⟨a, b⟩, d⟩ := h2
      simp only [inP, Bool.and_eq_true, decide_eq_true_eq] at b d
      exact ⟨by omega, any_no a, b, d⟩
theorem warm_vals (h : Hall) (t : List Int) : warmP h t = 0 ∨ warmP h t = 1 ∨ warmP h t = 6 := by
  unfold warmP; split
  · simp
  · split <;> simp
theorem cased_vals (h : Hall) (c : HCase) : casedP h c = 0 ∨ casedP h c = 1 ∨ casedP h c = 6 := by
  unfold casedP; split
  · simp
  · split <;> simp
theorem both_ok {h : Hall} {t : List Int} {c : HCase} (hb : bothP [warmP h t, casedP h c] = 0) : TOk h t ∧ COk h c := by
  have h1 := warm_vals h t
  have h2 := cased_vals h c
  unfold bothP at hb
  split at hb
  · omega
  · split at hb
    · omega
    · rename_i h3 h4
      simp only [List.mem_cons, List.not_mem_nil, or_false, not_or] at h3 h4
      exact ⟨warm_ok (by omega), cased_ok (by omega)⟩
end Go.X

/- Flows: what a branch has; below which branch it hangs. No condition. -/
set_option linter.unusedVariables false
namespace Go.X
theorem sum_zero {f : Nat → Int} : ∀ {n : Nat}, (∀ k, k < n → f k = 0) → sumTo f n = 0
  | 0, _ => rfl
  | n + 1, h => by rw [sumTo, sum_zero fun k hk => h k (by omega), h n (by omega)]; rfl
theorem sum_nonneg {f : Nat → Int} : ∀ {n : Nat}, (∀ k, k < n → 0 ≤ f k) → 0 ≤ sumTo f n
  | 0, _ => Int.le_refl _
  | n + 1, h => by
    have h1 := sum_nonneg (f := f) (n := n) fun k hk => h k (by omega)
    have h2 := h n (by omega)
    rw [sumTo]; omega
theorem sum_mono {f g : Nat → Int} : ∀ {n : Nat}, (∀ k, k < n → f k ≤ g k) → sumTo f n ≤ sumTo g n
  | 0, _ => Int.le_refl _
  | n + 1, h => by
    have h1 := sum_mono (f := f) (g := g) (n := n) fun k hk => h k (by omega)
    have h2 := h n (by omega)
    rw [sumTo, sumTo]; omega
theorem sum_add {f g : Nat → Int} : ∀ {n : Nat}, sumTo (fun k => f k + g k) n = sumTo f n + sumTo g n
  | 0 => rfl
  | n + 1 => by rw [sumTo, sumTo, sumTo, sum_add]; omega
theorem sum_mul {f : Nat → Int} {c : Int} : ∀ {n : Nat}, sumTo (fun k => c * f k) n = c * sumTo f n
  | 0 => by simp [sumTo]
  | n + 1 => by rw [sumTo, sumTo, sum_mul, Int.mul_add]
theorem sum_congr {f g : Nat → Int} : ∀ {n : Nat}, (∀ k, k < n → f k = g k) → sumTo f n = sumTo g n
  | 0, _ => rfl
  | n + 1, h => by rw [sumTo, sumTo, sum_congr fun k hk => h k (by omega), h n (by omega)]
theorem sum_le {f : Nat → Int} {M : Int} : ∀ {n : Nat}, (∀ k, k < n → f k ≤ M) → sumTo f n ≤ n * M
  | 0, _ => by simp [sumTo]
  | n + 1, h => by
    have h1 := sum_le (f := f) (n := n) (M := M) fun k hk => h k (by omega)
    have h2 := h n (by omega)
    have h3 : ((n + 1 : Nat) : Int) * M = n * M + M := by rw [Int.natCast_add, Int.add_mul]; simp
    rw [sumTo, h3]; omega
theorem sum_part {f : Nat → Int} {n m : Nat} (h : m ≤ n) (hf : ∀ k, k < n → 0 ≤ f k) : sumTo f m ≤ sumTo f n := by
  induction n with
  | zero => rw [show m = 0 by omega]; exact Int.le_refl _
  | succ n ih =>
    rcases Nat.lt_or_ge m (n + 1) with h1 | h1
    · have h2 := ih (by omega) fun k hk => hf k (by omega)
      have h3 := hf n (by omega)
      rw [sumTo]; omega
    · rw [show m = n + 1 by omega]; exact Int.le_refl _
theorem sum_one {f : Nat → Int} {n k : Nat} (h : k < n) (hf : ∀ k, k < n → 0 ≤ f k) : f k ≤ sumTo f n := by
  have h1 := sum_part (f := f) (n := n) (m := k + 1) (by omega) hf
  have h2 := sum_nonneg (f := f) (n := k) fun j hj => hf j (by omega)
  rw [sumTo] at h1; omega
theorem flowsTo_len (h : Hall) (pump : Int) : ∀ n, (flowsTo h pump n).length = n
  | 0 => rfl
  | n + 1 => by rw [flowsTo, List.length_append, flowsTo_len]; rfl
theorem flowsTo_getD (h : Hall) (pump : Int) {n i : Nat} (hi : i < n) : (flowsTo h pump n).getD i 0 = max (feedOf h pump (flowsTo h pump i) i - (h.branches.getD i default).leak) 0 := by
  induction n with
  | zero => omega
  | succ n ih =>
    rw [flowsTo]
    rcases Nat.lt_or_ge i n with h1 | h1
    · rw [List.getD_eq_getElem?_getD, List.getElem?_append_left (by rw [flowsTo_len]; exact h1), ← List.getD_eq_getElem?_getD]
      exact ih h1
    · have h2 : i = n := by omega
      subst h2
      rw [List.getD_eq_getElem?_getD, List.getElem?_append_right (by rw [flowsTo_len]; exact Nat.le_refl _), flowsTo_len, Nat.sub_self]
      rfl
theorem flows_len (h : Hall) (pump : Int) : (flowsL h pump).length = h.branches.length := flowsTo_len ..
section
variable {h : Hall} (ok : HOk h)
include ok
theorem up_of {i : Nat} (hi : i < h.branches.length) (h0 : i ≠ 0) : 0 ≤ (h.branches.getD i default).up ∧ (h.branches.getD i default).up < i := by
  have := (ok.branch i hi).1
  rw [if_neg h0] at this
  exact this
theorem up_zero (hi : 0 < h.branches.length) : (h.branches.getD 0 default).up = -1 := by
  have := (ok.branch 0 hi).1
  rw [if_pos rfl] at this
  exact this
theorem feed_same {pump : Int} {i : Nat} (hi : i < h.branches.length) : feedOf h pump (flowsTo h pump i) i = feedOf h pump (flowsL h pump) i := by
  unfold feedOf
  by_cases h0 : i = 0
  · rw [if_pos h0, if_pos h0]
  · rw [if_neg h0, if_neg h0]
    obtain ⟨h1, h2⟩ := up_of ok hi h0
    have e : (flowsTo h pump i).getD (h.branches.getD i default).up.toNat 0 = (flowsL h pump).getD (h.branches.getD i default).up.toNat 0 := by
      unfold flowsL
      rw [flowsTo_getD h pump (by omega), flowsTo_getD h pump (by omega)]
    rw [e]
theorem flows_at {pump : Int} {i : Nat} (hi : i < h.branches.length) : (flowsL h pump).getD i 0 = max (feedOf h pump (flowsL h pump) i - (h.branches.getD i default).leak) 0 := by
  rw [← feed_same ok hi]
  exact flowsTo_getD h pump hi
theorem open_nonneg (u : Int) {n : Nat} (hn : n ≤ h.branches.length) : 0 ≤ sumOpen h u n := sum_nonneg fun k hk => by
  have := (ok.branch k (by omega)).2.1
  split <;> omega
theorem open_le (u : Int) {n : Nat} (hn : n ≤ h.branches.length) : sumOpen h u n ≤ 1600 := by
  have h1 := sum_le (f := fun k => if (h.branches.getD k default).up = u then (h.branches.getD k default).opn else 0) (n := n) (M := 100) fun k hk => by
    have := (ok.branch k (by omega)).2.1
    split <;> omega
  have h2 := ok.b2
  change sumOpen h u n ≤ _ at h1
  omega
theorem open_one {k : Nat} (hk : k < h.branches.length) : (h.branches.getD k default).opn ≤ sumOpen h (h.branches.getD k default).up h.branches.length := by
  have := sum_one (f := fun j => if (h.branches.getD j default).up = (h.branches.getD k default).up then (h.branches.getD j default).opn else 0) hk fun j hj => by
    have := (ok.branch j hj).2.1
    split <;> omega
  rw [if_pos rfl] at this
  exact this
omit ok in
theorem share_le {x o s : Int} (hx : 0 ≤ x) (ho : 0 ≤ o) (hos : o ≤ s) (hs : 0 < s) : 0 ≤ x * o / s ∧ x * o / s ≤ x := by
  constructor
  · exact Int.ediv_nonneg (Int.mul_nonneg hx ho) (by omega)
  · have h1 : x * o ≤ x * s := Int.mul_le_mul_of_nonneg_left hos hx
    have h2 := Int.ediv_le_ediv hs h1
    rwa [Int.mul_ediv_cancel _ (by omega)] at h2
theorem flows_rng {pump : Int} (hp : 0 ≤ pump) : ∀ i, i < h.branches.length → 0 ≤ (flowsL h pump).getD i 0 ∧ (flowsL h pump).getD i 0 ≤ pump := by
  intro i
  induction i using Nat.strongRecOn with
  | _ i ih =>
    intro hi
    rw [flows_at ok hi]
    have hlk := (ok.branch i hi).2.2
    have hfd : 0 ≤ feedOf h pump (flowsL h pump) i ∧ feedOf h pump (flowsL h pump) i ≤ pump := by
      unfold feedOf
      by_cases h0 : i = 0
      · rw [if_pos h0]; omega
      · rw [if_neg h0]
        obtain ⟨h1, h2⟩ := up_of ok hi h0
        split
        · rename_i hs
          have h3 := ih _ (show (h.branches.getD i default).up.toNat < i by omega) (by omega)
          have h4 := (ok.branch i hi).2.1
          have h5 := share_le h3.1 h4.1 (open_one ok hi) hs
          omega
        · omega
    omega
end
/-- i is j, or j hangs on it, directly or not. -/
inductive Sub (h : Hall) : Nat → Nat → Prop
  | self (i : Nat) : Sub h i i
  | step {i j : Nat} (hj : j < h.branches.length) (h0 : j ≠ 0) (s : Sub h i (h.branches.getD j default).up.toNat) : Sub h i j
section
variable {h : Hall} (ok : HOk h)
include ok
theorem Sub.le {i j : Nat} (s : Sub h i j) : i ≤ j := by
  induction s with
  | self => exact Nat.le_refl _
  | step hj h0 s ih =>
    have := up_of ok hj h0
    omega
omit ok in
theorem Sub.chain {a b j : Nat} (s : Sub h a j) : Sub h b j → Sub h a b ∨ Sub h b a := by
  induction s with
  | self => intro t; exact .inr t
  | step hj h0 s ih =>
    intro t
    cases t with
    | self => exact .inl (.step hj h0 s)
    | step hj' h0' t => exact ih t
theorem Sub.one {c d i j : Nat} (s : Sub h c j) (t : Sub h d j) (hc : c < h.branches.length) (hd : d < h.branches.length) (hc0 : c ≠ 0) (hd0 : d ≠ 0) (uc : (h.branches.getD c default).up = i) (ud : (h.branches.getD d default).up = i) : c = d := by
  have h1 := up_of ok hc hc0
  have h2 := up_of ok hd hd0
  rcases s.chain t with h3 | h3
  · cases h3 with
    | self => rfl
    | step hj h0 h4 =>
      have := h4.le ok
      omega
  · cases h3 with
    | self => rfl
    | step hj h0 h4 =>
      have := h4.le ok
      omega
theorem Sub.split {i j : Nat} (s : Sub h i j) : i = j ∨ ∃ c, c < h.branches.length ∧ c ≠ 0 ∧ (h.branches.getD c default).up = i ∧ Sub h c j := by
  induction s with
  | self => exact .inl rfl
  | @step j hj h0 s ih =>
    right
    have h1 := up_of ok hj h0
    rcases ih with h2 | ⟨c, a, b, d, e⟩
    · exact ⟨j, hj, h0, by omega, .self j⟩
    · exact ⟨c, a, b, d, .step hj h0 e⟩
omit ok in
theorem Sub.under {i c j : Nat} (hc : c < h.branches.length) (h0 : c ≠ 0) (u : (h.branches.getD c default).up = i) (s : Sub h c j) : Sub h i j := by
  induction s with
  | self => exact .step hc h0 (by rw [u]; simpa using Sub.self i)
  | step hj h0 s ih => exact .step hj h0 ih
theorem zero_below {pump : Int} {i j : Nat} (hs : ¬ 0 < sumOpen h i h.branches.length) (s : Sub h i j) : j ≠ i → (flowsL h pump).getD j 0 = 0 := by
  induction s with
  | self => intro hn; exact absurd rfl hn
  | @step j hj h0 s ih =>
    intro _
    have h1 := up_of ok hj h0
    have h2 := (ok.branch j hj).2.2
    rw [flows_at ok hj]
    have h3 : feedOf h pump (flowsL h pump) j = 0 := by
      unfold feedOf
      rw [if_neg h0]
      by_cases hu : (h.branches.getD j default).up.toNat = i
      · rw [if_neg]
        rw [show (h.branches.getD j default).up = (i : Int) by omega]
        exact hs
      · rw [ih hu]
        split
        · simp
        · rfl
    rw [h3]
    omega
end
end Go.X

/- Trees of meters, in plain numbers and lists. No condition. -/
set_option linter.unusedVariables false
namespace Go.X
structure MNode where
  up : Int
  low : Int
  high : Int
deriving DecidableEq
instance : Inhabited MNode := ⟨⟨0, 0, 0⟩⟩
structure Iv where
  first : Int
  last : Int
deriving DecidableEq
instance : Inhabited Iv := ⟨⟨0, 0⟩⟩
structure MCase where
  nodes : List MNode
  vals : List Int
/-- A number outside 0 .. m. -/
def outP (m n : Int) : Bool := decide (n < 0) || decide (m < n)
def inA (m : Int) (l : List Int) : Bool := !(l.any (outP m))
theorem outP_false {m n : Int} : outP m n = false ↔ 0 ≤ n ∧ n ≤ m := by
  unfold outP
  rw [Bool.or_eq_false_iff, decide_eq_false_iff_not, decide_eq_false_iff_not]; omega
theorem inA_one {m n : Int} : inA m [n] = true ↔ 0 ≤ n ∧ n ≤ m := by
  unfold inA
  rw [Bool.not_eq_true', List.any_cons, List.any_nil, Bool.or_false, outP_false]
theorem inA_two {m a b : Int} : inA m [a, b] = true ↔ (0 ≤ a ∧ a ≤ m) ∧ (0 ≤ b ∧ b ≤ m) := by
  unfold inA
  rw [Bool.not_eq_true', List.any_cons, List.any_cons, List.any_nil, Bool.or_false, Bool.or_eq_false_iff, outP_false, outP_false]
theorem inA_iff {m : Int} {l : List Int} : inA m l = true ↔ ∀ x ∈ l, 0 ≤ x ∧ x ≤ m := by
  unfold inA
  rw [Bool.not_eq_true', List.any_eq_false]
  exact ⟨fun h x hx => outP_false.1 (by simpa using h x hx), fun h x hx => by rw [outP_false.2 (h x hx)]; decide⟩
def badNode (c : MCase) (i : Nat) : Prop := ((¬ inA 1000000000 [(c.nodes.getD i default).high, c.vals.getD i 0] = true ∨ ¬ inA (c.nodes.getD i default).high [(c.nodes.getD i default).low] = true) ∨ (i : Int) = 0 ∧ (c.nodes.getD i default).up ≠ -1) ∨ (0 : Int) < i ∧ ¬ inA ((i : Int) - 1) [(c.nodes.getD i default).up] = true
instance (c : MCase) (i : Nat) : Decidable (badNode c i) := by unfold badNode; infer_instance
def nodesOk (c : MCase) (n : Nat) : Bool := allTo (fun i => !decide (badNode c i)) n
def mcheck (c : MCase) : Int :=
  if (c.nodes.length : Int) < 1 ∨ (14 : Int) < c.nodes.length then 2 else if (c.vals.length : Int) ≠ c.nodes.length then 1 else if nodesOk c c.nodes.length = true then 0 else 6
structure MOk (c : MCase) : Prop where
  n1 : 1 ≤ c.nodes.length
  n2 : c.nodes.length ≤ 14
  vl : c.vals.length = c.nodes.length
  node : ∀ i, i < c.nodes.length → (0 ≤ (c.nodes.getD i default).high ∧ (c.nodes.getD i default).high ≤ 1000000000) ∧ (0 ≤ c.vals.getD i 0 ∧ c.vals.getD i 0 ≤ 1000000000) ∧ (0 ≤ (c.nodes.getD i default).low ∧ (c.nodes.getD i default).low ≤ (c.nodes.getD i default).high) ∧
    (i = 0 → (c.nodes.getD i default).up = -1) ∧ (0 < i → 0 ≤ (c.nodes.getD i default).up ∧ (c.nodes.getD i default).up < i)
theorem good_node {c : MCase} {i : Nat} : ¬ badNode c i ↔ (0 ≤ (c.nodes.getD i default).high ∧ (c.nodes.getD i default).high ≤ 1000000000) ∧ (0 ≤ c.vals.getD i 0 ∧ c.vals.getD i 0 ≤ 1000000000) ∧ (0 ≤ (c.nodes.getD i default).low ∧ (c.nodes.getD i default).low ≤ (c.nodes.getD i default).high) ∧
    (i = 0 → (c.nodes.getD i default).up = -1) ∧ (0 < i → 0 ≤ (c.nodes.getD i default).up ∧ (c.nodes.getD i default).up < i) := by
  unfold badNode
  rw [inA_two, inA_one, inA_one]
  constructor
  · intro h
    refine ⟨by omega, by omega, by omega, by omega, by omega⟩
  · rintro ⟨h1, h2, h3, h4, h5⟩
    omega
theorem mcheck_ok {c : MCase} (h : mcheck c = 0) : MOk c := by
  unfold mcheck at h
  split at h
  · cases h
  · split at h
    · cases h
    · split at h
      · rename_i h1 h2 h3
        refine ⟨by omega, by omega, by omega, fun i hi => good_node.1 ?_⟩
        have := allTo_at h3 hi
        simpa using this
      · cases h
theorem mok_check {c : MCase} (m : MOk c) : mcheck c = 0 := by
  have h1 := m.n1
  have h2 := m.n2
  have h3 := m.vl
  unfold mcheck
  rw [if_neg (by omega), if_neg (by omega), if_pos]
  unfold nodesOk allTo
  rw [List.all_eq_true]
  intro i hi
  have := good_node.2 (m.node i (List.mem_range.1 hi))
  simpa using this
/-! ### sons -/
def sonsTo (c : MCase) (i : Int) : Nat → List Nat
  | 0 => []
  | n + 1 => if (c.nodes.getD n default).up = i then sonsTo c i n ++ [n] else sonsTo c i n
def sonsN (c : MCase) (i : Nat) : List Nat := sonsTo c i c.nodes.length
def ints (l : List Nat) : List Int := l.map fun (k : Nat) => (k : Int)
theorem ints_len {l : List Nat} : (ints l).length = l.length := by simp [ints]
theorem ints_snoc {l : List Nat} {k : Nat} : ints (l ++ [k]) = ints l ++ [(k : Int)] := by simp [ints]
theorem ints_at {l : List Nat} {j : Nat} (hj : j < l.length) : (ints l).getD j default = ((l.getD j 0 : Nat) : Int) := by
  unfold ints
  rw [List.getD_eq_getElem?_getD, List.getElem?_eq_getElem (by simpa using hj), List.getD_eq_getElem?_getD, List.getElem?_eq_getElem hj]; simp
theorem sonsTo_mem {c : MCase} {i : Int} {k : Nat} : ∀ {n}, k ∈ sonsTo c i n ↔ k < n ∧ (c.nodes.getD k default).up = i
  | 0 => by simp [sonsTo]
  | n + 1 => by
    rw [sonsTo]
    split
    · rename_i h
      rw [List.mem_append, sonsTo_mem, List.mem_singleton]
      constructor
      · rintro (⟨h1, h2⟩ | rfl)
        · exact ⟨by omega, h2⟩
        · exact ⟨by omega, h⟩
      · rintro ⟨h1, h2⟩
        by_cases hk : k = n
        · exact .inr hk
        · exact .inl ⟨by omega, h2⟩
    · rename_i h
      rw [sonsTo_mem]
      constructor
      · rintro ⟨h1, h2⟩; exact ⟨by omega, h2⟩
      · rintro ⟨h1, h2⟩
        refine ⟨?_, h2⟩
        rcases Nat.lt_or_ge k n with h3 | h3
        · exact h3
        · rw [show k = n by omega] at h2; exact absurd h2 h
theorem sonsTo_len {c : MCase} {i : Int} : ∀ {n}, (sonsTo c i n).length ≤ n
  | 0 => by simp [sonsTo]
  | n + 1 => by
    have := sonsTo_len (c := c) (i := i) (n := n)
    rw [sonsTo]
    split
    · rw [List.length_append]; simp; omega
    · omega
theorem getD_mem0 {l : List Nat} {j : Nat} (hj : j < l.length) : l.getD j 0 ∈ l := by
  rw [List.getD_eq_getElem?_getD, List.getElem?_eq_getElem hj]; exact List.getElem_mem hj
theorem MOk.son {c : MCase} (ok : MOk c) {i k : Nat} (h : k ∈ sonsN c i) : k < c.nodes.length ∧ i < k ∧ (c.nodes.getD k default).up = (i : Int) := by
  obtain ⟨h1, h2⟩ := sonsTo_mem.1 h
  obtain ⟨_, _, _, h3, h4⟩ := ok.node k h1
  refine ⟨h1, ?_, h2⟩
  rcases Nat.eq_zero_or_pos k with hk | hk
  · have := h3 hk; omega
  · have := h4 hk; omega
/-! ### what nodes may have -/
def ownIv (c : MCase) (set : List Int) (i : Nat) : Iv := if set.any (fun y => decide ((i : Int) = y)) = true then ⟨0, 1000000000⟩ else ⟨c.vals.getD i 0, c.vals.getD i 0⟩
def mayF (c : MCase) (set : List Int) : Nat → Nat → Iv
  | 0, _ => default
  | f + 1, i =>
    if 0 < (sonsN c i).length then
      ⟨max (ownIv c set i).first (sumTo (fun q => (mayF c set f ((sonsN c i).getD q 0)).first) (sonsN c i).length + (c.nodes.getD i default).low),
        min (ownIv c set i).last (sumTo (fun q => (mayF c set f ((sonsN c i).getD q 0)).last) (sonsN c i).length + (c.nodes.getD i default).high)⟩
    else ownIv c set i
def okF (c : MCase) (set : List Int) : Nat → Nat → Bool
  | 0, _ => false
  | f + 1, i => allTo (fun q => okF c set f ((sonsN c i).getD q 0)) (sonsN c i).length && !decide ((mayF c set (f + 1) i).last < (mayF c set (f + 1) i).first)
def mayI (c : MCase) (set : List Int) (i : Nat) : Iv := mayF c set (c.nodes.length - i) i
def okN (c : MCase) (set : List Int) (i : Nat) : Bool := okF c set (c.nodes.length - i) i
theorem sumTo_congr {f g : Nat → Int} {n : Nat} (h : ∀ k, k < n → f k = g k) : sumTo f n = sumTo g n := sum_congr h
theorem mayF_fuel {c : MCase} (ok : MOk c) (set : List Int) : ∀ f g i, i < c.nodes.length → c.nodes.length - i ≤ f → c.nodes.length - i ≤ g → mayF c set f i = mayF c set g i
  | 0, g, i, hi, h1, _ => by omega
  | f + 1, 0, i, hi, _, h2 => by omega
  | f + 1, g + 1, i, hi, h1, h2 => by
    have hs : ∀ q, q < (sonsN c i).length → mayF c set f ((sonsN c i).getD q 0) = mayF c set g ((sonsN c i).getD q 0) := fun q hq => by
      obtain ⟨a, b, _⟩ := ok.son (getD_mem0 hq)
      exact mayF_fuel ok set f g _ a (by omega) (by omega)
    rw [mayF, mayF, sum_congr (fun q hq => by rw [hs q hq]), sum_congr (f := fun q => (mayF c set f ((sonsN c i).getD q 0)).last) (fun q hq => by rw [hs q hq])]
theorem allTo_congr {p q : Nat → Bool} {n : Nat} (h : ∀ k, k < n → p k = q k) : allTo p n = allTo q n := by
  unfold allTo
  rw [Bool.eq_iff_iff, List.all_eq_true, List.all_eq_true]
  exact ⟨fun hp k hk => by rw [← h k (List.mem_range.1 hk)]; exact hp k hk, fun hp k hk => by rw [h k (List.mem_range.1 hk)]; exact hp k hk⟩
theorem okF_fuel {c : MCase} (ok : MOk c) (set : List Int) : ∀ f g i, i < c.nodes.length → c.nodes.length - i ≤ f → c.nodes.length - i ≤ g → okF c set f i = okF c set g i
  | 0, g, i, hi, h1, _ => by omega
  | f + 1, 0, i, hi, _, h2 => by omega
  | f + 1, g + 1, i, hi, h1, h2 => by
    rw [okF, okF, mayF_fuel ok set (f + 1) (g + 1) i hi h1 h2, allTo_congr fun q hq => by
      obtain ⟨a, b, _⟩ := ok.son (getD_mem0 hq)
      exact okF_fuel ok set f g _ a (by omega) (by omega)]
theorem allTo_true {p : Nat → Bool} {n : Nat} (h : ∀ q, q < n → p q = true) : allTo p n = true := by
  unfold allTo
  rw [List.all_eq_true]
  exact fun q hq => h q (List.mem_range.1 hq)
def sumFirst (c : MCase) (set : List Int) (i n : Nat) : Int := sumTo (fun q => (mayI c set ((sonsN c i).getD q 0)).first) n
def sumLast (c : MCase) (set : List Int) (i n : Nat) : Int := sumTo (fun q => (mayI c set ((sonsN c i).getD q 0)).last) n
theorem may_eq {c : MCase} (ok : MOk c) (set : List Int) {i : Nat} (hi : i < c.nodes.length) : mayI c set i = if 0 < (sonsN c i).length then
      ⟨max (ownIv c set i).first (sumFirst c set i (sonsN c i).length + (c.nodes.getD i default).low), min (ownIv c set i).last (sumLast c set i (sonsN c i).length + (c.nodes.getD i default).high)⟩
    else ownIv c set i := by
  obtain ⟨f, hf⟩ : ∃ f, c.nodes.length - i = f + 1 := ⟨c.nodes.length - i - 1, by omega⟩
  have hs : ∀ q, q < (sonsN c i).length → mayF c set f ((sonsN c i).getD q 0) = mayI c set ((sonsN c i).getD q 0) := fun q hq => by
    obtain ⟨a, b, _⟩ := ok.son (getD_mem0 hq)
    exact mayF_fuel ok set f _ _ a (by omega) (Nat.le_refl _)
  unfold sumFirst sumLast
  rw [mayI, hf, mayF, sum_congr (fun q hq => by rw [hs q hq]), sum_congr (f := fun q => (mayF c set f ((sonsN c i).getD q 0)).last) (fun q hq => by rw [hs q hq])]
theorem ok_eq {c : MCase} (ok : MOk c) (set : List Int) {i : Nat} (hi : i < c.nodes.length) : okN c set i = (allTo (fun q => okN c set ((sonsN c i).getD q 0)) (sonsN c i).length && !decide ((mayI c set i).last < (mayI c set i).first)) := by
  obtain ⟨f, hf⟩ : ∃ f, c.nodes.length - i = f + 1 := ⟨c.nodes.length - i - 1, by omega⟩
  rw [okN, hf, okF, mayI, hf, allTo_congr fun q hq => by
      obtain ⟨a, b, _⟩ := ok.son (getD_mem0 hq)
      exact okF_fuel ok set f _ _ a (by omega) (Nat.le_refl _)]
  rfl
theorem own_rng {c : MCase} (ok : MOk c) (set : List Int) {i : Nat} (hi : i < c.nodes.length) : 0 ≤ (ownIv c set i).first ∧ (ownIv c set i).last ≤ 1000000000 ∧ (ownIv c set i).first ≤ 1000000000 ∧ 0 ≤ (ownIv c set i).last := by
  obtain ⟨_, h, _⟩ := ok.node i hi
  unfold ownIv
  split
  · exact ⟨Int.le_refl _, Int.le_refl _, by decide, by decide⟩
  · exact ⟨h.1, h.2, h.2, h.1⟩
theorem may_rng {c : MCase} (ok : MOk c) (set : List Int) {i : Nat} (hi : i < c.nodes.length) (hk : okN c set i = true) : 0 ≤ (mayI c set i).first ∧ (mayI c set i).first ≤ (mayI c set i).last ∧ (mayI c set i).last ≤ 1000000000 := by
  have h1 := own_rng ok set hi
  rw [ok_eq ok set hi, Bool.and_eq_true, Bool.not_eq_true', decide_eq_false_iff_not] at hk
  have h2 := hk.2
  refine ⟨?_, by omega, ?_⟩
  · rw [may_eq ok set hi]
    split
    · dsimp only; omega
    · omega
  · rw [may_eq ok set hi]
    split
    · dsimp only; omega
    · omega
theorem sums_rng {c : MCase} (ok : MOk c) {set : List Int} {i j : Nat} (hj : j ≤ (sonsN c i).length) (hd : ∀ q, q < j → okN c set ((sonsN c i).getD q 0) = true) :
    0 ≤ sumFirst c set i j ∧ sumFirst c set i j ≤ j * 1000000000 ∧ 0 ≤ sumLast c set i j ∧ sumLast c set i j ≤ j * 1000000000 := by
  have h : ∀ q, q < j → 0 ≤ (mayI c set ((sonsN c i).getD q 0)).first ∧ (mayI c set ((sonsN c i).getD q 0)).first ≤ (mayI c set ((sonsN c i).getD q 0)).last ∧ (mayI c set ((sonsN c i).getD q 0)).last ≤ 1000000000 := fun q hq => by
    obtain ⟨a, _, _⟩ := ok.son (getD_mem0 (l := sonsN c i) (j := q) (by omega))
    exact may_rng ok set a (hd q hq)
  exact ⟨sum_nonneg fun q hq => (h q hq).1, sum_le fun q hq => by have := h q hq; omega, sum_nonneg fun q hq => by have := h q hq; omega, sum_le fun q hq => (h q hq).2.2⟩
theorem mem_getD0 {l : List Nat} {k : Nat} (h : k ∈ l) : ∃ q, q < l.length ∧ l.getD q 0 = k := by
  obtain ⟨q, hq, e⟩ := List.mem_iff_getElem.1 h
  exact ⟨q, hq, by rw [List.getD_eq_getElem?_getD, List.getElem?_eq_getElem hq]; exact e⟩
/-! ### the ghost of what has been written -/
structure Wr (c : MCase) (set : List Int) (W : Nat → Prop) (ms : List Iv) : Prop where
  len : ms.length = c.nodes.length
  rng : ∀ j, W j → j < c.nodes.length
  val : ∀ j, W j → ms.getD j default = mayI c set j
  ok : ∀ j, W j → okN c set j = true
  son : ∀ j, W j → ∀ k ∈ sonsN c j, W k
theorem Wr.write {c : MCase} {set : List Int} {W : Nat → Prop} {ms : List Iv} (w : Wr c set W ms) {i : Nat} (hi : i < c.nodes.length) (hok : okN c set i = true) (hs : ∀ k ∈ sonsN c i, W k) : Wr c set (fun j => W j ∨ j = i) (ms.set i (mayI c set i)) where
  len := by rw [List.length_set]; exact w.len
  rng := fun j hj => hj.elim (w.rng j) (fun h => h ▸ hi)
  val := fun j hj => by
    rw [List.getD_eq_getElem?_getD, List.getElem?_set]
    by_cases hc : i = j
    · subst hc; rw [if_pos rfl, if_pos (by rw [w.len]; exact hi)]; rfl
    · rw [if_neg hc, ← List.getD_eq_getElem?_getD]; exact w.val j (hj.resolve_right (fun h => hc h.symm))
  ok := fun j hj => hj.elim (w.ok j) (fun h => h ▸ hok)
  son := fun j hj k hk => hj.elim (fun h => .inl (w.son j h k hk)) (fun h => .inl (hs k (h ▸ hk)))
theorem Wr.other {c : MCase} {set : List Int} {W : Nat → Prop} {ms : List Iv} (w : Wr c set W ms) {i : Nat} (hi : i < c.nodes.length) : Wr c set (fun j => W j) (ms.set i (mayI c set i)) where
  len := by rw [List.length_set]; exact w.len
  rng := w.rng
  val := fun j hj => by
    rw [List.getD_eq_getElem?_getD, List.getElem?_set]
    by_cases hc : i = j
    · subst hc; rw [if_pos rfl, if_pos (by rw [w.len]; exact hi)]; rfl
    · rw [if_neg hc, ← List.getD_eq_getElem?_getD]; exact w.val j hj
  ok := w.ok
  son := w.son
theorem Wr.all {c : MCase} (ok : MOk c) {set : List Int} {W : Nat → Prop} {ms : List Iv} (w : Wr c set W ms) (h0 : W 0) : ∀ i, i < c.nodes.length → W i := by
  intro i
  induction i using Nat.strongRecOn with
  | _ i ih =>
    intro hi
    rcases Nat.eq_zero_or_pos i with hz | hp
    · subst hz; exact h0
    · obtain ⟨_, _, _, _, h5⟩ := ok.node i hi
      obtain ⟨a, b⟩ := h5 hp
      obtain ⟨u, hu⟩ := Int.eq_ofNat_of_zero_le a
      exact w.son u (ih u (by omega) (by omega)) i (sonsTo_mem.2 ⟨hi, hu⟩)
end Go.X

/- Repairs of trees of meters. No condition. -/
set_option linter.unusedVariables false
namespace Go.X
structure RSt where
  out : List Int
  nf : Int
  nl : Int
  rf : Int
  rl : Int
def rStep (may : Nat → Iv) (s : RSt) (k : Nat) : RSt :=
  ⟨s.out.set k (max (may k).first (s.nf - (s.rl - (may k).last))), s.nf - max (may k).first (s.nf - (s.rl - (may k).last)), s.nl - max (may k).first (s.nf - (s.rl - (may k).last)), s.rf - (may k).first, s.rl - (may k).last⟩
def rIter (may : Nat → Iv) (l : List Nat) (s0 : RSt) : Nat → RSt
  | 0 => s0
  | j + 1 => rStep may (rIter may l s0 j) (l.getD j 0)
def rStart (c : MCase) (set : List Int) (out : List Int) (i : Nat) : RSt :=
  ⟨out, out.getD i 0 - (c.nodes.getD i default).high, out.getD i 0 - (c.nodes.getD i default).low, sumFirst c set i (sonsN c i).length, sumLast c set i (sonsN c i).length⟩
def rAt (c : MCase) (set : List Int) (out : List Int) (i j : Nat) : RSt := rIter (mayI c set) (sonsN c i) (rStart c set out i) j
def rTo (c : MCase) (set : List Int) : Nat → List Int
  | 0 => (List.replicate c.nodes.length 0).set 0 (mayI c set 0).first
  | i + 1 => (rAt c set (rTo c set i) i (sonsN c i).length).out
def repairL (c : MCase) (set : List Int) : List Int := rTo c set c.nodes.length
structure Vals (n : Nat) (l : List Int) : Prop where
  len : l.length = n
  rng : ∀ i, i < n → 0 ≤ l.getD i 0 ∧ l.getD i 0 ≤ 1000000000
theorem set_getD0 {l : List Int} {k i : Nat} {x : Int} (hk : k < l.length) : (l.set k x).getD i 0 = if k = i then x else l.getD i 0 := by
  rw [List.getD_eq_getElem?_getD, List.getElem?_set]
  by_cases h : k = i
  · subst h; rw [if_pos rfl, if_pos hk, if_pos rfl]; rfl
  · rw [if_neg h, if_neg h, List.getD_eq_getElem?_getD]
theorem Vals.set {n : Nat} {l : List Int} (v : Vals n l) {k : Nat} {x : Int} (hk : k < n) (h0 : 0 ≤ x) (h1 : x ≤ 1000000000) : Vals n (l.set k x) :=
  ⟨by rw [List.length_set]; exact v.len, fun i hi => by
    rw [set_getD0 (by rw [v.len]; exact hk)]
    split
    · exact ⟨h0, h1⟩
    · exact v.rng i hi⟩
structure RInv (c : MCase) (set : List Int) (i j : Nat) (s : RSt) : Prop where
  vals : Vals c.nodes.length s.out
  rf : s.rf = sumFirst c set i (sonsN c i).length - sumFirst c set i j
  rl : s.rl = sumLast c set i (sonsN c i).length - sumLast c set i j
  nf : -((j + 1 : Nat) : Int) * 1000000000 ≤ s.nf ∧ s.nf ≤ 1000000000
  nl : -((j + 1 : Nat) : Int) * 1000000000 ≤ s.nl ∧ s.nl ≤ 1000000000
theorem rInv_start {c : MCase} (ok : MOk c) {set : List Int} {i : Nat} (hi : i < c.nodes.length) {out : List Int} (v : Vals c.nodes.length out) : RInv c set i 0 (rStart c set out i) := by
  have h1 := v.rng i hi
  obtain ⟨h2, _, h3, _⟩ := ok.node i hi
  refine ⟨v, ?_, ?_, ?_, ?_⟩
  · show sumFirst c set i _ = sumFirst c set i _ - 0; omega
  · show sumLast c set i _ = sumLast c set i _ - 0; omega
  · simp only [rStart]; omega
  · simp only [rStart]; omega
section
variable {c : MCase} (ok : MOk c) {set : List Int} (hd : ∀ i, i < c.nodes.length → okN c set i = true)
include ok hd
theorem son_may {i q : Nat} (hq : q < (sonsN c i).length) : 0 ≤ (mayI c set ((sonsN c i).getD q 0)).first ∧ (mayI c set ((sonsN c i).getD q 0)).first ≤ (mayI c set ((sonsN c i).getD q 0)).last ∧ (mayI c set ((sonsN c i).getD q 0)).last ≤ 1000000000 := by
  obtain ⟨a, _, _⟩ := ok.son (getD_mem0 hq)
  exact may_rng ok set a (hd _ a)
theorem rest_rng {i j : Nat} (hj : j ≤ (sonsN c i).length) : 0 ≤ sumFirst c set i j ∧ sumFirst c set i j ≤ sumFirst c set i (sonsN c i).length ∧ 0 ≤ sumLast c set i j ∧ sumLast c set i j ≤ sumLast c set i (sonsN c i).length ∧ sumFirst c set i (sonsN c i).length ≤ 14000000000 ∧ sumLast c set i (sonsN c i).length ≤ 14000000000 := by
  have hs := fun {q : Nat} (hq : q < (sonsN c i).length) => son_may ok hd (i := i) hq
  have hl : (sonsN c i).length ≤ c.nodes.length := sonsTo_len
  have h2 := ok.n2
  have a := sum_le (f := fun q => (mayI c set ((sonsN c i).getD q 0)).first) (n := (sonsN c i).length) (M := 1000000000) (fun q hq => by have := hs hq; omega)
  have b := sum_le (f := fun q => (mayI c set ((sonsN c i).getD q 0)).last) (n := (sonsN c i).length) (M := 1000000000) (fun q hq => (hs hq).2.2)
  refine ⟨sum_nonneg fun q hq => (hs (by omega)).1, sum_part hj fun q hq => (hs hq).1, sum_nonneg fun q hq => by have := hs (q := q) (by omega); omega, sum_part hj fun q hq => by have := hs hq; omega, ?_, ?_⟩
  · change sumFirst c set i (sonsN c i).length ≤ _ at a; omega
  · change sumLast c set i (sonsN c i).length ≤ _ at b; omega
theorem rInv_step {i j : Nat} (hj : j < (sonsN c i).length) {s : RSt} (r : RInv c set i j s) : RInv c set i (j + 1) (rStep (mayI c set) s ((sonsN c i).getD j 0)) := by
  obtain ⟨hk, _, _⟩ := ok.son (getD_mem0 hj)
  have hm := son_may ok hd hj
  have h1 := r.nf
  have h2 := r.nl
  have h3 := rest_rng ok hd (i := i) (j := j + 1) (by omega)
  have e1 : sumFirst c set i (j + 1) = sumFirst c set i j + (mayI c set ((sonsN c i).getD j 0)).first := rfl
  have e2 : sumLast c set i (j + 1) = sumLast c set i j + (mayI c set ((sonsN c i).getD j 0)).last := rfl
  have h4 := r.rf
  have h5 := r.rl
  have hx : 0 ≤ max (mayI c set ((sonsN c i).getD j 0)).first (s.nf - (s.rl - (mayI c set ((sonsN c i).getD j 0)).last)) ∧ max (mayI c set ((sonsN c i).getD j 0)).first (s.nf - (s.rl - (mayI c set ((sonsN c i).getD j 0)).last)) ≤ 1000000000 := by omega
  refine ⟨r.vals.set hk hx.1 hx.2, ?_, ?_, ?_, ?_⟩
  · simp only [rStep]; omega
  · simp only [rStep]; omega
  · simp only [rStep]; omega
  · simp only [rStep]; omega
theorem rAt_inv {i : Nat} (hi : i < c.nodes.length) {out : List Int} (v : Vals c.nodes.length out) : ∀ j, j ≤ (sonsN c i).length → RInv c set i j (rAt c set out i j)
  | 0, _ => rInv_start ok hi v
  | j + 1, hj => rInv_step ok hd (by omega) (rAt_inv hi v j (by omega))
theorem rTo_vals : ∀ i, i ≤ c.nodes.length → Vals c.nodes.length (rTo c set i)
  | 0, _ => by
    have h1 := ok.n1
    have hm := may_rng ok set (i := 0) (by omega) (hd 0 (by omega))
    refine Vals.set ⟨by simp, fun i hi => ?_⟩ (by omega) hm.1 (by omega)
    rw [List.getD_eq_getElem?_getD, List.getElem?_replicate, if_pos hi]
    exact ⟨Int.le_refl _, by decide⟩
  | i + 1, hi => (rAt_inv ok hd (by omega) (rTo_vals i (by omega)) _ (Nat.le_refl _)).vals
end
theorem ok_all {c : MCase} (ok : MOk c) {set : List Int} (h0 : okN c set 0 = true) : ∀ i, i < c.nodes.length → okN c set i = true := by
  intro i
  induction i using Nat.strongRecOn with
  | _ i ih =>
    intro hi
    rcases Nat.eq_zero_or_pos i with hz | hp
    · subst hz; exact h0
    · obtain ⟨_, _, _, _, h5⟩ := ok.node i hi
      obtain ⟨a, b⟩ := h5 hp
      obtain ⟨u, hu⟩ := Int.eq_ofNat_of_zero_le a
      have h6 := ih u (by omega) (by omega)
      rw [ok_eq ok set (by omega), Bool.and_eq_true] at h6
      obtain ⟨q, hq, e⟩ := mem_getD0 (l := sonsN c u) (sonsTo_mem.2 ⟨hi, hu⟩)
      have := allTo_at h6.1 hq
      rwa [e] at this
end Go.X

/- Sets of so many of n nodes, one after the other. No condition. -/
set_option linter.unusedVariables false
namespace Go.X
/-- The last of the first n with p. -/
def lastTo (p : Nat → Bool) : Nat → Option Nat
  | 0 => none
  | n + 1 => if p n = true then some n else lastTo p n
def bumpTo (l : List Nat) (i : Nat) : Nat → List Nat
  | 0 => l.set i (l.getD i 0 + 1)
  | t + 1 => (bumpTo l i t).set (i + 1 + t) ((bumpTo l i t).getD (i + t) 0 + 1)
def freeAt (n size : Nat) (l : List Nat) (i : Nat) : Bool := !decide (((l.getD i 0 : Nat) : Int) = (n : Int) - size + i)
def nextS (n size : Nat) (l : List Nat) : Option (List Nat) := (lastTo (freeAt n size l) size).map fun i => bumpTo l i (size - 1 - i)
structure SetSteps (n size : Nat) (items : List (List Nat)) : Prop where
  first : items[0]? = some (List.range size)
  next : ∀ j, j < items.length → nextS n size (items.getD j []) = items[j + 1]?
  rng : ∀ j, j < items.length → (items.getD j []).length = size ∧ ∀ x ∈ items.getD j [], x < n
theorem bumpTo_len (l : List Nat) (i : Nat) : ∀ t, (bumpTo l i t).length = l.length
  | 0 => by simp [bumpTo]
  | t + 1 => by rw [bumpTo, List.length_set, bumpTo_len l i t]
theorem bumpTo_at {l : List Nat} {i : Nat} : ∀ {t}, i + t < l.length → (bumpTo l i t).getD (i + t) 0 = l.getD i 0 + 1 + t
  | 0, h => by
    rw [bumpTo, List.getD_eq_getElem?_getD, List.getElem?_set, if_pos (by omega), if_pos (by omega)]; rfl
  | t + 1, h => by
    rw [bumpTo, List.getD_eq_getElem?_getD, List.getElem?_set, if_pos (by omega), if_pos (by rw [bumpTo_len]; omega), Option.getD_some, bumpTo_at (by omega)]; omega
theorem ints_set {l : List Nat} {i x : Nat} : (ints l).set i ((x : Nat) : Int) = ints (l.set i x) := by
  unfold ints
  rw [List.map_set]
theorem mset_upto {x : List Int} {i : Nat} (hi : i < x.length) (h : ∀ j, j < i → x.getD j 0 = (j : Int)) : ∀ j, j < i + 1 → (x.set i (i : Int)).getD j 0 = (j : Int) := by
  intro j hj
  rw [List.getD_eq_getElem?_getD, List.getElem?_set]
  by_cases hc : i = j
  · subst hc; rw [if_pos rfl, if_pos hi]; rfl
  · rw [if_neg hc, ← List.getD_eq_getElem?_getD]; exact h j (by omega)
theorem meq_range {n : Nat} {x : List Int} (hl : x.length = n) (h : ∀ j, j < n → x.getD j 0 = (j : Int)) : x = ints (List.range n) := by
  refine List.ext_getElem (by simp [hl, ints]) fun j h1 h2 => ?_
  have := h j (by omega)
  rw [List.getD_eq_getElem?_getD, List.getElem?_eq_getElem h1] at this
  simpa [ints] using this
theorem items_getD {items : List (List Nat)} {j : Nat} {x : List Nat} (h : items[j]? = some x) : j < items.length ∧ items.getD j [] = x := by
  obtain ⟨hj, e⟩ := List.getElem?_eq_some_iff.1 h
  exact ⟨hj, by rw [List.getD_eq_getElem?_getD, h]; rfl⟩
/-- All sets of s of the a numbers from b on. -/
def combos : Nat → Nat → Nat → List (List Nat)
  | 0, _, _ => [[]]
  | _ + 1, 0, _ => []
  | s + 1, a + 1, b => (combos s a (b + 1)).map (b :: ·) ++ combos (s + 1) a (b + 1)
def okSteps (n size : Nat) (items : List (List Nat)) : Bool :=
  decide (items[0]? = some (List.range size)) && (List.range items.length).all fun j => decide (nextS n size (items.getD j []) = items[j + 1]?) && decide ((items.getD j []).length = size) && (items.getD j []).all fun x => decide (x < n)
theorem steps_of {n size : Nat} {items : List (List Nat)} (h : okSteps n size items = true) : SetSteps n size items := by
  unfold okSteps at h
  rw [Bool.and_eq_true, decide_eq_true_eq, List.all_eq_true] at h
  have hj : ∀ j, j < items.length → _ := fun j hj => h.2 j (List.mem_range.2 hj)
  simp only [Bool.and_eq_true, decide_eq_true_eq, List.all_eq_true] at hj
  exact ⟨h.1, fun j h1 => (hj j h1).1.1, fun j h1 => ⟨(hj j h1).1.2, fun x hx => (hj j h1).2 x hx⟩⟩
theorem steps3 : ∀ s, s ≤ 3 → SetSteps 3 s (combos s 3 0) := fun s hs => by
  match s, hs with
  | 0, _ => exact steps_of (by decide)
  | 1, _ => exact steps_of (by decide)
  | 2, _ => exact steps_of (by decide)
  | 3, _ => exact steps_of (by decide)
end Go.X

/- Least sets. No condition. -/
set_option linter.unusedVariables false
namespace Go.X
theorem combos_len2 : ∀ a s b, (combos s a b).length ≤ 2 ^ a
  | 0, 0, b => by simp [combos]
  | 0, s + 1, b => by simp [combos]
  | a + 1, 0, b => by rw [combos]; exact Nat.one_le_two_pow
  | a + 1, s + 1, b => by
    rw [combos, List.length_append, List.length_map, Nat.pow_succ]
    have h1 := combos_len2 a s (b + 1)
    have h2 := combos_len2 a (s + 1) (b + 1)
    omega
theorem combos_len (n s : Nat) (h : n ≤ 14) : (combos s n 0).length ≤ 16384 := Nat.le_trans (combos_len2 n s 0) (by have := Nat.pow_le_pow_right (n := 2) (by decide) h; exact this)
def keepTo (p : List Nat → Bool) (items : List (List Nat)) : Nat → List (List Nat)
  | 0 => []
  | i + 1 => if p (items.getD i []) = true then keepTo p items i ++ [items.getD i []] else keepTo p items i
theorem keepTo_take (p : List Nat → Bool) (items : List (List Nat)) : ∀ i, i ≤ items.length → keepTo p items i = (items.take i).filter p
  | 0, _ => by simp [keepTo]
  | i + 1, hi => by
    have e : items.take (i + 1) = items.take i ++ [items.getD i []] := by
      rw [List.getD_eq_getElem?_getD, List.getElem?_eq_getElem (by omega), Option.getD_some, List.take_append_getElem (by omega)]
    rw [keepTo, keepTo_take p items i (by omega), e, List.filter_append, List.filter_cons]
    split <;> simp
theorem keepTo_all (p : List Nat → Bool) (items : List (List Nat)) : keepTo p items items.length = items.filter p := by rw [keepTo_take _ _ _ (Nat.le_refl _), List.take_length]
def expl (c : MCase) (l : List Nat) : Bool := okN c (ints l) 0
def leastAt (c : MCase) (s : Nat) : List (List Nat) := keepTo (expl c) (combos s c.nodes.length 0) (combos s c.nodes.length 0).length
def leastS (c : MCase) : Nat → Nat → List (List Nat)
  | 0, _ => []
  | k + 1, s => if 0 < (leastAt c s).length then leastAt c s else leastS c k (s + 1)
def leastG (c : MCase) : List (List Nat) × Int :=
  if mcheck c ≠ 0 then ([], mcheck c) else if 0 < (leastS c (c.nodes.length + 1) 0).length then (leastS c (c.nodes.length + 1) 0, 0) else ([], 4)
def badAt (c : MCase) (set : List Int) (i : Nat) : Prop := ¬ inA ((c.nodes.length : Int) - 1) [set.getD i 0] = true ∨ (0 : Int) < i ∧ set.getD i 0 ≤ set.getD ((i : Int) - 1).toNat 0
instance (c : MCase) (set : List Int) (i : Nat) : Decidable (badAt c set i) := by unfold badAt; infer_instance
def listedP (c : MCase) (set : List Int) (n : Nat) : Bool := allTo (fun i => !decide (badAt c set i)) n
def listedG (c : MCase) (set : List Int) : Int := if mcheck c ≠ 0 then mcheck c else if listedP c set set.length = true then 0 else 1
def explainsG (c : MCase) (set : List Int) : Bool × Int := if listedG c set ≠ 0 then (false, listedG c set) else (okN c set 0, 0)
def repairG (c : MCase) (set : List Int) : List Int × Int := if listedG c set ≠ 0 then ([], listedG c set) else if ¬ okN c set 0 = true then ([], 4) else (repairL c set, 0)
theorem listed_check {c : MCase} {set : List Int} (h : listedG c set = 0) : mcheck c = 0 := by
  unfold listedG at h
  split at h
  · rename_i h1; exact absurd h h1
  · rename_i h1; exact Decidable.of_not_not h1
end Go.X

/- Slices of slices in one heap. No condition. -/
set_option linter.unusedVariables false
namespace Go.X
/-- Slices that lie in one heap, a row each. -/
def RowsK (us : List Value) (K : PHeap) (rows : List (List Int)) : Prop := us.length = rows.length ∧ ∀ i, i < us.length → Arr (us.getD i default) encI 1 K (rows.getD i default)
theorem RowsK.nil {K : PHeap} : RowsK [] K [] := ⟨rfl, fun i hi => absurd hi (Nat.not_lt_zero i)⟩
theorem RowsK.mono {us : List Value} {K K' : PHeap} {rows : List (List Int)} (hl : leH K K') (r : RowsK us K rows) : RowsK us K' rows := ⟨r.1, fun i hi => Arr.le_heap (r.2 i hi) hl⟩
theorem rowsK_getD {α : Type} [Inhabited α] (l : List α) (x : α) (i : Nat) : (l ++ [x]).getD i default = if i < l.length then l.getD i default else if i = l.length then x else default := by
  rw [List.getD_eq_getElem?_getD, List.getElem?_append]
  split
  · rw [List.getD_eq_getElem?_getD]
  · split
    · rename_i h1 h2; subst h2; simp
    · rename_i h1 h2
      rw [List.getElem?_eq_none (by simp; omega)]; rfl
theorem RowsK.snoc {us : List Value} {K : PHeap} {rows : List (List Int)} {u : Value} {x : List Int} (r : RowsK us K rows) (a : Arr u encI 1 K x) : RowsK (us ++ [u]) K (rows ++ [x]) := ⟨by rw [List.length_append, List.length_append, r.1]; rfl, fun i hi => by
  rw [List.length_append] at hi
  rw [rowsK_getD, rowsK_getD, ← r.1]
  by_cases hc : i < us.length
  · rw [if_pos hc, if_pos hc]; exact r.2 i hc
  · rw [if_neg hc, if_neg hc, if_pos (by simp at hi; omega), if_pos (by simp at hi; omega)]; exact a⟩
end Go.X

/- Bills, in plain numbers and lists. No condition. -/
set_option linter.unusedVariables false
namespace Go.X
structure MTier where
  min : Int
  pct : Int
instance : Inhabited MTier := ⟨⟨0, 0⟩⟩
structure MTariff where
  price : List Int
  base : Int
  tiers : List MTier
  credit : Int
structure MUse where
  values : List Int
  out : Int
instance : Inhabited MUse := ⟨⟨[], 0⟩⟩
structure MBill where
  energy : Int
  amount : Int
  credit : Int
  due : Int
deriving DecidableEq
instance : Inhabited MBill := ⟨⟨0, 0, 0, 0⟩⟩
def badTier (t : MTariff) (i : Nat) : Prop :=
  (¬ inA 50000 [(t.tiers.getD i default).min] = true ∨ ¬ inA 100 [(t.tiers.getD i default).pct] = true) ∨ (0 : Int) < i ∧ ((t.tiers.getD i default).min ≤ (t.tiers.getD ((i : Int) - 1).toNat default).min ∨ (t.tiers.getD i default).pct < (t.tiers.getD ((i : Int) - 1).toNat default).pct)
instance (t : MTariff) (i : Nat) : Decidable (badTier t i) := by unfold badTier; infer_instance
def tiersOk (t : MTariff) (n : Nat) : Bool := allTo (fun i => !decide (badTier t i)) n
def rightG (t : MTariff) : Int :=
  if (t.price.length : Int) ≠ 24 then 1 else if (8 : Int) < t.tiers.length then 2 else if (¬ inA 1000 t.price = true ∨ ¬ inA 1000000000 [t.base] = true) ∨ ¬ inA 100 [t.credit] = true then 6 else if tiersOk t t.tiers.length = true then 0 else 6
def pctTo (t : MTariff) (out : Int) : Nat → Int
  | 0 => 0
  | n + 1 => if (t.tiers.getD n default).min ≤ out then (t.tiers.getD n default).pct else pctTo t out n
def percentL (t : MTariff) (out : Int) : Int := min (pctTo t out t.tiers.length) t.credit
def energyTo (v : List Int) (n : Nat) : Int := sumTo (fun i => v.getD i 0) n
def costTo (p v : List Int) (n : Nat) : Int := sumTo (fun i => v.getD i 0 * p.getD (i % 24) 0) n
def amountL (t : MTariff) (u : MUse) : Int := t.base + costTo t.price u.values u.values.length
def amtTo (t : MTariff) (v : List Int) : Nat → Int
  | 0 => t.base
  | n + 1 => amtTo t v n + v.getD n 0 * t.price.getD (n % 24) 0
theorem amtTo_eq (t : MTariff) (v : List Int) : ∀ n, amtTo t v n = t.base + costTo t.price v n
  | 0 => by rw [amtTo, costTo, sumTo, Int.add_zero]
  | n + 1 => by rw [amtTo, amtTo_eq t v n, costTo, costTo, sumTo, Int.add_assoc]
def creditL (t : MTariff) (u : MUse) : Int := (amountL t u * percentL t u.out + 50) / 100
def billL (t : MTariff) (u : MUse) : MBill := ⟨energyTo u.values u.values.length, amountL t u, creditL t u, amountL t u - creditL t u⟩
def makeG (t : MTariff) (u : MUse) : MBill × Int :=
  if rightG t ≠ 0 then (default, rightG t) else if (1000 : Int) < u.values.length then (default, 2) else if ¬ inA 100000 u.values = true ∨ ¬ inA 50000 [u.out] = true then (default, 6) else (billL t u, 0)
structure TOk11 (t : MTariff) : Prop where
  len : t.price.length = 24
  nt : t.tiers.length ≤ 8
  price : ∀ x ∈ t.price, 0 ≤ x ∧ x ≤ 1000
  base : 0 ≤ t.base ∧ t.base ≤ 1000000000
  credit : 0 ≤ t.credit ∧ t.credit ≤ 100
  tier : ∀ i, i < t.tiers.length → ¬ badTier t i
theorem right_ok {t : MTariff} (h : rightG t = 0) : TOk11 t := by
  unfold rightG at h
  split at h
  · cases h
  · split at h
    · cases h
    · split at h
      · cases h
      · split at h
        · rename_i h1 h2 h3 h4
          simp only [not_or, Classical.not_not] at h3
          refine ⟨by omega, by omega, inA_iff.1 h3.1.1, inA_one.1 h3.1.2, inA_one.1 h3.2, fun i hi => ?_⟩
          have := allTo_at h4 hi
          simpa using this
        · cases h
theorem ok_right {t : MTariff} (k : TOk11 t) : rightG t = 0 := by
  have h1 := k.len
  have h2 := k.nt
  unfold rightG
  rw [if_neg (by omega), if_neg (by omega), if_neg, if_pos]
  · exact allTo_true fun i hi => by simpa using k.tier i hi
  · rw [inA_iff.2 k.price, inA_one.2 k.base, inA_one.2 k.credit]; simp
theorem pct_rng {t : MTariff} (k : TOk11 t) (out : Int) : ∀ n, n ≤ t.tiers.length → 0 ≤ pctTo t out n ∧ pctTo t out n ≤ 100
  | 0, _ => by rw [pctTo]; decide
  | n + 1, hn => by
    have h := k.tier n (by omega)
    unfold badTier at h
    simp only [not_or, Classical.not_not] at h
    have h2 := inA_one.1 h.1.2
    rw [pctTo]
    split
    · exact h2
    · exact pct_rng k out n (by omega)
theorem percent_rng {t : MTariff} (k : TOk11 t) (out : Int) : 0 ≤ percentL t out ∧ percentL t out ≤ t.credit ∧ percentL t out ≤ 100 := by
  have h1 := pct_rng k out _ (Nat.le_refl _)
  have h2 := k.credit
  unfold percentL; omega
theorem price_at {t : MTariff} (k : TOk11 t) (i : Nat) : 0 ≤ t.price.getD (i % 24) 0 ∧ t.price.getD (i % 24) 0 ≤ 1000 := by
  have h : i % 24 < t.price.length := by rw [k.len]; omega
  have := k.price (t.price.getD (i % 24) 0) (by rw [List.getD_eq_getElem?_getD, List.getElem?_eq_getElem h]; exact List.getElem_mem h)
  exact this
theorem vals_at {v : List Int} (hv : ∀ x ∈ v, 0 ≤ x ∧ x ≤ 100000) {i : Nat} (hi : i < v.length) : 0 ≤ v.getD i 0 ∧ v.getD i 0 ≤ 100000 :=
  hv _ (by rw [List.getD_eq_getElem?_getD, List.getElem?_eq_getElem hi]; exact List.getElem_mem hi)
theorem cost_one {t : MTariff} (k : TOk11 t) {v : List Int} (hv : ∀ x ∈ v, 0 ≤ x ∧ x ≤ 100000) {i : Nat} (hi : i < v.length) : 0 ≤ v.getD i 0 * t.price.getD (i % 24) 0 ∧ v.getD i 0 * t.price.getD (i % 24) 0 ≤ 100000000 := by
  have h1 := price_at k i
  have h2 := vals_at hv hi
  exact ⟨Int.mul_nonneg h2.1 h1.1, Int.le_trans (Int.mul_le_mul h2.2 h1.2 h1.1 (by omega)) (by decide)⟩
theorem cost_rng {t : MTariff} (k : TOk11 t) {v : List Int} (hv : ∀ x ∈ v, 0 ≤ x ∧ x ≤ 100000) {n : Nat} (hn : n ≤ v.length) : 0 ≤ costTo t.price v n ∧ costTo t.price v n ≤ n * 100000000 :=
  ⟨sum_nonneg fun i hi => (cost_one k hv (by omega)).1, sum_le fun i hi => (cost_one k hv (by omega)).2⟩
theorem energy_rng {v : List Int} (hv : ∀ x ∈ v, 0 ≤ x ∧ x ≤ 100000) {n : Nat} (hn : n ≤ v.length) : 0 ≤ energyTo v n ∧ energyTo v n ≤ n * 100000 :=
  ⟨sum_nonneg fun i hi => (vals_at hv (by omega)).1, sum_le fun i hi => (vals_at hv (by omega)).2⟩
structure UOk11 (u : MUse) : Prop where
  len : u.values.length ≤ 1000
  vals : ∀ x ∈ u.values, 0 ≤ x ∧ x ≤ 100000
  out : 0 ≤ u.out ∧ u.out ≤ 50000
theorem amount_rng {t : MTariff} (k : TOk11 t) {u : MUse} (q : UOk11 u) : 0 ≤ amountL t u ∧ amountL t u ≤ 101000000000 := by
  have h1 := cost_rng k q.vals (Nat.le_refl _)
  have h2 := k.base
  have h3 := q.len
  unfold amountL; omega
theorem credit_rng {t : MTariff} (k : TOk11 t) {u : MUse} (q : UOk11 u) : 0 ≤ amountL t u * percentL t u.out ∧ amountL t u * percentL t u.out ≤ amountL t u * 100 ∧ 0 ≤ creditL t u ∧ creditL t u ≤ amountL t u := by
  have h1 := amount_rng k q
  have h2 := percent_rng k u.out
  have h3 : 0 ≤ amountL t u * percentL t u.out := Int.mul_nonneg h1.1 h2.1
  have h4 : amountL t u * percentL t u.out ≤ amountL t u * 100 := Int.mul_le_mul_of_nonneg_left h2.2.2 h1.1
  refine ⟨h3, h4, ?_, ?_⟩
  · unfold creditL; omega
  · unfold creditL; omega
theorem make_fine {t : MTariff} (k : TOk11 t) {u : MUse} (q : UOk11 u) : makeG t u = (billL t u, 0) := by
  have h := q.len
  unfold makeG
  rw [if_neg (by rw [ok_right k]; decide), if_neg (by omega), if_neg]
  rw [inA_iff.2 q.vals, inA_one.2 q.out]; simp
theorem make_use {t : MTariff} {u : MUse} (h1 : ¬ (1000 : Int) < u.values.length) (h2 : ¬ (¬ inA 100000 u.values = true ∨ ¬ inA 50000 [u.out] = true)) : UOk11 u := by
  simp only [not_or, Classical.not_not] at h2
  exact ⟨by omega, inA_iff.1 h2.1, inA_one.1 h2.2⟩
structure BRng (b : MBill) : Prop where
  e : 0 ≤ b.energy ∧ b.energy ≤ 100000000
  a : 0 ≤ b.amount ∧ b.amount ≤ 101000000000
  c : 0 ≤ b.credit ∧ b.credit ≤ 101000000000
  d : 0 ≤ b.due ∧ b.due ≤ 101000000000
theorem zero_rng : BRng default := ⟨⟨by decide, by decide⟩, ⟨by decide, by decide⟩, ⟨by decide, by decide⟩, ⟨by decide, by decide⟩⟩
theorem make_rng (t : MTariff) (u : MUse) : BRng (makeG t u).1 := by
  unfold makeG
  split
  · exact zero_rng
  · rename_i h0
    split
    · exact zero_rng
    · rename_i h1
      split
      · exact zero_rng
      · rename_i h2
        have k := right_ok (Decidable.of_not_not h0)
        have q := make_use (t := t) h1 h2
        have e1 := energy_rng q.vals (Nat.le_refl _)
        have e2 := amount_rng k q
        have e3 := credit_rng k q
        have e4 := q.len
        exact ⟨by dsimp only [billL]; omega, by dsimp only [billL]; omega, by dsimp only [billL]; omega, by dsimp only [billL]; omega⟩
/-! ### totals -/
def billAt (t : MTariff) (l : List MUse) (i : Nat) : MBill := (makeG t (l.getD i default)).1
def errTo (t : MTariff) (l : List MUse) : Nat → Int
  | 0 => 0
  | n + 1 => if errTo t l n ≠ 0 then errTo t l n else (makeG t (l.getD n default)).2
def sumBill (t : MTariff) (l : List MUse) (n : Nat) : MBill := ⟨sumTo (fun i => (billAt t l i).energy) n, sumTo (fun i => (billAt t l i).amount) n, sumTo (fun i => (billAt t l i).credit) n, sumTo (fun i => (billAt t l i).due) n⟩
def totalG (t : MTariff) (l : List MUse) : List MBill × MBill × Int :=
  if (64 : Int) < l.length then ([], default, 2) else if errTo t l l.length ≠ 0 then ([], default, errTo t l l.length) else ((List.range l.length).map (billAt t l), sumBill t l l.length, 0)
theorem errTo_stay {t : MTariff} {l : List MUse} {n m : Nat} (h : errTo t l n ≠ 0) (hm : n ≤ m) : errTo t l m = errTo t l n := by
  induction m with
  | zero => rw [show n = 0 by omega]
  | succ m ih =>
    rcases Nat.lt_or_ge n (m + 1) with h1 | h1
    · rw [errTo, ih (by omega), if_pos h]
    · rw [show n = m + 1 by omega]
theorem sumBill_rng (t : MTariff) (l : List MUse) (n : Nat) : (0 ≤ (sumBill t l n).energy ∧ (sumBill t l n).energy ≤ n * 100000000) ∧ (0 ≤ (sumBill t l n).amount ∧ (sumBill t l n).amount ≤ n * 101000000000) ∧ (0 ≤ (sumBill t l n).credit ∧ (sumBill t l n).credit ≤ n * 101000000000) ∧ (0 ≤ (sumBill t l n).due ∧ (sumBill t l n).due ≤ n * 101000000000) := by
  have h : ∀ i, BRng (billAt t l i) := fun i => make_rng t _
  exact ⟨⟨sum_nonneg fun i _ => (h i).e.1, sum_le fun i _ => (h i).e.2⟩, ⟨sum_nonneg fun i _ => (h i).a.1, sum_le fun i _ => (h i).a.2⟩, ⟨sum_nonneg fun i _ => (h i).c.1, sum_le fun i _ => (h i).c.2⟩, ⟨sum_nonneg fun i _ => (h i).d.1, sum_le fun i _ => (h i).d.2⟩⟩
end Go.X

/- x[:len(x):len(x)]. No condition. -/
set_option linter.unusedSimpArgs false
set_option linter.unusedVariables false
namespace Go.X
def clipv (v : Value) (sz : Nat) : Value := match v with
  | .slice ad n _ => .slice (if n = 0 then ad else ad.map (·.add (0 * sz))) (n - 0) (n - 0)
  | _ => v
section
variable {P : Program} {ops : Array Oper} {e : Env} {o r : List PHeap} {d : Option Tmp} {ty : TypeId} {pos : String} {aft : Array Edge}
variable {α : Type} {enc : α → List Value} {sz : Nat} {h : PHeap} {xs : List α} {v : Value}
theorem Arr.clip (s : Arr v enc sz h xs) : Arr (clipv v sz) enc sz h xs := ⟨by
  obtain ⟨henc, hm, ad, c, rfl, hle, hnn, hc⟩ := s.pf
  refine ⟨henc, hm, (if xs.length = 0 then ad else ad.map (·.add (0 * sz))), xs.length, rfl, Nat.le_refl _, ?_, fun hp => ?_⟩
  · intro hnone
    split at hnone
    · assumption
    · cases ad with
      | none => have := hnn rfl; omega
      | some a => simp at hnone
  · obtain ⟨b, k, cs, T, fr, rfl, hb, hcs⟩ := hc hp
    refine ⟨b, k, cs, T, fr, ?_, hb, hcs⟩
    rw [if_neg (by omega)]
    simp [add_none]⟩
theorem Q.clip {t el : TypeId} [u : Und P t (.slice el)] [z : TySize P el sz] {x y y' : Operand} {k k' : IntKind} (hx : ev e x = some v) [s : Arr v enc sz h xs] (hy : ev e y = some (.int k (xs.length : Nat))) (hy' : ev e y' = some (.int k' (xs.length : Nat))) :
    Quiet P ops ⟨d, .slice t x none (some y) (some y'), ty, pos, aft, none⟩ e o r (clipv v sz) := .mk fun a w he _ => by
  obtain ⟨henc, hm, ad, c, rfl, hle, hnn, hc⟩ := s.pf
  have hrun : (Instr.sliceAt t (.slice ad xs.length c) none (some (.int k (xs.length : Nat))) (some (.int k' (xs.length : Nat)))).run P w =
      .ok (clipv (.slice ad xs.length c) sz) w := by
    unfold Instr.sliceAt
    rw [bind_ok (u.pf w)]
    simp only
    unfold Instr.slice
    rw [bind_ok (u.pf w)]
    simp only
    have hsb : ∀ (kk : IntKind) (m : Nat) (code : BoundsCode), xs.length ≤ m → (Instr.sliceBound (.int kk ((xs.length : Nat) : Int)) m code).run P w = .ok xs.length w := fun kk m code hm2 => by
      have h0 : (0 : Int) ≤ (xs.length : Nat) := by omega
      unfold Instr.sliceBound
      rw [bind_ok (a := (kk, ((xs.length : Nat) : Int))) (w1 := w) rfl]
      simp only
      rw [if_pos ⟨h0, by omega⟩]
      rfl
    have hb : (Instr.sliceBounds true xs.length c none (some (.int k (xs.length : Nat))) (some (.int k' (xs.length : Nat)))).run P w = .ok (0, xs.length, xs.length) w := by
      unfold Instr.sliceBounds
      simp only [if_true]
      rw [bind_ok (hsb k' c _ hle)]
      rw [bind_ok (hsb k xs.length _ (Nat.le_refl _))]
      rfl
    rw [bind_ok hb]
    simp only
    rw [bind_ok (z.pf w)]
    rfl
  simp only [execOp, ev_rel he hx, Option.map_none, Option.map_some, ev_rel he hy, ev_rel he hy', run_val hrun]
end
end Go.X

/- The chapter's examples of meters and bills. No condition. -/
set_option linter.unusedVariables false
namespace Go.X
def exC : MCase := ⟨[⟨-1, 0, 5⟩, ⟨0, 0, 0⟩, ⟨0, 0, 0⟩], [100, 60, 50]⟩
def exT : MTariff := ⟨List.replicate 24 10, 100, [⟨30, 10⟩, ⟨120, 25⟩], 20⟩
def exU : MUse := ⟨List.replicate 24 5, 150⟩
theorem exC_least : leastG exC = ([[0], [1], [2]], 0) := by decide
theorem exC_repair : repairG exC [1] = ([100, 45, 50], 0) := by decide
theorem exT_make : makeG exT exU = (⟨120, 1300, 260, 1040⟩, 0) := by decide
end Go.X

/- Repeated lists. No condition. -/
set_option linter.unusedVariables false
namespace Go.X
theorem repeat_first {α : Type} (x z : α) (n : Nat) : splice (List.replicate n z) [x] 0 = List.replicate (min 1 n) x ++ List.replicate (n - min 1 n) z := by
  unfold splice
  cases n with
  | zero => simp
  | succ n => simp [List.replicate_succ, show min 1 (n + 1) = 1 by omega]
theorem repeat_step {α : Type} (x z : α) {m n : Nat} (h : m ≤ n) :
    splice (List.replicate m x ++ List.replicate (n - m) z) (((List.replicate m x ++ List.replicate (n - m) z).drop 0).take (m - 0)) m =
      List.replicate (m + min m (n - m)) x ++ List.replicate (n - (m + min m (n - m))) z := by
  unfold splice
  have e1 : (List.replicate m x ++ List.replicate (n - m) z).take m = List.replicate m x := by
    rw [List.take_append, List.length_replicate, Nat.sub_self, List.take_zero, List.append_nil, List.take_of_length_le (by simp)]
  have e2 : (List.replicate m x ++ List.replicate (n - m) z).length = n := by simp; omega
  rw [List.drop_zero, Nat.sub_zero, e1, e2, List.length_replicate, List.take_replicate, Nat.min_eq_left (Nat.min_le_left _ _), List.drop_append, List.length_replicate,
    List.drop_of_length_le (l := List.replicate m x) (by simp), List.nil_append, List.drop_replicate, List.replicate_append_replicate]
  congr 2
  omega
end Go.X

/- Structs of numbers, compared. No condition. -/
set_option linter.unusedSimpArgs false
set_option linter.unusedVariables false
namespace Go.X
theorem run_eqInt {P : Program} {t : TypeId} {k' k : IntKind} [u : Und P t (.int k')] {m n : Int} {d : Nat} (w : World) : (Op.equalIn (d + 1) t (.int k m) (.int k n)).run P w = .ok (m == n) w := by
  unfold Op.equalIn
  rw [bind_ok (u.pf w)]
  simp only [if_true]
  rfl
/-- The fields of a struct, each with the values that are compared, and what comes of it. -/
inductive EqF (P : Program) (d : Nat) (xs ys : Array Value) : List Field → Bool → Prop
  | n : EqF P d xs ys [] true
  | c {f : Field} {fs : List Field} {k k' : IntKind} {m n : Int} {r : Bool} (hn : (f.name == "_") = false) (ht : IsAgg P f.type false) (u : Und P f.type (.int k')) (hx : xs[f.offset]? = some (.int k m)) (hy : ys[f.offset]? = some (.int k n)) (hr : EqF P d xs ys fs r) : EqF P d xs ys (f :: fs) (decide (m = n) && r)
theorem run_part {P : Program} {t : TypeId} [ht : IsAgg P t false] {xs : Array Value} {i : Nat} {v : Value} (h : xs[i]? = some v) (w : World) : (part t xs i).run P w = .ok v w := by
  unfold part
  rw [bind_ok (ht.pf w)]
  simp only [Bool.false_eq_true, if_false, h]
  rfl
theorem eq_loop {P : Program} {d : Nat} {xs ys : Array Value} {fs : List Field} {r : Bool} (h : EqF P (d + 1) xs ys fs r) (w : World) :
    (forIn (m := Sem) fs ((none, ()) : Option Bool × Unit) fun f __s =>
                  if f.name ≠ "_" then do
                    let __do_lift ← part f.type xs f.offset
                    let __do_lift_1 ← part f.type ys f.offset
                    let __do_lift ← Op.equalIn (d + 1) f.type __do_lift __do_lift_1
                    if (!__do_lift) = true then pure (ForInStep.done (some false, ()))
                      else pure (ForInStep.yield (none, ()))
                  else pure (ForInStep.yield (none, ()))).run P w = .ok (if r = true then (none, ()) else (some false, ())) w := by
  induction h with
  | n => rfl
  | @c f fs k k' m n r hn ht u hx hy hr ih =>
    rw [List.forIn_cons, if_pos (by intro h; rw [h] at hn; simp at hn)]
    by_cases hmn : m = n
    · subst hmn
      rw [bind_ok (a := ForInStep.yield (none, ())) (w1 := w)]
      · simp only
        rw [ih]; simp
      · rw [bind_ok (run_part (ht := ht) hx w), bind_ok (run_part (ht := ht) hy w), bind_ok (run_eqInt (u := u) w)]
        simp only [beq_self_eq_true, Bool.not_true, Bool.false_eq_true, if_false]
        rfl
    · rw [bind_ok (a := ForInStep.done (some false, ())) (w1 := w)]
      · simp only [hmn, decide_false, Bool.false_and, Bool.false_eq_true, if_false]
        rfl
      · rw [bind_ok (run_part (ht := ht) hx w), bind_ok (run_part (ht := ht) hy w), bind_ok (run_eqInt (u := u) w)]
        have : (m == n) = false := by simp [hmn]
        simp only [this, Bool.not_false, if_true]
        rfl
theorem run_eqStruct {P : Program} {t : TypeId} {fs : List Field} (u : Und P t (.struct fs.toArray)) (hs : P.stoodInHeld t = false) {xs ys : Array Value} {d : Nat} {r : Bool} (h : EqF P (d + 1) xs ys fs r) (w : World) :
    (Op.equalIn (d + 2) t (.agg xs) (.agg ys)).run P w = .ok r w := by
  unfold Op.equalIn
  rw [bind_ok (u.pf w)]
  simp only
  have hp : (program).run P w = .ok P w := rfl
  rw [bind_ok hp, if_neg (by rw [hs]; decide)]
  have hl := eq_loop h w
  rw [bind_ok (a := (if r = true then (none, ()) else (some false, ()))) (w1 := w)]
  · cases r <;> rfl
  · simp only [List.forIn_toArray]
    exact hl
section
variable {P : Program} {ops : Array Oper} {e : Env} {o r : List PHeap} {d : Option Tmp} {ty : TypeId} {pos : String} {aft : Array Edge}
theorem run_guardAgg {t : TypeId} {x y : Operand} {xs ys : Array Value} {op : BinOp} (hg : P.eqGuardType P.depth t = false) (hop : op = .eql ∨ op = .neq) (w : World) : (eqGuard op t x y (.agg xs) (.agg ys)).run P w = .ok () w := by
  have hp : (program).run P w = .ok P w := rfl
  rcases hop with rfl | rfl
  · unfold eqGuard
    simp only [Bool.not_true, Bool.false_eq_true, if_false]
    rw [bind_ok hp, bind_ok hp]
    simp only [hg, Bool.not_false, if_true]
    rfl
  · unfold eqGuard
    simp only [Bool.not_true, Bool.false_eq_true, if_false]
    rw [bind_ok hp, bind_ok hp]
    simp only [hg, Bool.not_false, if_true]
    rfl
theorem Q.eqlS {t t2 : TypeId} {x y : Operand} {fs : List Field} {us vs : List Value} {b : Bool} (hx : ev e x = some (.agg us.toArray)) (hy : ev e y = some (.agg vs.toArray)) (u : Und P t (.struct fs.toArray)) (hs : P.stoodInHeld t = false) (hg : P.eqGuardType P.depth t = false)
    (h : EqF P 9999 us.toArray vs.toArray fs b) : Quiet P ops ⟨d, .binOp .eql t x y t2, ty, pos, aft, none⟩ e o r (.bool b) := .mk fun a w he _ => by
  simp only [execOp, ev_rel he hx, ev_rel he hy]
  refine run_val ?_
  rw [bind_ok (run_guardAgg hg (.inl rfl) w)]
  unfold binOp
  simp only
  have h1 : (Op.equal t (.agg us.toArray) (.agg vs.toArray)).run P w = .ok b w := run_eqStruct (d := 9998) u hs h w
  rw [bind_ok h1]
  rfl
theorem Q.neqS {t t2 : TypeId} {x y : Operand} {fs : List Field} {us vs : List Value} {b : Bool} (hx : ev e x = some (.agg us.toArray)) (hy : ev e y = some (.agg vs.toArray)) (u : Und P t (.struct fs.toArray)) (hs : P.stoodInHeld t = false) (hg : P.eqGuardType P.depth t = false)
    (h : EqF P 9999 us.toArray vs.toArray fs b) : Quiet P ops ⟨d, .binOp .neq t x y t2, ty, pos, aft, none⟩ e o r (.bool (!b)) := .mk fun a w he _ => by
  simp only [execOp, ev_rel he hx, ev_rel he hy]
  refine run_val ?_
  rw [bind_ok (run_guardAgg hg (.inr rfl) w)]
  unfold binOp
  simp only
  have h1 : (Op.equal t (.agg us.toArray) (.agg vs.toArray)).run P w = .ok b w := run_eqStruct (d := 9998) u hs h w
  rw [bind_ok h1]
  rfl
end
end Go.X

/- The statement MeterPays, in plain lists. No condition. -/
set_option linter.unusedVariables false
namespace Go.X
theorem tier_facts {t : MTariff} (k : TOk11 t) {i : Nat} (hi : i < t.tiers.length) : 0 ≤ (t.tiers.getD i default).pct ∧ (0 < i → (t.tiers.getD (i - 1) default).min < (t.tiers.getD i default).min ∧ (t.tiers.getD (i - 1) default).pct ≤ (t.tiers.getD i default).pct) := by
  have h := k.tier i hi
  unfold badTier at h
  simp only [not_or, Classical.not_not, not_and] at h
  have h2 := inA_one.1 h.1.2
  refine ⟨h2.1, fun hp => ?_⟩
  have h3 := h.2 (by omega)
  rw [show ((i : Int) - 1).toNat = i - 1 by omega] at h3
  exact ⟨by omega, by omega⟩
theorem pct_below {t : MTariff} (k : TOk11 t) (out : Int) : ∀ n, n < t.tiers.length → pctTo t out n ≤ (t.tiers.getD n default).pct
  | 0, h => by rw [pctTo]; exact (tier_facts k h).1
  | n + 1, h => by
    have h1 := (tier_facts k h).2 (by omega)
    have h2 := pct_below k out n (by omega)
    rw [show n + 1 - 1 = n from rfl] at h1
    rw [pctTo]
    split <;> omega
theorem pct_mono {t : MTariff} (k : TOk11 t) {a b : Int} (h : a ≤ b) : ∀ n, n ≤ t.tiers.length → pctTo t a n ≤ pctTo t b n
  | 0, _ => Int.le_refl _
  | n + 1, hn => by
    rw [pctTo, pctTo]
    split
    · rw [if_pos (by omega)]; exact Int.le_refl _
    · split
      · exact pct_below k a n (by omega)
      · exact pct_mono k h n (by omega)
theorem percent_mono {t : MTariff} (k : TOk11 t) {a b : Int} (h : a ≤ b) : percentL t a ≤ percentL t b := by
  have := pct_mono k h t.tiers.length (Nat.le_refl _)
  unfold percentL; omega
theorem pays1 {t : MTariff} (k : TOk11 t) {u : MUse} (q : UOk11 u) : (billL t u).credit + (billL t u).due = (billL t u).amount ∧ 0 ≤ (billL t u).credit ∧ 0 ≤ (billL t u).due ∧ 100 * (billL t u).credit ≤ (billL t u).amount * t.credit + 50 ∧ 0 ≤ (billL t u).amount * t.credit ∧ (billL t u).amount * t.credit ≤ 10100000000000 ∧
    0 ≤ (billL t u).amount ∧ (billL t u).amount ≤ 101000000000 ∧ 0 ≤ (billL t u).energy ∧ (billL t u).energy ≤ 100000000 := by
  have h1 := amount_rng k q
  have h2 := credit_rng k q
  have h3 := percent_rng k u.out
  have h4 := k.credit
  have h5 : amountL t u * percentL t u.out ≤ amountL t u * t.credit := Int.mul_le_mul_of_nonneg_left h3.2.1 h1.1
  have h6 : amountL t u * t.credit ≤ 101000000000 * 100 := Int.mul_le_mul h1.2 h4.2 h4.1 (by decide)
  have h7 : 0 ≤ amountL t u * t.credit := Int.mul_nonneg h1.1 h4.1
  have h8 := energy_rng q.vals (Nat.le_refl _)
  have h9 := q.len
  simp only [billL]
  unfold creditL at *
  refine ⟨by omega, by omega, by omega, by omega, h7, by omega, h1.1, h1.2, h8.1, by omega⟩
theorem pays2 {t : MTariff} (k : TOk11 t) {u w : MUse} (q : UOk11 u) (e : w.values = u.values) (ho : u.out ≤ w.out) : (billL t w).due ≤ (billL t u).due ∧ (billL t w).amount = (billL t u).amount := by
  have h1 := amount_rng k q
  have h2 := percent_mono k ho
  have ea : amountL t w = amountL t u := by unfold amountL; rw [e]
  have h3 : amountL t u * percentL t u.out ≤ amountL t u * percentL t w.out := Int.mul_le_mul_of_nonneg_left h2 h1.1
  simp only [billL]
  unfold creditL
  rw [ea]
  exact ⟨by omega, rfl⟩
theorem sum_split {f : Nat → Int} {n : Nat} : ∀ m, sumTo f (n + m) = sumTo f n + sumTo (fun i => f (n + i)) m
  | 0 => by rw [sumTo, Int.add_zero]; rfl
  | m + 1 => by rw [show n + (m + 1) = (n + m) + 1 by omega, sumTo, sum_split m, sumTo, Int.add_assoc]
theorem take_getD0 {l : List Int} {n i : Nat} (hi : i < n) : (l.take n).getD i 0 = l.getD i 0 := by
  rw [List.getD_eq_getElem?_getD, List.getElem?_take, if_pos hi, List.getD_eq_getElem?_getD]
theorem drop_getD0 {l : List Int} {n i : Nat} : (l.drop n).getD i 0 = l.getD (n + i) 0 := by
  rw [List.getD_eq_getElem?_getD, List.getElem?_drop, List.getD_eq_getElem?_getD]
theorem energy_split {v : List Int} {n : Nat} (hn : n ≤ v.length) : energyTo v v.length = energyTo (v.take n) n + energyTo (v.drop n) (v.length - n) := by
  unfold energyTo
  rw [show v.length = n + (v.length - n) by omega, sum_split, show n + (v.length - n) - n = v.length - n by omega]
  congr 1
  · exact sum_congr fun i hi => (take_getD0 hi).symm
  · exact sum_congr fun i _ => drop_getD0.symm
theorem cost_split {p v : List Int} {n : Nat} (hn : n ≤ v.length) (h24 : n % 24 = 0) : costTo p v v.length = costTo p (v.take n) n + costTo p (v.drop n) (v.length - n) := by
  unfold costTo
  rw [show v.length = n + (v.length - n) by omega, sum_split, show n + (v.length - n) - n = v.length - n by omega]
  congr 1
  · exact sum_congr fun i hi => by rw [take_getD0 hi]
  · exact sum_congr fun i _ => by rw [drop_getD0, show (n + i) % 24 = i % 24 by omega]
def useTake (u : MUse) (n : Nat) : MUse := ⟨(u.values.drop 0).take (n - 0), 0⟩
def useDrop (u : MUse) (n : Nat) : MUse := ⟨(u.values.drop n).take (u.values.length - n), 0⟩
theorem useTake_ok {u : MUse} (q : UOk11 u) (n : Nat) : UOk11 (useTake u n) := ⟨by have := q.len; simp only [useTake, List.length_take, List.length_drop]; omega, fun x hx => q.vals x (List.mem_of_mem_drop (List.mem_of_mem_take hx)), by simp [useTake]⟩
theorem useDrop_ok {u : MUse} (q : UOk11 u) (n : Nat) : UOk11 (useDrop u n) := ⟨by have := q.len; simp only [useDrop, List.length_take, List.length_drop]; omega, fun x hx => q.vals x (List.mem_of_mem_drop (List.mem_of_mem_take hx)), by simp [useDrop]⟩
theorem total_two {t : MTariff} (k : TOk11 t) {u w : MUse} (q : UOk11 u) (r : UOk11 w) : totalG t [u, w] = ([billL t u, billL t w], ⟨0 + (billL t u).energy + (billL t w).energy, 0 + (billL t u).amount + (billL t w).amount, 0 + (billL t u).credit + (billL t w).credit, 0 + (billL t u).due + (billL t w).due⟩, 0) := by
  have e0 : billAt t [u, w] 0 = billL t u := by show (makeG t u).1 = _; rw [make_fine k q]
  have e1 : billAt t [u, w] 1 = billL t w := by show (makeG t w).1 = _; rw [make_fine k r]
  have he : errTo t [u, w] 2 = 0 := by
    have h0 : errTo t [u, w] 1 = 0 := by
      show (if (0 : Int) ≠ 0 then 0 else (makeG t u).2) = 0
      rw [make_fine k q, if_neg (by decide)]
    rw [errTo, h0, if_neg (by decide)]
    show (makeG t w).2 = 0
    rw [make_fine k r]
  unfold totalG
  rw [show ([u, w] : List MUse).length = 2 from rfl, if_neg (by decide), he, if_neg (by decide)]
  have hs : sumBill t [u, w] 2 = ⟨0 + (billL t u).energy + (billL t w).energy, 0 + (billL t u).amount + (billL t w).amount, 0 + (billL t u).credit + (billL t w).credit, 0 + (billL t u).due + (billL t w).due⟩ := by
    rw [← e0, ← e1]; rfl
  rw [hs, show (List.range 2).map (billAt t [u, w]) = [billAt t [u, w] 0, billAt t [u, w] 1] from rfl, e0, e1]
theorem pays3 {t : MTariff} {u : MUse} {n : Nat} (hn : n ≤ u.values.length) : (billL t (useTake u n)).energy + (billL t (useDrop u n)).energy = (billL t u).energy ∧
    (n % 24 = 0 → (billL t (useTake u n)).amount + (billL t (useDrop u n)).amount = (billL t u).amount + t.base) := by
  have e1 : (useTake u n).values = u.values.take n := by simp [useTake]
  have e2 : (useDrop u n).values = u.values.drop n := by simp [useDrop, List.take_of_length_le]
  have l1 : (u.values.take n).length = n := by rw [List.length_take]; omega
  have l2 : (u.values.drop n).length = u.values.length - n := List.length_drop ..
  simp only [billL]
  unfold amountL
  rw [e1, e2, l1, l2]
  refine ⟨(energy_split hn).symm, fun h => ?_⟩
  rw [cost_split (p := t.price) hn h]
  omega
structure TSo (ts : List MTier) (m p : Int) (k : Nat) : Prop where
  len : ts.length = k
  hm : 0 ≤ m ∧ m ≤ 5101 * k
  hp : 0 ≤ p ∧ p ≤ 100
  each : ∀ j, j < k → (0 ≤ (ts.getD j default).min ∧ (ts.getD j default).min ≤ m) ∧ 0 ≤ (ts.getD j default).pct ∧ (ts.getD j default).pct ≤ p
  next : ∀ j, 0 < j → j < k → (ts.getD (j - 1) default).min < (ts.getD j default).min ∧ (ts.getD (j - 1) default).pct ≤ (ts.getD j default).pct
theorem tget {l : List MTier} {x : MTier} {i : Nat} : (l ++ [x]).getD i default = if i < l.length then l.getD i default else if i = l.length then x else default := by
  rw [List.getD_eq_getElem?_getD, List.getElem?_append]
  split
  · rw [List.getD_eq_getElem?_getD]
  · split
    · rename_i h1 h2; subst h2; simp
    · rename_i h1 h2
      rw [List.getElem?_eq_none (by simp; omega)]; rfl
theorem TSo.snoc {ts : List MTier} {m p : Int} {k : Nat} (s : TSo ts m p k) {m2 p2 : Int} (hm : m < m2) (hm2 : m2 ≤ m + 5101) (hp : p ≤ p2) (hp2 : p2 ≤ 100) : TSo (ts ++ [⟨m2, p2⟩]) m2 p2 (k + 1) := by
  have h1 := s.hm
  have h2 := s.hp
  have hl := s.len
  refine ⟨by rw [List.length_append, hl]; rfl, by omega, by omega, fun j hj => ?_, fun j h0 hj => ?_⟩
  · rw [tget]
    by_cases hc : j < ts.length
    · rw [if_pos hc]; have := s.each j (by omega); omega
    · rw [if_neg hc, if_pos (by omega)]; dsimp only; omega
  · rw [tget, tget]
    by_cases hc : j < ts.length
    · rw [if_pos hc, if_pos (by omega)]; exact s.next j h0 (by omega)
    · rw [if_neg hc, if_pos (by omega), if_pos (by omega)]
      have := s.each (j - 1) (by omega)
      dsimp only; omega
theorem TSo.ok {ts : List MTier} {m p : Int} {k : Nat} (s : TSo ts m p k) (hk : k ≤ 8) {pr : List Int} {base cr : Int} (hl : pr.length = 24) (hp : ∀ x ∈ pr, 0 ≤ x ∧ x ≤ 1000) (hb : 0 ≤ base ∧ base ≤ 1000000000) (hc : 0 ≤ cr ∧ cr ≤ 100) : TOk11 ⟨pr, base, ts, cr⟩ := by
  refine ⟨hl, by dsimp only; rw [s.len]; exact hk, hp, hb, hc, fun i hi => ?_⟩
  dsimp only at hi
  rw [s.len] at hi
  have h1 := s.each i hi
  have h2 := s.hm
  have h3 := s.hp
  unfold badTier
  dsimp only
  rw [inA_one, inA_one]
  rcases Nat.eq_zero_or_pos i with hz | hz
  · omega
  · have h4 := s.next i hz hi
    rw [show ((i : Int) - 1).toNat = i - 1 by omega]
    omega
end Go.X

/- All sets of so many of n nodes: in lexicographic order, none missing. No condition. -/
set_option linter.unusedVariables false
namespace Go.X
def Chain (n s : Nat) : List (List Nat) → Prop
  | [] => True
  | [x] => nextS n s x = none
  | x :: y :: r => nextS n s x = some y ∧ Chain n s (y :: r)
theorem lastTo_cons {n s b : Nat} {x : List Nat} : ∀ m, m ≤ s → lastTo (freeAt n (s + 1) (b :: x)) (m + 1) = match lastTo (freeAt n s x) m with
    | some i => some (i + 1)
    | none => if freeAt n (s + 1) (b :: x) 0 = true then some 0 else none
  | 0, _ => by rw [lastTo]; rfl
  | m + 1, hm => by
    have ih := lastTo_cons (n := n) (s := s) (b := b) (x := x) m (by omega)
    have e : freeAt n (s + 1) (b :: x) (m + 1) = freeAt n s x m := by
      unfold freeAt
      congr 1
      rw [show (b :: x).getD (m + 1) 0 = x.getD m 0 from rfl]
      congr 1
      rw [eq_iff_iff]
      omega
    rw [lastTo, e, show lastTo (freeAt n s x) (m + 1) = if freeAt n s x m = true then some m else lastTo (freeAt n s x) m from rfl]
    by_cases h : freeAt n s x m = true
    · rw [if_pos h, if_pos h]
    · rw [if_neg h, if_neg h, ih]
theorem bumpTo_cons {b : Nat} {x : List Nat} {i : Nat} : ∀ t, bumpTo (b :: x) (i + 1) t = b :: bumpTo x i t
  | 0 => rfl
  | t + 1 => by
    rw [bumpTo, bumpTo_cons t, bumpTo, show i + 1 + 1 + t = (i + 1 + t) + 1 by omega, show i + 1 + t = (i + t) + 1 by omega]
    rfl
theorem nextS_cons {n s b : Nat} {x : List Nat} : nextS n (s + 1) (b :: x) = match nextS n s x with
    | some y => some (b :: y)
    | none => if freeAt n (s + 1) (b :: x) 0 = true then some (bumpTo (b :: x) 0 s) else none := by
  unfold nextS
  rw [lastTo_cons s (Nat.le_refl _)]
  cases lastTo (freeAt n s x) s with
  | some i =>
    simp only [Option.map_some]
    rw [show s + 1 - 1 - (i + 1) = s - 1 - i by omega, bumpTo_cons]
  | none =>
    simp only [Option.map_none]
    split <;> rfl
/-- b, b + 1, .. -/
def upFrom (b : Nat) : Nat → List Nat
  | 0 => []
  | s + 1 => b :: upFrom (b + 1) s
theorem upFrom_len (b : Nat) : ∀ s, (upFrom b s).length = s
  | 0 => rfl
  | s + 1 => by rw [upFrom, List.length_cons, upFrom_len (b + 1) s]
theorem upFrom_at : ∀ (s b i : Nat), i < s → (upFrom b s).getD i 0 = b + i
  | s + 1, b, 0, _ => rfl
  | s + 1, b, i + 1, h => by
    rw [upFrom, show (b :: upFrom (b + 1) s).getD (i + 1) 0 = (upFrom (b + 1) s).getD i 0 from rfl, upFrom_at s (b + 1) i (by omega)]; omega
theorem ext0 {a b : List Nat} (hl : a.length = b.length) (h : ∀ i, i < a.length → a.getD i 0 = b.getD i 0) : a = b := by
  refine List.ext_getElem hl fun i h1 h2 => ?_
  have := h i h1
  rw [List.getD_eq_getElem?_getD, List.getD_eq_getElem?_getD, List.getElem?_eq_getElem h1, List.getElem?_eq_getElem h2] at this
  simpa using this
theorem bumpTo_low {l : List Nat} {i : Nat} : ∀ {t j}, i + t < l.length → i ≤ j → j ≤ i + t → (bumpTo l i t).getD j 0 = l.getD i 0 + 1 + (j - i)
  | 0, j, h, h1, h2 => by
    rw [show j = i by omega, Nat.sub_self]
    have := bumpTo_at (l := l) (i := i) (t := 0) h
    simpa using this
  | t + 1, j, h, h1, h2 => by
    by_cases hj : j = i + (t + 1)
    · subst hj
      rw [bumpTo_at h]; omega
    · rw [bumpTo, List.getD_eq_getElem?_getD, List.getElem?_set, if_neg (by omega), ← List.getD_eq_getElem?_getD]
      exact bumpTo_low (by omega) h1 (by omega)
theorem bump_zero {b : Nat} {x : List Nat} : bumpTo (b :: x) 0 x.length = upFrom (b + 1) (x.length + 1) := by
  refine ext0 (by rw [bumpTo_len, upFrom_len]; rfl) fun i hi => ?_
  rw [bumpTo_len] at hi
  have hi2 : i < x.length + 1 := by simpa using hi
  rw [bumpTo_low (by simp) (Nat.zero_le _) (by omega), upFrom_at _ _ _ hi2]
  show b + 1 + (i - 0) = b + 1 + i
  omega
theorem combos_nil : ∀ (s a b : Nat), a < s → combos s a b = []
  | s + 1, 0, b, _ => rfl
  | s + 1, a + 1, b, h => by
    rw [combos, combos_nil s a (b + 1) (by omega), combos_nil (s + 1) a (b + 1) (by omega)]; rfl
theorem combos_head : ∀ (s a b : Nat), s ≤ a → ∃ r, combos s a b = upFrom b s :: r
  | 0, a, b, _ => ⟨[], by cases a <;> rfl⟩
  | s + 1, a + 1, b, h => by
    obtain ⟨r, hr⟩ := combos_head s a (b + 1) (by omega)
    exact ⟨r.map (b :: ·) ++ combos (s + 1) a (b + 1), by rw [combos, hr]; rfl⟩
theorem combos_each : ∀ (s a b : Nat), ∀ x ∈ combos s a b, x.length = s ∧ ∀ y ∈ x, b ≤ y ∧ y < b + a
  | 0, a, b, x, hx => by
    have : x = [] := by cases a <;> simpa [combos] using hx
    subst this
    exact ⟨rfl, fun y hy => by cases hy⟩
  | s + 1, 0, b, x, hx => by cases hx
  | s + 1, a + 1, b, x, hx => by
    rw [combos, List.mem_append, List.mem_map] at hx
    rcases hx with ⟨y, hy, rfl⟩ | hx
    · obtain ⟨h1, h2⟩ := combos_each s a (b + 1) y hy
      refine ⟨by rw [List.length_cons, h1], fun z hz => ?_⟩
      rcases List.mem_cons.1 hz with rfl | hz
      · omega
      · have := h2 z hz; omega
    · obtain ⟨h1, h2⟩ := combos_each (s + 1) a (b + 1) x hx
      exact ⟨h1, fun z hz => by have := h2 z hz; omega⟩
theorem chain_map {n s b : Nat} {r : List (List Nat)} (hr : ∀ x ∈ r, x.length = s) (hc : Chain n s r) (tail : List (List Nat)) (ht : Chain n (s + 1) tail)
    (hj : tail = [] ∧ (∀ x : List Nat, freeAt n (s + 1) (b :: x) 0 = false) ∨ ∃ t, tail = upFrom (b + 1) (s + 1) :: t ∧ ∀ x : List Nat, freeAt n (s + 1) (b :: x) 0 = true) : Chain n (s + 1) (r.map (b :: ·) ++ tail) := by
  induction r with
  | nil => simpa using ht
  | cons x r ih =>
    have hl := hr x List.mem_cons_self
    cases r with
    | nil =>
      have hx : nextS n s x = none := hc
      rcases hj with ⟨rfl, hf⟩ | ⟨t, rfl, hf⟩
      · show nextS n (s + 1) (b :: x) = none
        rw [nextS_cons, hx]
        simp only
        rw [if_neg (by rw [hf]; decide)]
      · refine ⟨?_, ht⟩
        rw [nextS_cons, hx]
        simp only
        rw [if_pos (hf x), ← hl, bump_zero]
    | cons y r =>
      obtain ⟨h1, h2⟩ := hc
      refine ⟨?_, ih (fun z hz => hr z (List.mem_cons_of_mem _ hz)) h2⟩
      show nextS n (s + 1) (b :: x) = some (b :: y)
      rw [nextS_cons, h1]
theorem combos_chain : ∀ (s a b : Nat), Chain (b + a) s (combos s a b)
  | 0, a, b => by
    have : combos 0 a b = [[]] := by cases a <;> rfl
    rw [this]
    show nextS (b + a) 0 [] = none
    rfl
  | s + 1, 0, b => trivial
  | s + 1, a + 1, b => by
    rw [combos]
    have h1 := combos_chain s a (b + 1)
    have h2 := combos_chain (s + 1) a (b + 1)
    rw [show b + 1 + a = b + (a + 1) by omega] at h1 h2
    by_cases hs : a < s
    · rw [combos_nil s a (b + 1) hs]; simpa using h2
    · refine chain_map (fun x hx => (combos_each s a (b + 1) x hx).1) h1 _ h2 ?_
      by_cases ha : a = s
      · left
        refine ⟨combos_nil _ _ _ (by omega), fun x => ?_⟩
        unfold freeAt
        rw [Bool.not_eq_false', decide_eq_true_eq]
        show ((b : Nat) : Int) = _
        omega
      · right
        obtain ⟨t, ht⟩ := combos_head (s + 1) a (b + 1) (by omega)
        refine ⟨t, ht, fun x => ?_⟩
        unfold freeAt
        rw [Bool.not_eq_true', decide_eq_false_iff_not]
        show ¬ ((b : Nat) : Int) = _
        omega
theorem chain_next {n s : Nat} : ∀ {l : List (List Nat)}, Chain n s l → ∀ j, j < l.length → nextS n s (l.getD j []) = l[j + 1]?
  | [x], h, 0, _ => h
  | x :: y :: r, h, 0, _ => h.1
  | x :: y :: r, h, j + 1, hj => by
    have := chain_next h.2 j (by simpa using hj)
    simpa using this
theorem upFrom_range (s : Nat) : upFrom 0 s = List.range s := by
  refine ext0 (by rw [upFrom_len]; simp) fun i hi => ?_
  rw [upFrom_len] at hi
  rw [upFrom_at _ _ _ hi, List.getD_eq_getElem?_getD, List.getElem?_eq_getElem (by simpa using hi)]; simp
theorem getD_memL {l : List (List Nat)} {j : Nat} (hj : j < l.length) : l.getD j [] ∈ l := by
  rw [List.getD_eq_getElem?_getD, List.getElem?_eq_getElem hj]; exact List.getElem_mem hj
theorem combos_steps {n s : Nat} (h : s ≤ n) : SetSteps n s (combos s n 0) := by
  obtain ⟨r, hr⟩ := combos_head s n 0 h
  refine ⟨by rw [hr, ← upFrom_range]; rfl, fun j hj => ?_, fun j hj => ?_⟩
  · have := chain_next (combos_chain s n 0) j hj
    rwa [Nat.zero_add] at this
  · obtain ⟨h1, h2⟩ := combos_each s n 0 _ (getD_memL hj)
    exact ⟨h1, fun x hx => by have := h2 x hx; omega⟩
/-- Increasing lists. -/
def Inc : Nat → List Nat → Prop
  | _, [] => True
  | b, x :: l => b ≤ x ∧ Inc (x + 1) l
theorem combos_all : ∀ (a b : Nat) (l : List Nat), Inc b l → (∀ x ∈ l, x < b + a) → l ∈ combos l.length a b
  | 0, b, [], _, _ => by simp [combos]
  | a + 1, b, [], _, _ => by simp [combos]
  | 0, b, x :: l, h, hx => by have := hx x List.mem_cons_self; have := h.1; omega
  | a + 1, b, x :: l, h, hx => by
    rw [List.length_cons, combos, List.mem_append]
    by_cases hb : x = b
    · subst hb
      left
      exact List.mem_map.2 ⟨l, combos_all a (x + 1) l h.2 (fun y hy => by have := hx y (List.mem_cons_of_mem _ hy); omega), rfl⟩
    · right
      exact combos_all a (b + 1) (x :: l) ⟨by have := h.1; omega, h.2⟩ (fun y hy => by have := hx y hy; omega)
end Go.X

/- What explains a case: values with which all balances hold; the least of them. No condition. -/
set_option linter.unusedVariables false
namespace Go.X
def sumV (c : MCase) (v : List Int) (i : Nat) (n : Nat) : Int := sumTo (fun q => v.getD ((sonsN c i).getD q 0) 0) n
structure Sol (c : MCase) (set : List Int) (v : List Int) : Prop where
  len : v.length = c.nodes.length
  rng : ∀ i, i < c.nodes.length → 0 ≤ v.getD i 0 ∧ v.getD i 0 ≤ 1000000000
  own : ∀ i, i < c.nodes.length → ¬ (i : Int) ∈ set → v.getD i 0 = c.vals.getD i 0
  bal : ∀ i, i < c.nodes.length → 0 < (sonsN c i).length → (c.nodes.getD i default).low ≤ v.getD i 0 - sumV c v i (sonsN c i).length ∧ v.getD i 0 - sumV c v i (sonsN c i).length ≤ (c.nodes.getD i default).high
theorem mem_any {x : Int} {xs : List Int} : xs.any (fun y => decide (x = y)) = true ↔ x ∈ xs := by
  rw [List.any_eq_true]
  exact ⟨fun ⟨y, hy, h⟩ => by rw [decide_eq_true_eq] at h; exact h ▸ hy, fun h => ⟨x, h, by simp⟩⟩
theorem Sol.own_in {c : MCase} {set v : List Int} (s : Sol c set v) {i : Nat} (hi : i < c.nodes.length) : (ownIv c set i).first ≤ v.getD i 0 ∧ v.getD i 0 ≤ (ownIv c set i).last := by
  unfold ownIv
  split
  · exact s.rng i hi
  · rename_i h
    rw [s.own i hi (fun hm => h (mem_any.2 hm))]
    exact ⟨Int.le_refl _, Int.le_refl _⟩
theorem sol_may {c : MCase} (ok : MOk c) {set v : List Int} (s : Sol c set v) : ∀ m i, i < c.nodes.length → c.nodes.length - i ≤ m → okN c set i = true ∧ (mayI c set i).first ≤ v.getD i 0 ∧ v.getD i 0 ≤ (mayI c set i).last
  | 0, i, hi, hm => by omega
  | m + 1, i, hi, hm => by
    have hs : ∀ q, q < (sonsN c i).length → okN c set ((sonsN c i).getD q 0) = true ∧ (mayI c set ((sonsN c i).getD q 0)).first ≤ v.getD ((sonsN c i).getD q 0) 0 ∧ v.getD ((sonsN c i).getD q 0) 0 ≤ (mayI c set ((sonsN c i).getD q 0)).last := fun q hq => by
      obtain ⟨a, b, _⟩ := ok.son (getD_mem0 hq)
      exact sol_may ok s m _ a (by omega)
    have h1 := s.own_in hi
    have h2 : (mayI c set i).first ≤ v.getD i 0 ∧ v.getD i 0 ≤ (mayI c set i).last := by
      rw [may_eq ok set hi]
      split
      · rename_i hp
        have hb := s.bal i hi hp
        have e1 : sumFirst c set i (sonsN c i).length ≤ sumV c v i (sonsN c i).length := sum_mono fun q hq => (hs q hq).2.1
        have e2 : sumV c v i (sonsN c i).length ≤ sumLast c set i (sonsN c i).length := sum_mono fun q hq => (hs q hq).2.2
        dsimp only; omega
      · exact h1
    refine ⟨?_, h2⟩
    rw [ok_eq ok set hi, allTo_true fun q hq => (hs q hq).1, Bool.true_and, Bool.not_eq_true', decide_eq_false_iff_not]
    omega
theorem sol_ok {c : MCase} (ok : MOk c) {set v : List Int} (s : Sol c set v) : okN c set 0 = true := (sol_may ok s _ 0 ok.n1 (Nat.le_refl _)).1
theorem Sol.wide {c : MCase} {set wide v : List Int} (s : Sol c set v) (h : ∀ x ∈ set, x ∈ wide) : Sol c wide v := ⟨s.len, s.rng, fun i hi hn => s.own i hi (fun hm => hn (h _ hm)), s.bal⟩
/-! ### sons are in order -/
theorem sonsTo_lt {c : MCase} {i : Int} : ∀ {n q p}, q < p → p < (sonsTo c i n).length → (sonsTo c i n).getD q 0 < (sonsTo c i n).getD p 0
  | 0, q, p, _, hp => by simp [sonsTo] at hp
  | n + 1, q, p, hq, hp => by
    rw [sonsTo] at hp ⊢
    split at hp
    · rename_i h
      rw [if_pos h]
      rw [List.length_append] at hp
      have hl : [n].length = 1 := rfl
      have hg : ∀ x, x < (sonsTo c i n).length → (sonsTo c i n ++ [n]).getD x 0 = (sonsTo c i n).getD x 0 := fun x hx => by
        rw [List.getD_eq_getElem?_getD, List.getElem?_append_left hx, List.getD_eq_getElem?_getD]
      rw [hg q (by omega)]
      by_cases hp2 : p < (sonsTo c i n).length
      · rw [hg p hp2]; exact sonsTo_lt hq hp2
      · have hpe : p = (sonsTo c i n).length := by omega
        have : (sonsTo c i n ++ [n]).getD p 0 = n := by rw [hpe, List.getD_eq_getElem?_getD, List.getElem?_append_right (Nat.le_refl _), Nat.sub_self]; rfl
        rw [this]
        exact (sonsTo_mem.1 (getD_mem0 (l := sonsTo c i n) (j := q) (by omega))).1
    · rename_i h
      rw [if_neg h]
      exact sonsTo_lt hq hp
/-! ### what Repair finds -/
section
variable {c : MCase} {set out : List Int} {i : Nat}
def oval (c : MCase) (set out : List Int) (i q : Nat) : Int := max (mayI c set ((sonsN c i).getD q 0)).first ((rAt c set out i q).nf - ((rAt c set out i q).rl - (mayI c set ((sonsN c i).getD q 0)).last))
theorem rAt_succ (q : Nat) : rAt c set out i (q + 1) = rStep (mayI c set) (rAt c set out i q) ((sonsN c i).getD q 0) := rfl
theorem rAt_len : ∀ j, (rAt c set out i j).out.length = out.length
  | 0 => rfl
  | j + 1 => by rw [rAt_succ]; simp only [rStep, List.length_set]; exact rAt_len j
theorem rAt_other {k : Nat} : ∀ j, j ≤ (sonsN c i).length → ¬ k ∈ sonsN c i → (rAt c set out i j).out.getD k 0 = out.getD k 0
  | 0, _, _ => rfl
  | j + 1, hj, hk => by
    rw [rAt_succ]
    simp only [rStep]
    rw [List.getD_eq_getElem?_getD, List.getElem?_set, if_neg (fun (h : (sonsN c i).getD j 0 = k) => hk (by rw [← h]; exact getD_mem0 (by omega))), ← List.getD_eq_getElem?_getD]
    exact rAt_other j (by omega) hk
theorem rAt_son (hl : ∀ k ∈ sonsN c i, k < out.length) {q : Nat} : ∀ j, j ≤ (sonsN c i).length → q < j → (rAt c set out i j).out.getD ((sonsN c i).getD q 0) 0 = oval c set out i q
  | 0, _, hq => by omega
  | j + 1, hj, hq => by
    rw [rAt_succ]
    simp only [rStep]
    rw [List.getD_eq_getElem?_getD, List.getElem?_set]
    by_cases hqj : q = j
    · subst hqj
      rw [if_pos rfl, if_pos (by rw [rAt_len]; exact hl _ (getD_mem0 (by omega)))]; rfl
    · have := sonsTo_lt (c := c) (i := (i : Int)) (n := c.nodes.length) (q := q) (p := j) (by omega) hj
      change (sonsN c i).getD q 0 < (sonsN c i).getD j 0 at this
      rw [if_neg (by omega), ← List.getD_eq_getElem?_getD]
      exact rAt_son hl j (by omega) (by omega)
theorem rAt_nf : ∀ j, (rAt c set out i j).nf = out.getD i 0 - (c.nodes.getD i default).high - sumTo (oval c set out i) j ∧ (rAt c set out i j).nl = out.getD i 0 - (c.nodes.getD i default).low - sumTo (oval c set out i) j
  | 0 => by
    show out.getD i 0 - (c.nodes.getD i default).high = _ - 0 ∧ out.getD i 0 - (c.nodes.getD i default).low = _ - 0
    omega
  | j + 1 => by
    have h := rAt_nf j
    rw [rAt_succ, sumTo]
    have e : oval c set out i j = max (mayI c set ((sonsN c i).getD j 0)).first ((rAt c set out i j).nf - ((rAt c set out i j).rl - (mayI c set ((sonsN c i).getD j 0)).last)) := rfl
    simp only [rStep]
    rw [← e]
    omega
theorem rAt_rl : ∀ j, (rAt c set out i j).rf = sumFirst c set i (sonsN c i).length - sumFirst c set i j ∧ (rAt c set out i j).rl = sumLast c set i (sonsN c i).length - sumLast c set i j
  | 0 => by
    show sumFirst c set i _ = _ - 0 ∧ sumLast c set i _ = _ - 0
    omega
  | j + 1 => by
    have h := rAt_rl j
    rw [rAt_succ]
    simp only [rStep]
    have e1 : sumFirst c set i (j + 1) = sumFirst c set i j + (mayI c set ((sonsN c i).getD j 0)).first := rfl
    have e2 : sumLast c set i (j + 1) = sumLast c set i j + (mayI c set ((sonsN c i).getD j 0)).last := rfl
    omega
end
theorem rTo_len (c : MCase) (set : List Int) : ∀ i, (rTo c set i).length = c.nodes.length
  | 0 => by rw [rTo, List.length_set]; simp
  | i + 1 => by rw [rTo, rAt_len, rTo_len c set i]
/-- A value that is set stays. -/
theorem rTo_stay {c : MCase} {set : List Int} {k i : Nat} (hk : k < c.nodes.length) (hu : (c.nodes.getD k default).up < (i : Int)) : ∀ j, i ≤ j → j ≤ c.nodes.length → (rTo c set j).getD k 0 = (rTo c set i).getD k 0 := by
  intro j
  induction j with
  | zero => intro h _; rw [show i = 0 by omega]
  | succ j ih =>
    intro h hj
    rcases Nat.lt_or_ge i (j + 1) with h1 | h1
    · rw [rTo, rAt_other _ (Nat.le_refl _) (fun hm => by have := (sonsTo_mem.1 hm).2; omega)]
      exact ih (by omega) (by omega)
    · rw [show i = j + 1 by omega]
theorem up_son {c : MCase} (ok : MOk c) {i : Nat} (hi : i < c.nodes.length) (hp : 0 < i) : ∃ u q, u < i ∧ q < (sonsN c u).length ∧ (sonsN c u).getD q 0 = i := by
  obtain ⟨_, _, _, _, h5⟩ := ok.node i hi
  obtain ⟨a, b⟩ := h5 hp
  obtain ⟨u, hu⟩ := Int.eq_ofNat_of_zero_le a
  obtain ⟨q, hq, e⟩ := mem_getD0 (l := sonsN c u) (sonsTo_mem.2 ⟨hi, hu⟩)
  exact ⟨u, q, by omega, hq, e⟩
theorem sum_tail {f g : Nat → Int} {q : Nat} : ∀ {n}, q ≤ n → (∀ p, q ≤ p → p < n → f p ≤ g p) → sumTo f n - sumTo f q ≤ sumTo g n - sumTo g q
  | 0, h, _ => by rw [show q = 0 by omega]; omega
  | n + 1, h, hf => by
    by_cases hq : q = n + 1
    · subst hq; omega
    · have := sum_tail (n := n) (f := f) (g := g) (q := q) (by omega) fun p h1 h2 => hf p h1 (by omega)
      have := hf n (by omega) (by omega)
      rw [sumTo, sumTo]; omega
theorem rep_son {c : MCase} (ok : MOk c) {set : List Int} {u q : Nat} (hu : u < c.nodes.length) (hq : q < (sonsN c u).length) : (repairL c set).getD ((sonsN c u).getD q 0) 0 = oval c set (rTo c set u) u q := by
  obtain ⟨a, b, e⟩ := ok.son (getD_mem0 hq)
  unfold repairL
  rw [rTo_stay (i := u + 1) a (by omega) _ (by omega) (Nat.le_refl _), rTo, rAt_son (fun k hk => by rw [rTo_len]; exact (ok.son hk).1) _ (Nat.le_refl _) hq]
theorem rep_own {c : MCase} (ok : MOk c) {set : List Int} {u : Nat} (hu : u < c.nodes.length) : (rTo c set u).getD u 0 = (repairL c set).getD u 0 := by
  obtain ⟨_, _, _, h4, h5⟩ := ok.node u hu
  unfold repairL
  refine (rTo_stay (i := u) hu ?_ _ (by omega) (Nat.le_refl _)).symm
  rcases Nat.eq_zero_or_pos u with hz | hp
  · rw [h4 hz]; omega
  · exact (h5 hp).2
theorem rep_zero {c : MCase} (ok : MOk c) {set : List Int} : (repairL c set).getD 0 0 = (mayI c set 0).first := by
  have h1 := ok.n1
  rw [← rep_own ok (u := 0) (by omega), rTo, List.getD_eq_getElem?_getD, List.getElem?_set, if_pos rfl, if_pos (by simp; omega)]; rfl
section
variable {c : MCase} (ok : MOk c) {set : List Int} (hd : ∀ i, i < c.nodes.length → okN c set i = true)
include ok hd
theorem node_feas {i : Nat} (hi : i < c.nodes.length) (hp : 0 < (sonsN c i).length) {out : List Int} (h1 : (mayI c set i).first ≤ out.getD i 0) (h2 : out.getD i 0 ≤ (mayI c set i).last) : ∀ j, j ≤ (sonsN c i).length →
    (rAt c set out i j).nf ≤ (rAt c set out i j).rl ∧ (rAt c set out i j).rf ≤ (rAt c set out i j).nl ∧ (rAt c set out i j).nf ≤ (rAt c set out i j).nl ∧ (rAt c set out i j).rf ≤ (rAt c set out i j).rl
  | 0, _ => by
    rw [may_eq ok set hi, if_pos hp] at h1 h2
    dsimp only at h1 h2
    have a := (rAt_nf (c := c) (set := set) (out := out) (i := i) 0)
    have b := (rAt_rl (c := c) (set := set) (out := out) (i := i) 0)
    have z1 : sumTo (oval c set out i) 0 = 0 := rfl
    have z2 : sumFirst c set i 0 = 0 := rfl
    have z3 : sumLast c set i 0 = 0 := rfl
    obtain ⟨_, _, n1, _⟩ := ok.node i hi
    have m1 : sumFirst c set i (sonsN c i).length ≤ sumLast c set i (sonsN c i).length := sum_mono fun q hq => (son_may ok hd hq).2.1
    omega
  | j + 1, hj => by
    have ih := node_feas hi hp h1 h2 j (by omega)
    have hm := son_may ok hd (i := i) (q := j) (by omega)
    have m2 : sumFirst c set i (sonsN c i).length - sumFirst c set i (j + 1) ≤ sumLast c set i (sonsN c i).length - sumLast c set i (j + 1) := by
      have := sum_part (f := fun q => (mayI c set ((sonsN c i).getD q 0)).last - (mayI c set ((sonsN c i).getD q 0)).first) (n := (sonsN c i).length) (m := j + 1) (by omega) (fun q hq => by have := (son_may ok hd hq).2.1; omega)
      have e : ∀ n, sumTo (fun q => (mayI c set ((sonsN c i).getD q 0)).last - (mayI c set ((sonsN c i).getD q 0)).first) n = sumLast c set i n - sumFirst c set i n := fun n => by
        induction n with
        | zero => rfl
        | succ n ihn =>
          have e1 : sumFirst c set i (n + 1) = sumFirst c set i n + (mayI c set ((sonsN c i).getD n 0)).first := rfl
          have e2 : sumLast c set i (n + 1) = sumLast c set i n + (mayI c set ((sonsN c i).getD n 0)).last := rfl
          rw [sumTo, ihn]; omega
      rw [e, e] at this
      omega
    have b := (rAt_rl (c := c) (set := set) (out := out) (i := i) (j + 1))
    rw [rAt_succ] at b ⊢
    simp only [rStep] at b ⊢
    omega
theorem oval_in {i : Nat} (hi : i < c.nodes.length) {out : List Int} (h1 : (mayI c set i).first ≤ out.getD i 0) (h2 : out.getD i 0 ≤ (mayI c set i).last) {q : Nat} (hq : q < (sonsN c i).length) :
    (mayI c set ((sonsN c i).getD q 0)).first ≤ oval c set out i q ∧ oval c set out i q ≤ (mayI c set ((sonsN c i).getD q 0)).last := by
  have h := node_feas ok hd hi (by omega) h1 h2 q (by omega)
  have hm := son_may ok hd hq
  unfold oval
  omega
theorem rep_in : ∀ i, i < c.nodes.length → (mayI c set i).first ≤ (repairL c set).getD i 0 ∧ (repairL c set).getD i 0 ≤ (mayI c set i).last := by
  intro i
  induction i using Nat.strongRecOn with
  | _ i ih =>
    intro hi
    rcases Nat.eq_zero_or_pos i with hz | hp
    · subst hz
      rw [rep_zero ok]
      exact ⟨Int.le_refl _, (may_rng ok set hi (hd 0 hi)).2.1⟩
    · obtain ⟨u, q, hu, hq, e⟩ := up_son ok hi hp
      have h := ih u hu (by omega)
      rw [← rep_own ok (by omega)] at h
      rw [← e, rep_son ok (by omega) hq]
      exact oval_in ok hd (by omega) h.1 h.2 hq
theorem rep_sol : Sol c set (repairL c set) where
  len := rTo_len ..
  rng := fun i hi => by
    have := rep_in ok hd i hi
    have := may_rng ok set hi (hd i hi)
    omega
  own := fun i hi hn => by
    have h := rep_in ok hd i hi
    have e : ownIv c set i = ⟨c.vals.getD i 0, c.vals.getD i 0⟩ := by rw [ownIv, if_neg (fun hm => hn (mem_any.1 hm))]
    rw [may_eq ok set hi] at h
    split at h
    · rw [e] at h; dsimp only at h; omega
    · rw [e] at h; dsimp only at h; omega
  bal := fun i hi hp => by
    have h := rep_in ok hd i hi
    rw [← rep_own ok hi] at h
    have f := node_feas ok hd hi hp h.1 h.2 _ (Nat.le_refl _)
    have a := (rAt_nf (c := c) (set := set) (out := rTo c set i) (i := i) (sonsN c i).length)
    have b := (rAt_rl (c := c) (set := set) (out := rTo c set i) (i := i) (sonsN c i).length)
    have e : sumV c (repairL c set) i (sonsN c i).length = sumTo (oval c set (rTo c set i) i) (sonsN c i).length := sum_congr fun q hq => rep_son ok hi hq
    rw [e, ← rep_own ok hi]
    omega
end
/-- No solution is before it. -/
theorem rep_least {c : MCase} (ok : MOk c) {set : List Int} {v : List Int} (s : Sol c set v) {k : Nat} (hk : k < c.nodes.length) (he : ∀ j, j < k → v.getD j 0 = (repairL c set).getD j 0) : (repairL c set).getD k 0 ≤ v.getD k 0 := by
  have hv := sol_may ok s _ k hk (Nat.le_refl _)
  rcases Nat.eq_zero_or_pos k with hz | hp
  · subst hz; rw [rep_zero ok]; exact hv.2.1
  · obtain ⟨u, q, hu, hq, e⟩ := up_son ok hk hp
    have hr := rep_son ok (set := set) (by omega) hq
    rw [e] at hr
    rw [hr]
    have hb := s.bal u (by omega) (by omega)
    have a := (rAt_nf (c := c) (set := set) (out := rTo c set u) (i := u) q)
    have b := (rAt_rl (c := c) (set := set) (out := rTo c set u) (i := u) q)
    have e1 : sumTo (oval c set (rTo c set u) u) q = sumV c v u q := sum_congr fun p hp2 => by
      rw [← rep_son ok (by omega) (by omega)]
      refine (he _ ?_).symm
      have := sonsTo_lt (c := c) (i := (u : Int)) (n := c.nodes.length) (q := p) (p := q) hp2 hq
      change (sonsN c u).getD p 0 < (sonsN c u).getD q 0 at this
      omega
    have e2 : (rTo c set u).getD u 0 = v.getD u 0 := by rw [rep_own ok (by omega), he u hu]
    have e3 : sumV c v u (q + 1) = sumV c v u q + v.getD k 0 := by rw [← e]; rfl
    have e4 : sumLast c set u (q + 1) = sumLast c set u q + (mayI c set k).last := by rw [← e]; rfl
    have t := sum_tail (f := fun p => v.getD ((sonsN c u).getD p 0) 0) (g := fun p => (mayI c set ((sonsN c u).getD p 0)).last) (q := q + 1) (n := (sonsN c u).length) (by omega) fun p _ hp3 => by
      obtain ⟨x, _, _⟩ := ok.son (getD_mem0 hp3)
      exact (sol_may ok s _ _ x (Nat.le_refl _)).2.2
    change sumV c v u (sonsN c u).length - sumV c v u (q + 1) ≤ sumLast c set u (sonsN c u).length - sumLast c set u (q + 1) at t
    unfold oval
    rw [e]
    omega
end Go.X

/- Cases that the statements make of numbers: their balances hold. Broken balances. No condition. -/
set_option linter.unusedVariables false
namespace Go.X
theorem sum_set {l : List Int} {u : Nat} {y : Int} : ∀ {n}, n ≤ l.length → sumTo (fun k => (l.set u y).getD k 0) n = sumTo (fun k => l.getD k 0) n + (if u < n then y - l.getD u 0 else 0)
  | 0, _ => by simp [sumTo]
  | n + 1, h => by
    rw [sumTo, sumTo, sum_set (by omega)]
    by_cases hu : u = n
    · subst hu
      rw [set_getD0 (by omega), if_pos rfl, if_neg (by omega), if_pos (by omega)]; omega
    · have e : (l.set u y).getD n 0 = l.getD n 0 := by
        rw [List.getD_eq_getElem?_getD, List.getElem?_set, if_neg hu, List.getD_eq_getElem?_getD]
      rw [e]
      by_cases h2 : u < n
      · rw [if_pos h2, if_pos (by omega)]; omega
      · rw [if_neg h2, if_neg (by omega)]; omega
theorem sum_from {p : Nat → Prop} [DecidablePred p] {g : Nat → Int} {m : Nat} : ∀ {n}, m < n → sumTo (fun k => if m ≤ k ∧ p k then g k else 0) n = sumTo (fun k => if m + 1 ≤ k ∧ p k then g k else 0) n + (if p m then g m else 0)
  | 0, h => by omega
  | n + 1, h => by
    rw [sumTo, sumTo]
    by_cases hm : m = n
    · subst hm
      have e : sumTo (fun k => if m ≤ k ∧ p k then g k else 0) m = sumTo (fun k => if m + 1 ≤ k ∧ p k then g k else 0) m := sum_congr fun k hk => by rw [if_neg (by omega), if_neg (by omega)]
      rw [e, if_neg (show ¬ (m + 1 ≤ m ∧ p m) by omega)]
      by_cases hp : p m
      · rw [if_pos (show m ≤ m ∧ p m from ⟨Nat.le_refl _, hp⟩), if_pos hp, Int.add_zero]
      · rw [if_neg (show ¬ (m ≤ m ∧ p m) from fun h => hp h.2), if_neg hp, Int.add_zero, Int.add_zero]
    · rw [sum_from (by omega)]
      by_cases hp : p n
      · rw [if_pos (show m ≤ n ∧ p n from ⟨by omega, hp⟩), if_pos (show m + 1 ≤ n ∧ p n from ⟨by omega, hp⟩)]; omega
      · rw [if_neg (show ¬ (m ≤ n ∧ p n) from fun h => hp h.2), if_neg (show ¬ (m + 1 ≤ n ∧ p n) from fun h => hp h.2)]; omega
def upN (N : List MNode) (k : Nat) : Int := (N.getD k default).up
def hang (N : List MNode) (V : List Int) (j : Nat) (n : Nat) : Int := sumTo (fun k => if upN N k = (j : Int) then V.getD k 0 else 0) n
theorem sumV_hang {c : MCase} {v : List Int} {i : Nat} : ∀ n, sumTo (fun q => v.getD ((sonsTo c i n).getD q 0) 0) (sonsTo c i n).length = hang c.nodes v i n
  | 0 => rfl
  | n + 1 => by
    rw [hang, sumTo, ← hang, ← sumV_hang n, sonsTo]
    by_cases h : (c.nodes.getD n default).up = (i : Int)
    · rw [if_pos h, if_pos (show upN c.nodes n = (i : Int) from h), List.length_append, show ([n] : List Nat).length = 1 from rfl, sumTo]
      congr 1
      · refine sum_congr fun q hq => ?_
        have e : (sonsTo c i n ++ [n]).getD q 0 = (sonsTo c i n).getD q 0 := by
          rw [List.getD_eq_getElem?_getD, List.getElem?_append_left hq, ← List.getD_eq_getElem?_getD]
        rw [e]
      · have e : (sonsTo c i n ++ [n]).getD (sonsTo c i n).length 0 = n := by
          rw [List.getD_eq_getElem?_getD, List.getElem?_append_right (Nat.le_refl _), Nat.sub_self]; rfl
        rw [e]
    · rw [if_neg h, if_neg (show ¬ upN c.nodes n = (i : Int) from h), Int.add_zero]
/-- The nodes made so far. -/
structure MkN (n i : Nat) (N : List MNode) (B : List Bool) : Prop where
  nl : N.length = n
  bl : B.length = n
  node : ∀ j, j < i → (0 ≤ (N.getD j default).low ∧ (N.getD j default).low ≤ (N.getD j default).high ∧ (N.getD j default).high ≤ (N.getD j default).low + 5 ∧ (N.getD j default).high ≤ 8) ∧ (j = 0 → upN N j = -1) ∧ (0 < j → 0 ≤ upN N j ∧ upN N j < j)
  sons : ∀ j, j < n → (B.getD j false = true ↔ ∃ k, k < i ∧ upN N k = (j : Int))
theorem nset {N : List MNode} {i k : Nat} {x : MNode} (hi : i < N.length) : (N.set i x).getD k default = if i = k then x else N.getD k default := by
  rw [List.getD_eq_getElem?_getD, List.getElem?_set]
  by_cases h : i = k
  · subst h; rw [if_pos rfl, if_pos hi, if_pos rfl]; rfl
  · rw [if_neg h, if_neg h, List.getD_eq_getElem?_getD]
theorem bset {B : List Bool} {i k : Nat} {x : Bool} (hi : i < B.length) : (B.set i x).getD k false = if i = k then x else B.getD k false := by
  rw [List.getD_eq_getElem?_getD, List.getElem?_set]
  by_cases h : i = k
  · subst h; rw [if_pos rfl, if_pos hi, if_pos rfl]; rfl
  · rw [if_neg h, if_neg h, List.getD_eq_getElem?_getD]
theorem MkN.start (n : Nat) : MkN n 0 (List.replicate n ⟨0, 0, 0⟩) (List.replicate n false) := by
  refine ⟨by simp, by simp, fun j hj => by omega, fun j hj => ?_⟩
  have e : (List.replicate n false).getD j false = false := by
    rw [List.getD_eq_getElem?_getD, List.getElem?_replicate]; split <;> rfl
  rw [e]
  constructor
  · intro h; cases h
  · rintro ⟨k, hk, _⟩; omega
theorem MkN.root {n : Nat} {N : List MNode} {B : List Bool} (m : MkN n 0 N B) (hn : 0 < n) {lo hi : Int} (h1 : 0 ≤ lo) (h2 : lo ≤ hi) (h3 : hi ≤ lo + 5) (h4 : hi ≤ 8) : MkN n 1 (N.set 0 ⟨-1, lo, hi⟩) B := by
  refine ⟨by rw [List.length_set]; exact m.nl, m.bl, fun j hj => ?_, fun j hj => ?_⟩
  · rw [show j = 0 by omega]
    unfold upN
    rw [nset (by rw [m.nl]; exact hn), if_pos rfl]
    exact ⟨⟨h1, h2, h3, h4⟩, fun _ => rfl, fun h => by omega⟩
  · rw [m.sons j hj]
    constructor
    · rintro ⟨k, hk, _⟩; omega
    · rintro ⟨k, hk, e⟩
      rw [show k = 0 by omega] at e
      unfold upN at e
      rw [nset (by rw [m.nl]; exact hn), if_pos rfl] at e
      dsimp only at e; omega
theorem MkN.more {n i : Nat} {N : List MNode} {B : List Bool} (m : MkN n i N B) (hi0 : 0 < i) (hn : i < n) {u : Nat} (hu : u < i) {lo hi : Int} (h1 : 0 ≤ lo) (h2 : lo ≤ hi) (h3 : hi ≤ lo + 5) (h4 : hi ≤ 8) : MkN n (i + 1) (N.set i ⟨(u : Int), lo, hi⟩) (B.set u true) := by
  have hup : ∀ k, upN (N.set i ⟨(u : Int), lo, hi⟩) k = if i = k then (u : Int) else upN N k := fun k => by
    unfold upN
    rw [nset (by rw [m.nl]; exact hn)]
    split <;> rfl
  refine ⟨by rw [List.length_set]; exact m.nl, by rw [List.length_set]; exact m.bl, fun j hj => ?_, fun j hj => ?_⟩
  · rw [hup, nset (by rw [m.nl]; exact hn)]
    by_cases hij : i = j
    · subst hij
      rw [if_pos rfl, if_pos rfl]
      exact ⟨⟨h1, h2, h3, h4⟩, fun h => by omega, fun _ => by omega⟩
    · rw [if_neg hij, if_neg hij]; exact m.node j (by omega)
  · rw [bset (by rw [m.bl]; omega)]
    by_cases huj : u = j
    · rw [if_pos huj]
      exact ⟨fun _ => ⟨i, by omega, by rw [hup, if_pos rfl, huj]⟩, fun _ => rfl⟩
    · rw [if_neg huj, m.sons j hj]
      constructor
      · rintro ⟨k, hk, e⟩
        exact ⟨k, by omega, by rw [hup, if_neg (by omega)]; exact e⟩
      · rintro ⟨k, hk, e⟩
        rw [hup] at e
        by_cases hik : i = k
        · rw [if_pos hik] at e; omega
        · rw [if_neg hik] at e; exact ⟨k, by omega, e⟩
/-- The values made so far: those from m on. -/
structure MkV (n m : Nat) (N : List MNode) (B : List Bool) (V : List Int) : Prop where
  vl : V.length = n
  nn : ∀ j, j < n → 0 ≤ V.getD j 0
  low : sumTo (fun k => V.getD k 0) m ≤ 108 * (n - m)
  big : ∀ j, m ≤ j → j < n → V.getD j 0 ≤ 972
  pend : ∀ j, j < m → V.getD j 0 = sumTo (fun k => if m ≤ k ∧ upN N k = (j : Int) then V.getD k 0 else 0) n
  bal : ∀ j, m ≤ j → j < n → B.getD j false = true → (N.getD j default).low ≤ V.getD j 0 - hang N V j n ∧ V.getD j 0 - hang N V j n ≤ (N.getD j default).high
theorem MkV.start {n : Nat} {N : List MNode} {B : List Bool} {V : List Int} (hl : V.length = n) (hz : ∀ j, V.getD j 0 = 0) : MkV n n N B V := by
  refine ⟨hl, fun j _ => by rw [hz]; omega, ?_, fun j h1 h2 => by omega, fun j hj => ?_, fun j h1 h2 => by omega⟩
  · rw [sum_zero fun k _ => hz k]; omega
  · rw [hz, sum_zero fun k hk => by rw [if_neg (by omega)]]
theorem sum_getD {V : List Int} {m i : Nat} (hn : ∀ j, j < m → 0 ≤ V.getD j 0) (hi : i < m) : V.getD i 0 ≤ sumTo (fun k => V.getD k 0) m := sum_one (f := fun k => V.getD k 0) hi hn
/-- The sons of node i are behind it. -/
theorem pend_hang {n i : Nat} {N : List MNode} {B : List Bool} {V : List Int} (mn : MkN n n N B) (hi : i < n) : sumTo (fun k => if i + 1 ≤ k ∧ upN N k = (i : Int) then V.getD k 0 else 0) n = hang N V i n := by
  unfold hang
  refine sum_congr fun k hk => ?_
  by_cases h : upN N k = (i : Int)
  · obtain ⟨_, h0, h1⟩ := mn.node k hk
    have : i + 1 ≤ k := by
      rcases Nat.eq_zero_or_pos k with hz | hp
      · have := h0 hz; omega
      · have := (h1 hp).2; omega
    rw [if_pos ⟨this, h⟩, if_pos h]
  · rw [if_neg (fun x => h x.2), if_neg h]
theorem hang_congr {n i : Nat} {N : List MNode} {B : List Bool} {V W : List Int} (mn : MkN n n N B) (h : ∀ k, i < k → k < n → W.getD k 0 = V.getD k 0) : hang N W i n = hang N V i n := by
  unfold hang
  refine sum_congr fun k hk => ?_
  by_cases hu : upN N k = (i : Int)
  · obtain ⟨_, h0, h1⟩ := mn.node k hk
    have : i < k := by
      rcases Nat.eq_zero_or_pos k with hz | hp
      · have := h0 hz; omega
      · have := (h1 hp).2; omega
    rw [if_pos hu, if_pos hu, h k this hk]
  · rw [if_neg hu, if_neg hu]
theorem MkV.room {n i : Nat} {N : List MNode} {B : List Bool} {V : List Int} (mn : MkN n n N B) (hn : n ≤ 9) (v : MkV n (i + 1) N B V) (hi : i < n) : 0 ≤ V.getD i 0 ∧ V.getD i 0 ≤ 864 ∧ V.getD i 0 = hang N V i n := by
  have h1 := v.nn i hi
  have h2 := sum_getD (V := V) (m := i + 1) (fun j hj => v.nn j (by omega)) (by omega : i < i + 1)
  have h3 := v.low
  exact ⟨h1, by omega, (v.pend i (by omega)).trans (pend_hang mn hi)⟩
/-- One more value: x at node i; its parent u gets it, too. -/
theorem MkV.step {n i : Nat} {N : List MNode} {B : List Bool} {V : List Int} (mn : MkN n n N B) (hn : n ≤ 9) (v : MkV n (i + 1) N B V) (hi : i < n) {x : Int} (h0 : 0 ≤ x) (hx : x ≤ V.getD i 0 + 108)
    (hb : B.getD i false = true → (N.getD i default).low ≤ x - V.getD i 0 ∧ x - V.getD i 0 ≤ (N.getD i default).high) (hz : ¬ 0 < i) : MkV n i N B (V.set i x) := by
  have e0 : i = 0 := by omega
  subst e0
  have hg : ∀ k, (V.set 0 x).getD k 0 = if 0 = k then x else V.getD k 0 := fun k => set_getD0 (by rw [v.vl]; exact hi)
  obtain ⟨r1, r2, r3⟩ := v.room mn hn hi
  refine ⟨by rw [List.length_set]; exact v.vl, fun j hj => ?_, by rw [sumTo]; omega, fun j _ hj => ?_, fun j hj => by omega, fun j _ hj hB => ?_⟩
  · rw [hg]; split
    · exact h0
    · exact v.nn j hj
  · rw [hg]; split
    · omega
    · exact v.big j (by omega) hj
  · rw [hang_congr (V := V) mn fun k hk _ => by rw [hg, if_neg (by omega)], hg]
    by_cases hj0 : 0 = j
    · subst hj0; rw [if_pos rfl, ← r3]; exact hb hB
    · rw [if_neg hj0]; exact v.bal j (by omega) hj hB
theorem MkV.step2 {n i : Nat} {N : List MNode} {B : List Bool} {V : List Int} (mn : MkN n n N B) (hn : n ≤ 9) (v : MkV n (i + 1) N B V) (hi : i < n) {x : Int} (h0 : 0 ≤ x) (hx : x ≤ V.getD i 0 + 108)
    (hb : B.getD i false = true → (N.getD i default).low ≤ x - V.getD i 0 ∧ x - V.getD i 0 ≤ (N.getD i default).high) (hz : 0 < i) {u : Nat} (hu : u < i) (hup : upN N i = (u : Int)) : MkV n i N B ((V.set i x).set u (V.getD u 0 + x)) := by
  have l1 : (V.set i x).length = n := by rw [List.length_set]; exact v.vl
  have hg : ∀ k, ((V.set i x).set u (V.getD u 0 + x)).getD k 0 = if u = k then V.getD u 0 + x else if i = k then x else V.getD k 0 := fun k => by
    rw [set_getD0 (by omega), set_getD0 (by rw [v.vl]; exact hi)]
  obtain ⟨r1, r2, r3⟩ := v.room mn hn hi
  have hun := v.nn u (by omega)
  refine ⟨by rw [List.length_set]; exact l1, fun j hj => ?_, ?_, fun j hj1 hj => ?_, fun j hj => ?_, fun j hj1 hj hB => ?_⟩
  · rw [hg]; split
    · omega
    · split
      · exact h0
      · exact v.nn j hj
  · have hl := v.low
    rw [sumTo] at hl
    have vv := v.vl
    rw [sum_set (by omega), sum_set (by omega), if_pos hu, if_neg (by omega), set_getD0 (by omega), if_neg (by omega)]
    omega
  · rw [hg, if_neg (by omega)]; split
    · omega
    · exact v.big j (by omega) hj
  · rw [sum_from (m := i) hi, hup]
    have e1 : sumTo (fun k => if i + 1 ≤ k ∧ upN N k = (j : Int) then ((V.set i x).set u (V.getD u 0 + x)).getD k 0 else 0) n = sumTo (fun k => if i + 1 ≤ k ∧ upN N k = (j : Int) then V.getD k 0 else 0) n := sum_congr fun k _ => by
      by_cases hc : i + 1 ≤ k ∧ upN N k = (j : Int)
      · rw [if_pos hc, if_pos hc, hg, if_neg (by omega), if_neg (by omega)]
      · rw [if_neg hc, if_neg hc]
    rw [e1, ← v.pend j (by omega), hg, hg, if_neg (show ¬ u = i by omega), if_pos rfl, if_neg (show ¬ i = j by omega)]
    by_cases hj2 : u = j
    · subst hj2; rw [if_pos rfl, if_pos rfl]
    · rw [if_neg hj2, if_neg (by omega), Int.add_zero]
  · rw [hang_congr (V := V) mn fun k hk _ => by rw [hg, if_neg (by omega), if_neg (by omega)], hg, if_neg (by omega)]
    by_cases hij : i = j
    · subst hij; rw [if_pos rfl, ← r3]; exact hb hB
    · rw [if_neg hij]; exact v.bal j (by omega) hj hB
theorem made_done {n : Nat} {N : List MNode} {B : List Bool} {V : List Int} (mn : MkN n n N B) (h1 : 1 ≤ n) (hn : n ≤ 9) (v : MkV n 0 N B V) : MOk ⟨N, V⟩ ∧ Sol ⟨N, V⟩ [] V := by
  have hl := mn.nl
  refine ⟨⟨by dsimp only; omega, by dsimp only; omega, by dsimp only; rw [v.vl, hl], fun i hi => ?_⟩, ⟨by dsimp only; rw [v.vl, hl], fun i hi => ?_, fun i hi _ => rfl, fun i hi hp => ?_⟩⟩
  · dsimp only at hi ⊢
    rw [hl] at hi
    obtain ⟨⟨a1, a2, a3, a4⟩, a5, a6⟩ := mn.node i hi
    have b1 := v.nn i hi
    have b2 := v.big i (by omega) hi
    exact ⟨by omega, by omega, by omega, a5, a6⟩
  · dsimp only at hi
    rw [hl] at hi
    have b1 := v.nn i hi
    have b2 := v.big i (by omega) hi
    omega
  · dsimp only at hi
    rw [hl] at hi
    have hB : B.getD i false = true := (mn.sons i hi).2 (by
      have hm := getD_mem0 hp
      obtain ⟨k1, k2⟩ := sonsTo_mem.1 hm
      exact ⟨_, by rw [← hl]; exact k1, k2⟩)
    have := v.bal i (by omega) hi hB
    have e : sumV ⟨N, V⟩ V i (sonsN ⟨N, V⟩ i).length = hang N V i n := by
      have := sumV_hang (c := ⟨N, V⟩) (v := V) (i := i) N.length
      rw [hl] at this
      unfold sumV sonsN
      dsimp only
      rw [hl]; exact this
    rw [e]; exact this
end Go.X
