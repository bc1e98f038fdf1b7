/- A part of the proof: a small program logic, plain laws and contracts of functions, each proved by a walk through its operations. No condition but those that stand in each theorem. -/
import Derived.Test.YtocdijoiaongbaaGreatA5
set_option linter.unusedSimpArgs false
set_option linter.unusedVariables false
set_option maxRecDepth 20000
namespace Go.X
open Go.Proofs
set_option maxHeartbeats 4000000 in
theorem rproof_spec (l : List (Value × PJob)) (vl : Value) (hl K : PHeap) [jl : Arr vl encPJ 6 hl l] (aL : JobsK l K) (rs : List PRack) (vr : Value) (hr : PHeap) [jr : Arr vr encRack 5 hr rs] (m : PRat) (ok : TaskOk (⟨(l.map Prod.snd), rs, m⟩ : PTask)) (lok : ListOk (l.map Prod.snd)) (bst : Int) :
  ∀ (m_ : Nat) (w : List Int) (vw : Value) (hw : PHeap), Arr vw encI 1 hw w → w.length ≤ l.length → l.length - w.length ≤ m_ → WOk (⟨(l.map Prod.snd), rs, m⟩ : PTask) w → allowedB (⟨(l.map Prod.snd), rs, m⟩ : PTask) w = true → belowG (⟨(l.map Prod.snd), rs, m⟩ : PTask) bst w → 2 * 6 ^ m_ ≤ 10000000 →
  Spec Tryz.prog 80 #[.agg #[vl, vr, .int .i64 m.n, .int .i64 m.d], vw, .int .i64 bst] [] [hl, K, hr, hw] (fun v hs => ∃ k, hs = [k] ∧ OArr v encB 1 4 k (proveG (⟨(l.map Prod.snd), rs, m⟩ : PTask) bst w [])) := by
 intro m_
 have ll := jl.le
 have lm : (l.map Prod.snd).length = l.length := List.length_map ..
 have few := ok.few
 have few2 : l.length ≤ 8 := by rw [← lm]; exact few
 induction m_ with
 | zero =>
  intro w vw hw jw hwl hm wok al bel room
  haveI := jw
  have le := prove_case (t := (⟨(l.map Prod.snd), rs, m⟩ : PTask)) (w := w) (by dsimp only; omega) bel []
  have hcut := cut_leaf bel (show w.length = (l.map Prod.snd).length by omega)
  refine Spec.intro (fn := Tryz.f80) (N := 42) Tryz.func80 rfl Tryz.ntmps80 rfl fun B => ?_
  refine XK.seq (XK.region rfl ?_)
  refine XO.box rfl fun b3 => ?_
  refine XO.q (Q.assign rfl) (XO.done (XK.seq (XK.region rfl ?_)))
  refine XO.q (Q.ldA [_, _, _, _] rfl rfl rfl) ?_
  refine XO.q (Q.move rfl) ?_
  refine XO.call Tryz.call79 rfl rfl rfl (rWorth_spec l vl hl K aL rs vr hr m w vw hw ok hwl) fun v15 s15 R15 => ?_
  obtain ⟨rfl, rfl⟩ := R15
  dsimp only [lcA, lnA]
  refine XO.q (Q.move rfl) ?_
  refine XO.q (Q.extract rfl rfl) ?_
  refine XO.q (Q.extract rfl rfl) ?_
  refine XO.q (Q.assign rfl) (XO.q (Q.assign rfl) (XO.done (XK.seq (XK.seq (XK.region rfl ?_)))))
  refine XO.q (Q.move rfl) (XO.q (Q.move rfl) ?_)
  refine XO.q (Q.leq rfl rfl) ?_
  refine XO.done ?_
  refine XK.if rfl (fun c0 => ?_) (fun c0 => ?_)
  ·skip
   refine XK.seq (XK.region rfl ?_)
   refine XO.lit [_] [_] [true] encB (by rfl) (by rfl) rfl (by rfl) (by exact .c 0 1 rfl rfl rfl (.n _)) (fun _ => rfl) (by rfl) rfl (by infer_instance) rfl fun v21 h21 O21 => ?_
   refine XO.q (Q.assign rfl) (XO.done ?_)
   refine XK.rt [h21] Tryz.func80 Tryz.results80 (.t rfl .n) ?_
   rw [if_pos c0] at le
   rw [le]
   exact ⟨h21, rfl, O21⟩
  ·skip
   exact absurd hcut c0
 | succ m_ ih =>
  intro w vw hw jw hwl hm wok al bel room
  haveI := jw
  have h6 : 1 ≤ 6 ^ (m_ + 1) := Nat.one_le_pow _ _ (by decide)
  have h7 : 1 ≤ 6 ^ m_ := Nat.one_le_pow _ _ (by decide)
  have h8 : 6 ^ (m_ + 1) = 6 ^ m_ * 6 := Nat.pow_succ ..
  have le := prove_case (t := (⟨(l.map Prod.snd), rs, m⟩ : PTask)) (w := w) (by dsimp only; omega) bel []
  refine Spec.intro (fn := Tryz.f80) (N := 42) Tryz.func80 rfl Tryz.ntmps80 rfl fun B => ?_
  refine XK.seq (XK.region rfl ?_)
  refine XO.box rfl fun b3 => ?_
  refine XO.q (Q.assign rfl) (XO.done (XK.seq (XK.region rfl ?_)))
  refine XO.q (Q.ldA [_, _, _, _] rfl rfl rfl) ?_
  refine XO.q (Q.move rfl) ?_
  refine XO.call Tryz.call79 rfl rfl rfl (rWorth_spec l vl hl K aL rs vr hr m w vw hw ok hwl) fun v15 s15 R15 => ?_
  obtain ⟨rfl, rfl⟩ := R15
  dsimp only [lcA, lnA]
  refine XO.q (Q.move rfl) ?_
  refine XO.q (Q.extract rfl rfl) ?_
  refine XO.q (Q.extract rfl rfl) ?_
  refine XO.q (Q.assign rfl) (XO.q (Q.assign rfl) (XO.done (XK.seq (XK.seq (XK.region rfl ?_)))))
  refine XO.q (Q.move rfl) (XO.q (Q.move rfl) ?_)
  refine XO.q (Q.leq rfl rfl) ?_
  refine XO.done ?_
  refine XK.if rfl (fun c0 => ?_) (fun c0 => ?_)
  ·skip
   refine XK.seq (XK.region rfl ?_)
   refine XO.lit [_] [_] [true] encB (by rfl) (by rfl) rfl (by rfl) (by exact .c 0 1 rfl rfl rfl (.n _)) (fun _ => rfl) (by rfl) rfl (by infer_instance) rfl fun v21 h21 O21 => ?_
   refine XO.q (Q.assign rfl) (XO.done ?_)
   refine XK.rt [h21] Tryz.func80 Tryz.results80 (.t rfl .n) ?_
   rw [if_pos c0] at le
   rw [le]
   exact ⟨h21, rfl, O21⟩
  ·skip
   have hlt : w.length < l.length := by
    rcases Nat.lt_or_ge w.length l.length with h | h
    ·exact h
    ·exact absurd (cut_leaf bel (show w.length = (l.map Prod.snd).length by omega)) c0
   refine XK.skip (XK.seq (XK.region rfl ?_))
   refine XO.lit [_] [_] [false] encB (by rfl) (by rfl) rfl (by rfl) (by exact .c 0 1 rfl rfl rfl (.n _)) (fun _ => rfl) (by rfl) rfl (by infer_instance) rfl fun v22 h22 O22 => ?_
   refine XO.q (Q.assign rfl) (XO.done (XK.seq (XK.region rfl ?_)))
   refine XO.q (Q.ldA [_, _, _, _] rfl rfl rfl) ?_
   refine XO.q (Q.move rfl) ?_
   refine XO.call Tryz.call107 rfl rfl rfl (rsons_spec l vl hl K aL rs vr hr m w vw hw ok lok hlt wok al) fun v25 s25 R25 => ?_
   obtain ⟨ho, us, Ks, rfl, OU, or_⟩ := R25
   dsimp only [lcA, lnA]
   have rr := or_.rows
   have ul := or_.lu
   refine XO.q (Q.assign rfl) (XO.done (XK.seq (XK.seq (XK.region rfl (XO.q (Q.assign rfl) ?_)))))
   refine XO.done (XK.block ?_)
   refine XK.while (X := Nat × Value × PHeap × List Bool) [9, 11, 26, 27, 28, 29, 30, 31, 32, 33, 34, 35, 36, 37, 38, 39, 40] (fun ⟨i, vo, ko, p⟩ => [(11, some (.int .i64 (i : Nat))), (9, some (vo))]) (fun ⟨i, vo, ko, p⟩ => [ko]) (fun ⟨i, vo, ko, p⟩ => i ≤ us.length ∧ p = (foldTo (fun p son => proveG (⟨(l.map Prod.snd), rs, m⟩ : PTask) bst son p) (psons (⟨(l.map Prod.snd), rs, m⟩ : PTask) w) [false] i) ∧ OArr vo encB 1 4 ko p) (fun ⟨i, vo, ko, p⟩ => us.length - i) (0, v22, h22, [false]) [h22] rfl ⟨by omega, rfl, O22⟩ (.c rfl (.c rfl (.base 0 rfl rfl))) ?_
   rintro ⟨i, vo, ko, p⟩ ⟨hi, e1, OP⟩ ih0
   dsimp only [lcA, lnA] at ih0 ⊢
   refine XK.seq (XK.seq (XK.region rfl (XO.q (Q.move rfl) (XO.q (Q.move rfl) ?_))))
   refine XO.len rfl fun l28 => ?_
   refine XO.q (Q.lss rfl rfl) ?_
   refine XO.done ?_
   refine XK.if rfl (fun c1 => ?_) (fun c1 => ?_)
   ·skip
    obtain ⟨y, ey, y1, y2⟩ := psons_get (t := (⟨(l.map Prod.snd), rs, m⟩ : PTask)) (w := w) (i := i) (by omega)
    have el : (((psons (⟨(l.map Prod.snd), rs, m⟩ : PTask) w).getD i default)).length = w.length + 1 := by
     have := congrArg List.length ey
     rw [List.length_append] at this; exact this
    refine XK.skip (XK.seq (XK.block ?_))
    refine XK.drawn [0, 1, 2, 3, 4, 5, 6, 9] [b3] [ho, join Ks] (.q 0 (.q 1 (.q 2 (.q 3 (.q 4 (.q 5 (.q 6 (.br 7 true (.br 8 true (.q 9 .done) .stop) .stop)))))))) Tryz.mixed rfl (by kernel_rfl) ?_
    refine XT.q rfl rfl (Q.move rfl) ?_
    refine XT.q rfl rfl (Q.ldA [_, _, _, _] rfl rfl rfl) ?_
    refine XT.q rfl rfl (Q.move rfl) ?_
    refine XT.q rfl rfl (Q.move rfl) ?_
    refine XT.ix rfl rfl rfl rfl (by omega) (by omega) fun i36 => ?_
    refine XT.q rfl rfl (Q.ldE rfl (by first | assumption | omega) rfl) ?_
    refine XT.q rfl rfl (Q.move rfl) ?_
    refine XT.call rfl rfl Tryz.call80 rfl rfl rfl (ih ((psons (⟨(l.map Prod.snd), rs, m⟩ : PTask) w).getD i default) (us.getD i default) (join Ks) (rr.2 i (by omega)) (by rw [el]; omega) (by rw [el]; omega) (by rw [ey]; exact wok.snoc (by dsimp only; omega) y1 y2) (sons_allowed al (getD_mem (by omega))) (below_son (by dsimp only; omega) bel (by omega)) (by omega)) (fun v39 s39 R39 => ?_) XT.stop
    obtain ⟨k39, rfl, O39⟩ := R39
    dsimp only [lcA, lnA]
    refine ⟨inferInstance, ?_⟩
    refine XT.append rfl rfl rfl rfl rfl rfl (by have q1 := prove_room ok (m := m_) (w := w) (by dsimp only; omega) (by dsimp only; omega) bel [] (i := i) (by omega); have q2 := prove_len ok (b := bst) m_ ((psons (⟨(l.map Prod.snd), rs, m⟩ : PTask) w).getD i default) [] (by dsimp only; rw [el]; omega) (by dsimp only; rw [el]; omega) (below_son (by dsimp only; omega) bel (by omega)); rw [List.nil_append] at q1; rw [e1]; simp only [List.length_nil] at q1 q2; omega) (fun v40 h40 O40 => ⟨inferInstance, ?_⟩) XT.stop
    refine XT.q rfl rfl (Q.assign rfl) ?_
    refine XT.done ?_
    refine XK.inBlock ?_
    refine XK.region rfl (XO.q (Q.move rfl) ?_)
    refine XO.q (Q.add rfl rfl ⟨by omega, by omega⟩) ?_
    refine XO.q (Q.assign rfl) (XO.done ?_)
    exact ih0 (i + 1, v40, h40, _) _ _ ⟨by dsimp only; omega, by dsimp only; rw [foldTo, ← e1]; exact (prove_app _ p).symm, O40⟩ (by first | omega | (dsimp only; omega)) (.c rfl (.c rfl (.base 36 rfl rfl))) inferInstance
   ·skip
    have hin : i = (psons (⟨(l.map Prod.snd), rs, m⟩ : PTask) w).length := by omega
    refine XK.exit rfl ?_
    refine XK.seq (XK.region rfl (XO.q (Q.move rfl) (XO.q (Q.assign rfl) (XO.done ?_))))
    refine XK.rt [ko] Tryz.func80 Tryz.results80 (.t rfl .n) ?_
    rw [if_neg c0, List.nil_append, ← hin, ← e1] at le
    rw [le]
    exact ⟨ko, rfl, OP⟩
end Go.X

set_option linter.unusedSimpArgs false
set_option linter.unusedVariables false
set_option maxRecDepth 20000
namespace Go.X
open Go.Proofs
def resR (s : Bool × Nat) : Int := if s.1 = true then (s.2 : Int) else -1
theorem resR_at {s : Bool × Nat} (h : 0 ≤ resR s) : s.1 = true ∧ resR s = s.2 := by
 unfold resR at *
 split at h
 ·rename_i h1
  rw [if_pos h1]; exact ⟨h1, rfl⟩
 ·omega
theorem resR_no {s : Bool × Nat} (h : ¬ 0 ≤ resR s) : s.1 = false ∧ resR s = -1 := by
 unfold resR at *
 split at h
 ·omega
 ·rename_i h1
  rw [if_neg h1]; exact ⟨Bool.eq_false_iff.2 h1, rfl⟩
set_option maxHeartbeats 4000000 in
theorem rproves_spec (l : List (Value × PJob)) (vl : Value) (hl K : PHeap) [jl : Arr vl encPJ 6 hl l] (aL : JobsK l K) (rs : List PRack) (vr : Value) (hr : PHeap) [jr : Arr vr encRack 5 hr rs] (m : PRat) (ok : TaskOk (⟨(l.map Prod.snd), rs, m⟩ : PTask)) (lok : ListOk (l.map Prod.snd)) (vQ : Value) [oQ : One vQ] (W : Int) (Pf : List Bool) (vP : Value) (hP : PHeap) [jP : Arr vP encB 1 hP Pf] :
  ∀ (m_ : Nat) (w : List Int) (vw : Value) (hw : PHeap) (a : Nat), Arr vw encI 1 hw w → w.length ≤ l.length → l.length - w.length ≤ m_ → WOk (⟨(l.map Prod.snd), rs, m⟩ : PTask) w → allowedB (⟨(l.map Prod.snd), rs, m⟩ : PTask) w = true → a ≤ Pf.length →
  Spec Tryz.prog 82 #[.agg #[vl, vr, .int .i64 m.n, .int .i64 m.d], vw, .agg #[vQ, .int .i64 W, vP], .int .i64 (a : Nat)] [] [hl, K, hr, hw, hP] (fun v hs => v = .int .i64 (resR (holdsG (⟨(l.map Prod.snd), rs, m⟩ : PTask) Pf W w a)) ∧ hs = []) := by
 intro m_
 have ll := jl.le
 have lp := jP.le
 have lm : (l.map Prod.snd).length = l.length := List.length_map ..
 have few := ok.few
 have few2 : l.length ≤ 8 := by rw [← lm]; exact few
 have rk5 := ok.rk5
 dsimp only at rk5
 induction m_ with
 | zero =>
  intro w vw hw a jw hwl hm wok al ha
  haveI := jw
  have le := holds_eq (t := (⟨(l.map Prod.snd), rs, m⟩ : PTask)) (P := Pf) (W := W) (w := w) (by dsimp only; omega) a
  refine Spec.intro (fn := Tryz.f82) (N := 71) Tryz.func82 rfl Tryz.ntmps82 rfl fun B => ?_
  refine XK.seq (XK.region rfl ?_)
  refine XO.box rfl fun b4 => ?_
  refine XO.box rfl fun b6 => ?_
  refine XO.q (Q.assign rfl) (XO.done (XK.seq (XK.seq (XK.region rfl (XO.q (Q.move rfl) ?_)))))
  refine XO.q (Q.fieldAddr rfl) ?_
  refine XO.q (Q.ld rfl rfl) ?_
  refine XO.len rfl fun l16 => ?_
  refine XO.q (Q.geq rfl rfl) ?_
  refine XO.done ?_
  refine XK.if rfl (fun c0 => ?_) (fun c0 => ?_)
  ·skip
   refine XK.seq (XK.region rfl (XO.q (Q.assign rfl) (XO.done ?_)))
   refine XK.rt [] Tryz.func82 Tryz.results82 (.t rfl .n) ?_
   rw [if_pos (show a = Pf.length by omega)] at le
   exact ⟨by rw [le]; rfl, rfl⟩
  ·skip
   refine XK.skip (XK.seq (XK.region rfl ?_))
   refine XO.q (Q.ldA [_, _, _, _] rfl rfl rfl) ?_
   refine XO.q (Q.move rfl) ?_
   refine XO.call Tryz.call79 rfl rfl rfl (rWorth_spec l vl hl K aL rs vr hr m w vw hw ok hwl) fun v21 s21 R21 => ?_
   obtain ⟨rfl, rfl⟩ := R21
   dsimp only [lcA, lnA]
   refine XO.q (Q.move rfl) ?_
   refine XO.q (Q.extract rfl rfl) ?_
   refine XO.q (Q.extract rfl rfl) ?_
   refine XO.q (Q.assign rfl) (XO.q (Q.assign rfl) (XO.done (XK.seq (XK.seq (XK.region rfl ?_)))))
   refine XO.q (Q.fieldAddr rfl) ?_
   refine XO.q (Q.ld rfl rfl) ?_
   refine XO.q (Q.move rfl) ?_
   refine XO.ix rfl rfl (by omega) (by omega) fun i27 => ?_
   refine XO.q (Q.ldE rfl (by first | assumption | omega) rfl) ?_
   refine XO.done ?_
   refine XK.if rfl (fun c1 => ?_) (fun c1 => ?_)
   ·skip
    refine XK.seq (XK.seq (XK.region rfl (XO.q (Q.move rfl) ?_)))
    refine XO.q (Q.fieldAddr rfl) ?_
    refine XO.q (Q.ld rfl rfl) ?_
    refine XO.q (Q.gtr rfl rfl) ?_
    refine XO.done ?_
    refine XK.if rfl (fun c2 => ?_) (fun c2 => ?_)
    ·skip
     refine XK.seq (XK.region rfl (XO.q (Q.assign rfl) (XO.done ?_)))
     refine XK.rt [] Tryz.func82 Tryz.results82 (.t rfl .n) ?_
     rw [if_neg (show ¬ a = Pf.length by omega), if_pos (show Pf.getD a false = true from c1), decide_eq_false (by omega)] at le
     exact ⟨by rw [le]; rfl, rfl⟩
    ·skip
     refine XK.skip (XK.seq (XK.region rfl (XO.q (Q.move rfl) ?_)))
     refine XO.q (Q.add rfl rfl ⟨by omega, by omega⟩) ?_
     rw [show ((a : Nat) : Int) + 1 = ((a + 1 : Nat) : Int) from rfl]
     refine XO.q (Q.assign rfl) (XO.done ?_)
     refine XK.rt [] Tryz.func82 Tryz.results82 (.t rfl .n) ?_
     rw [if_neg (show ¬ a = Pf.length by omega), if_pos (show Pf.getD a false = true from c1), decide_eq_true (by omega)] at le
     exact ⟨by rw [le]; rfl, rfl⟩
   ·skip
    refine XK.skip (XK.seq (XK.seq (XK.region rfl (XO.q (Q.move rfl) ?_))))
    refine XO.len rfl fun l36 => ?_
    refine XO.q (Q.fieldAddr rfl) ?_
    refine XO.q (Q.ld rfl rfl) ?_
    refine XO.len rfl fun l39 => ?_
    refine XO.q (Q.eql rfl rfl) ?_
    refine XO.done ?_
    refine XK.if rfl (fun c3 => ?_) (fun c3 => ?_)
    ·skip
     refine XK.seq (XK.seq (XK.region rfl (XO.q (Q.move rfl) ?_)))
     refine XO.q (Q.fieldAddr rfl) ?_
     refine XO.q (Q.ld rfl rfl) ?_
     refine XO.q (Q.gtr rfl rfl) ?_
     refine XO.done ?_
     refine XK.if rfl (fun c4 => ?_) (fun c4 => ?_)
     ·skip
      refine XK.seq (XK.region rfl (XO.q (Q.assign rfl) (XO.done ?_)))
      refine XK.rt [] Tryz.func82 Tryz.results82 (.t rfl .n) ?_
      rw [if_neg (show ¬ a = Pf.length by omega), if_neg (show ¬ Pf.getD a false = true from c1), if_pos (show w.length = (l.map Prod.snd).length by omega), decide_eq_false (by omega)] at le
      exact ⟨by rw [le]; rfl, rfl⟩
     ·skip
      refine XK.skip (XK.seq (XK.region rfl (XO.q (Q.move rfl) ?_)))
      refine XO.q (Q.add rfl rfl ⟨by omega, by omega⟩) ?_
      rw [show ((a : Nat) : Int) + 1 = ((a + 1 : Nat) : Int) from rfl]
      refine XO.q (Q.assign rfl) (XO.done ?_)
      refine XK.rt [] Tryz.func82 Tryz.results82 (.t rfl .n) ?_
      rw [if_neg (show ¬ a = Pf.length by omega), if_neg (show ¬ Pf.getD a false = true from c1), if_pos (show w.length = (l.map Prod.snd).length by omega), decide_eq_true (by omega)] at le
      exact ⟨by rw [le]; rfl, rfl⟩
    ·skip
     exact absurd (show (w.length : Int) = l.length by omega) c3
 | succ m_ ih =>
  intro w vw hw a jw hwl hm wok al ha
  haveI := jw
  have le := holds_eq (t := (⟨(l.map Prod.snd), rs, m⟩ : PTask)) (P := Pf) (W := W) (w := w) (by dsimp only; omega) a
  refine Spec.intro (fn := Tryz.f82) (N := 71) Tryz.func82 rfl Tryz.ntmps82 rfl fun B => ?_
  refine XK.seq (XK.region rfl ?_)
  refine XO.box rfl fun b4 => ?_
  refine XO.box rfl fun b6 => ?_
  refine XO.q (Q.assign rfl) (XO.done (XK.seq (XK.seq (XK.region rfl (XO.q (Q.move rfl) ?_)))))
  refine XO.q (Q.fieldAddr rfl) ?_
  refine XO.q (Q.ld rfl rfl) ?_
  refine XO.len rfl fun l16 => ?_
  refine XO.q (Q.geq rfl rfl) ?_
  refine XO.done ?_
  refine XK.if rfl (fun c0 => ?_) (fun c0 => ?_)
  ·skip
   refine XK.seq (XK.region rfl (XO.q (Q.assign rfl) (XO.done ?_)))
   refine XK.rt [] Tryz.func82 Tryz.results82 (.t rfl .n) ?_
   rw [if_pos (show a = Pf.length by omega)] at le
   exact ⟨by rw [le]; rfl, rfl⟩
  ·skip
   refine XK.skip (XK.seq (XK.region rfl ?_))
   refine XO.q (Q.ldA [_, _, _, _] rfl rfl rfl) ?_
   refine XO.q (Q.move rfl) ?_
   refine XO.call Tryz.call79 rfl rfl rfl (rWorth_spec l vl hl K aL rs vr hr m w vw hw ok hwl) fun v21 s21 R21 => ?_
   obtain ⟨rfl, rfl⟩ := R21
   dsimp only [lcA, lnA]
   refine XO.q (Q.move rfl) ?_
   refine XO.q (Q.extract rfl rfl) ?_
   refine XO.q (Q.extract rfl rfl) ?_
   refine XO.q (Q.assign rfl) (XO.q (Q.assign rfl) (XO.done (XK.seq (XK.seq (XK.region rfl ?_)))))
   refine XO.q (Q.fieldAddr rfl) ?_
   refine XO.q (Q.ld rfl rfl) ?_
   refine XO.q (Q.move rfl) ?_
   refine XO.ix rfl rfl (by omega) (by omega) fun i27 => ?_
   refine XO.q (Q.ldE rfl (by first | assumption | omega) rfl) ?_
   refine XO.done ?_
   refine XK.if rfl (fun c1 => ?_) (fun c1 => ?_)
   ·skip
    refine XK.seq (XK.seq (XK.region rfl (XO.q (Q.move rfl) ?_)))
    refine XO.q (Q.fieldAddr rfl) ?_
    refine XO.q (Q.ld rfl rfl) ?_
    refine XO.q (Q.gtr rfl rfl) ?_
    refine XO.done ?_
    refine XK.if rfl (fun c2 => ?_) (fun c2 => ?_)
    ·skip
     refine XK.seq (XK.region rfl (XO.q (Q.assign rfl) (XO.done ?_)))
     refine XK.rt [] Tryz.func82 Tryz.results82 (.t rfl .n) ?_
     rw [if_neg (show ¬ a = Pf.length by omega), if_pos (show Pf.getD a false = true from c1), decide_eq_false (by omega)] at le
     exact ⟨by rw [le]; rfl, rfl⟩
    ·skip
     refine XK.skip (XK.seq (XK.region rfl (XO.q (Q.move rfl) ?_)))
     refine XO.q (Q.add rfl rfl ⟨by omega, by omega⟩) ?_
     rw [show ((a : Nat) : Int) + 1 = ((a + 1 : Nat) : Int) from rfl]
     refine XO.q (Q.assign rfl) (XO.done ?_)
     refine XK.rt [] Tryz.func82 Tryz.results82 (.t rfl .n) ?_
     rw [if_neg (show ¬ a = Pf.length by omega), if_pos (show Pf.getD a false = true from c1), decide_eq_true (by omega)] at le
     exact ⟨by rw [le]; rfl, rfl⟩
   ·skip
    refine XK.skip (XK.seq (XK.seq (XK.region rfl (XO.q (Q.move rfl) ?_))))
    refine XO.len rfl fun l36 => ?_
    refine XO.q (Q.fieldAddr rfl) ?_
    refine XO.q (Q.ld rfl rfl) ?_
    refine XO.len rfl fun l39 => ?_
    refine XO.q (Q.eql rfl rfl) ?_
    refine XO.done ?_
    refine XK.if rfl (fun c3 => ?_) (fun c3 => ?_)
    ·skip
     refine XK.seq (XK.seq (XK.region rfl (XO.q (Q.move rfl) ?_)))
     refine XO.q (Q.fieldAddr rfl) ?_
     refine XO.q (Q.ld rfl rfl) ?_
     refine XO.q (Q.gtr rfl rfl) ?_
     refine XO.done ?_
     refine XK.if rfl (fun c4 => ?_) (fun c4 => ?_)
     ·skip
      refine XK.seq (XK.region rfl (XO.q (Q.assign rfl) (XO.done ?_)))
      refine XK.rt [] Tryz.func82 Tryz.results82 (.t rfl .n) ?_
      rw [if_neg (show ¬ a = Pf.length by omega), if_neg (show ¬ Pf.getD a false = true from c1), if_pos (show w.length = (l.map Prod.snd).length by omega), decide_eq_false (by omega)] at le
      exact ⟨by rw [le]; rfl, rfl⟩
     ·skip
      refine XK.skip (XK.seq (XK.region rfl (XO.q (Q.move rfl) ?_)))
      refine XO.q (Q.add rfl rfl ⟨by omega, by omega⟩) ?_
      rw [show ((a : Nat) : Int) + 1 = ((a + 1 : Nat) : Int) from rfl]
      refine XO.q (Q.assign rfl) (XO.done ?_)
      refine XK.rt [] Tryz.func82 Tryz.results82 (.t rfl .n) ?_
      rw [if_neg (show ¬ a = Pf.length by omega), if_neg (show ¬ Pf.getD a false = true from c1), if_pos (show w.length = (l.map Prod.snd).length by omega), decide_eq_true (by omega)] at le
      exact ⟨by rw [le]; rfl, rfl⟩
    ·skip
     have hlt : w.length < l.length := by omega
     refine XK.skip (XK.seq (XK.region rfl (XO.q (Q.move rfl) ?_)))
     refine XO.q (Q.add rfl rfl ⟨by omega, by omega⟩) ?_
     rw [show ((a : Nat) : Int) + 1 = ((a + 1 : Nat) : Int) from rfl]
     refine XO.q (Q.assign rfl) (XO.done (XK.seq (XK.region rfl ?_)))
     refine XO.q (Q.ldA [_, _, _, _] rfl rfl rfl) ?_
     refine XO.q (Q.move rfl) ?_
     refine XO.call Tryz.call107 rfl rfl rfl (rsons_spec l vl hl K aL rs vr hr m w vw hw ok lok hlt wok al) fun v51 s51 R51 => ?_
     obtain ⟨ho, us, Ks, rfl, OU, or_⟩ := R51
     dsimp only [lcA, lnA]
     have rr := or_.rows
     have ul := or_.lu
     refine XO.q (Q.assign rfl) (XO.done (XK.seq (XK.seq (XK.region rfl (XO.q (Q.assign rfl) ?_)))))
     refine XO.done (XK.block ?_)
     refine XK.while (X := Nat × Int) [3, 12, 52, 53, 54, 55, 56, 57, 58, 59, 60, 61, 62, 63, 64, 65, 66, 67, 68, 69] (fun ⟨i, z⟩ => [(12, some (.int .i64 (i : Nat))), (3, some (.int .i64 z))]) (fun ⟨i, z⟩ => []) (fun ⟨i, z⟩ => i ≤ us.length ∧ z = resR (holdsTo (⟨(l.map Prod.snd), rs, m⟩ : PTask) Pf W w a i) ∧ (holdsTo (⟨(l.map Prod.snd), rs, m⟩ : PTask) Pf W w a i).2 ≤ Pf.length) (fun ⟨i, z⟩ => us.length - i) (0, ((a + 1 : Nat) : Int)) [] rfl ⟨by omega, rfl, by show a + 1 ≤ Pf.length; omega⟩ (.c rfl (.c rfl (.base 0 rfl rfl))) ?_
     rintro ⟨i, z⟩ ⟨hi, e1, r1⟩ ih0
     dsimp only [lcA, lnA] at ih0 ⊢
     refine XK.seq (XK.seq (XK.region rfl (XO.q (Q.move rfl) (XO.q (Q.move rfl) ?_))))
     refine XO.len rfl fun l54 => ?_
     refine XO.q (Q.lss rfl rfl) ?_
     refine XO.q (Q.move rfl) ?_
     refine XO.q (Quiet.guardT rfl rfl fun g57 p57 => Q.move rfl) ?_
     refine XO.q (Quiet.guardT rfl rfl fun g58 p58 => Q.geq (lzv g58 rfl) rfl) ?_
     refine XO.q (Q.and rfl (fun hp => lzv hp rfl)) ?_
     refine XO.done ?_
     refine XK.if rfl (fun c5 => ?_) (fun c5 => ?_)
     ·skip
      obtain ⟨c5a, c5b⟩ := c5
      obtain ⟨y, ey, y1, y2⟩ := psons_get (t := (⟨(l.map Prod.snd), rs, m⟩ : PTask)) (w := w) (i := i) (by omega)
      have el : (((psons (⟨(l.map Prod.snd), rs, m⟩ : PTask) w).getD i default)).length = w.length + 1 := by
       have := congrArg List.length ey
       rw [List.length_append] at this; exact this
      rw [e1] at c5b
      obtain ⟨t1, t2⟩ := resR_at c5b
      obtain ⟨a1, ea1⟩ : ∃ a1, a1 = (holdsTo (⟨(l.map Prod.snd), rs, m⟩ : PTask) Pf W w a i).2 := ⟨_, rfl⟩
      rw [← ea1] at r1 t2
      rw [t2] at e1
      subst e1
      have hn := holds_next (t := (⟨(l.map Prod.snd), rs, m⟩ : PTask)) (Pf := Pf) (W := W) (w := w) (a := a) (a1 := a1) (i := i) (by rw [ea1]; exact Prod.ext t1.symm rfl)
      refine XK.skip (XK.seq (XK.block ?_))
      refine XK.drawn [0, 1, 2, 3, 4, 5, 6, 8] [b4, b6] [ho, join Ks] (.q 0 (.q 1 (.q 2 (.q 3 (.q 4 (.q 5 (.q 6 (.br 7 true (.q 8 .done) .stop)))))))) Tryz.mixed rfl (by kernel_rfl) ?_
      refine XT.q rfl rfl (Q.ldA [_, _, _, _] rfl rfl rfl) ?_
      refine XT.q rfl rfl (Q.move rfl) ?_
      refine XT.q rfl rfl (Q.move rfl) ?_
      refine XT.ix rfl rfl rfl rfl (by omega) (by omega) fun i65 => ?_
      refine XT.q rfl rfl (Q.ldE rfl (by first | assumption | omega) rfl) ?_
      refine XT.q rfl rfl (Q.ldA [_, _, _] rfl rfl rfl) ?_
      refine XT.q rfl rfl (Q.move rfl) ?_
      refine XT.call rfl rfl Tryz.call82 rfl rfl rfl (ih ((psons (⟨(l.map Prod.snd), rs, m⟩ : PTask) w).getD i default) (us.getD i default) (join Ks) a1 (rr.2 i (by omega)) (by rw [el]; omega) (by rw [el]; omega) (by rw [ey]; exact wok.snoc (by dsimp only; omega) y1 y2) (sons_allowed al (getD_mem (by omega))) r1) (fun v69 s69 R69 => ?_) XT.stop
      obtain ⟨rfl, rfl⟩ := R69
      dsimp only [lcA, lnA]
      refine ⟨inferInstance, ?_⟩
      refine XT.q rfl rfl (Q.assign rfl) ?_
      refine XT.done ?_
      refine XK.inBlock ?_
      refine XK.region rfl (XO.q (Q.move rfl) ?_)
      refine XO.q (Q.add rfl rfl ⟨by omega, by omega⟩) ?_
      refine XO.q (Q.assign rfl) (XO.done ?_)
      exact ih0 (i + 1, resR (holdsG (⟨(l.map Prod.snd), rs, m⟩ : PTask) Pf W ((psons (⟨(l.map Prod.snd), rs, m⟩ : PTask) w).getD i default) a1)) _ _ ⟨by dsimp only; omega, by dsimp only; rw [hn]; rfl, by dsimp only; rw [hn]; exact holds_len _ ((psons (⟨(l.map Prod.snd), rs, m⟩ : PTask) w).getD i default) a1 (by dsimp only; rw [el]; omega) (Nat.le_refl _) r1⟩ (by first | omega | (dsimp only; omega)) (.c rfl (.c rfl (.base 42 rfl rfl))) inferInstance
     ·skip
      have fin : z = resR (holdsTo (⟨(l.map Prod.snd), rs, m⟩ : PTask) Pf W w a (psons (⟨(l.map Prod.snd), rs, m⟩ : PTask) w).length) := by
       by_cases hc : i < us.length
       ·have hz : ¬ 0 ≤ z := fun h => c5 ⟨by omega, h⟩
        rw [e1] at hz
        obtain ⟨f1, f2⟩ := resR_no hz
        rw [e1, holds_stay f1 (psons (⟨(l.map Prod.snd), rs, m⟩ : PTask) w).length (by omega)]
       ·rw [e1, show i = (psons (⟨(l.map Prod.snd), rs, m⟩ : PTask) w).length by omega]
      refine XK.exit rfl ?_
      refine XK.seq (XK.region rfl (XO.q (Q.move rfl) (XO.q (Q.assign rfl) (XO.done ?_))))
      refine XK.rt [] Tryz.func82 Tryz.results82 (.t rfl .n) ?_
      rw [if_neg (show ¬ a = Pf.length by omega), if_neg (show ¬ Pf.getD a false = true from c1), if_neg (show ¬ w.length = (l.map Prod.snd).length by omega)] at le
      exact ⟨by rw [le, ← fin], rfl⟩
end Go.X

set_option linter.unusedSimpArgs false
set_option linter.unusedVariables false
set_option maxRecDepth 20000
namespace Go.X
open Go.Proofs
theorem res_ne {s : Bool × Nat} {n : Nat} : resR s ≠ (n : Int) ↔ (¬ s.1 = true ∨ s.2 ≠ n) := by
 unfold resR
 split
 ·rename_i h
  exact ⟨fun q => .inr (by omega), fun q => by rcases q with q | q; exact absurd h q; omega⟩
 ·rename_i h
  exact ⟨fun _ => .inl h, fun _ => by omega⟩
set_option maxHeartbeats 2000000 in
theorem rVerify_spec (l : List (Value × PJob)) (vl : Value) (hl K : PHeap) [jl : Arr vl encPJ 6 hl l] (aL : JobsK l K) (rs : List PRack) (vr : Value) (hr : PHeap) [jr : Arr vr encRack 5 hr rs] (m : PRat) (w : List Int) (vw : Value) (hw : PHeap) [jw : Arr vw encI 1 hw w] (W : Int) (Pf : List Bool) (vP : Value) (hP : PHeap) [jP : Arr vP encB 1 hP Pf] : Spec Tryz.prog 34 #[.agg #[vl, vr, .int .i64 m.n, .int .i64 m.d], .agg #[vw, .int .i64 W, vP]] [] [hl, K, hr, hw, hP] (fun v hs => v = .int .i64 (verifyP (⟨(l.map Prod.snd), rs, m⟩ : PTask) w W Pf) ∧ hs = []) := by
 have lm : (l.map Prod.snd).length = l.length := List.length_map ..
 have lp := jP.le
 refine Spec.intro (fn := Tryz.f34) (N := 45) Tryz.func34 rfl Tryz.ntmps34 rfl fun B => ?_
 refine XK.seq (XK.region rfl ?_)
 refine XO.box rfl fun b2 => ?_
 refine XO.box rfl fun b3 => ?_
 refine XO.q (Q.assign rfl) (XO.done (XK.seq (XK.seq (XK.region rfl ?_))))
 refine XO.q (Q.ldA [_, _, _, _] rfl rfl rfl) ?_
 refine XO.call Tryz.call77 rfl rfl rfl (rready_spec l vl hl K aL rs vr hr m) fun v9 s9 R9 => ?_
 obtain ⟨rfl, rfl⟩ := R9
 dsimp only [lcA, lnA]
 refine XO.q (Q.assign rfl) (XO.done (XK.seq (XK.region rfl (XO.q (Q.move rfl) ?_))))
 refine XO.q (Q.neq rfl rfl) ?_
 refine XO.done ?_
 refine XK.if rfl (fun c0 => ?_) (fun c0 => ?_)
 ·skip
  refine XK.seq (XK.region rfl (XO.q (Q.move rfl) (XO.q (Q.assign rfl) (XO.done ?_))))
  refine XK.rt [] Tryz.func34 Tryz.results34 (.t rfl .n) ?_
  exact ⟨by rw [verifyP, if_pos c0], rfl⟩
 ·skip
  have rk := ready_ok (Decidable.of_not_not c0)
  refine XK.skip (XK.seq (XK.seq (XK.region rfl ?_)))
  refine XO.q (Q.ldA [_, _, _, _] rfl rfl rfl) ?_
  refine XO.q (Q.fieldAddr rfl) ?_
  refine XO.q (Q.ld rfl rfl) ?_
  refine XO.call Tryz.call67 rfl rfl rfl (rformed_spec l vl hl K aL rs vr hr m w vw hw) fun v16 s16 R16 => ?_
  obtain ⟨rfl, rfl⟩ := R16
  dsimp only [lcA, lnA]
  refine XO.q (Q.neq rfl rfl) ?_
  refine XO.q (Q.move rfl) ?_
  refine XO.q (Quiet.guardF rfl rfl fun g19 p19 => Q.ldA [_, _, _, _] rfl rfl rfl) ?_
  refine XO.q (Quiet.guardF rfl rfl fun g20 p20 => Q.fieldAddr rfl) ?_
  refine XO.q (Quiet.guardF rfl rfl fun g21 p21 => Q.ld (lzv g21 rfl) rfl) ?_
  refine XO.gcallF rfl rfl Tryz.call68 rfl (fun g22 => .c (lzv g22 rfl) (.c (lzv g22 rfl) .n)) rfl (fun g22 p22 => rallowed_spec l vl hl K aL rs vr hr m w vw hw (formed_iff (Decidable.of_not_not p22)).1 (formed_iff (Decidable.of_not_not p22)).2.1 (by have := (formed_iff (Decidable.of_not_not p22)).2.2.1; dsimp only at this; omega) (formed_iff (Decidable.of_not_not p22)).2.2.2) ?_
  refine XO.q (Quiet.guardF rfl rfl fun g23 p23 => Q.not (lzv g23 rfl)) ?_
  refine XO.q (Q.or rfl (fun hp => lzv hp rfl)) ?_
  refine XO.done ?_
  refine XK.if rfl (fun c1 => ?_) (fun c1 => ?_)
  ·skip
   refine XK.seq (XK.region rfl (XO.q (Q.assign rfl) (XO.done ?_)))
   refine XK.rt [] Tryz.func34 Tryz.results34 (.t rfl .n) ?_
   exact ⟨by rw [verifyP, if_neg c0, if_pos c1], rfl⟩
  ·skip
   have c1b := not_or.1 c1
   have fk := formed_iff (Decidable.of_not_not c1b.1)
   have hwl : w.length ≤ l.length := by have := fk.2.1.len; dsimp only at this; omega
   refine XK.skip (XK.seq (XK.region rfl ?_))
   refine XO.q (Q.ldA [_, _, _, _] rfl rfl rfl) ?_
   refine XO.q (Q.fieldAddr rfl) ?_
   refine XO.q (Q.ld rfl rfl) ?_
   refine XO.call Tryz.call79 rfl rfl rfl (rWorth_spec l vl hl K aL rs vr hr m w vw hw rk.1 hwl) fun v29 s29 R29 => ?_
   obtain ⟨rfl, rfl⟩ := R29
   dsimp only [lcA, lnA]
   refine XO.q (Q.move rfl) ?_
   refine XO.q (Q.extract rfl rfl) ?_
   refine XO.q (Q.extract rfl rfl) ?_
   refine XO.q (Q.assign rfl) (XO.q (Q.assign rfl) (XO.done (XK.seq (XK.seq ?_))))
   refine XK.drawn [0, 1, 2, 3, 4, 5, 6, 8, 9, 10, 11, 12] [b3, b2] [] (.q 0 (.q 1 (.q 2 (.q 3 (.q 4 (.q 5 (.q 6 (.q 8 (.q 9 (.q 10 (.br 7 true (.q 11 (.q 12 .done)) .stop))))))))))) Tryz.mixed rfl (by kernel_rfl) ?_
   refine XT.q rfl rfl (Q.move rfl) ?_
   refine XT.q rfl rfl (Q.fieldAddr rfl) ?_
   refine XT.q rfl rfl (Q.ld rfl rfl) ?_
   refine XT.q rfl rfl (Q.neq rfl rfl) ?_
   rcases hb35 : decide (worthG (⟨(l.map Prod.snd), rs, m⟩ : PTask) w ≠ W) with _ | _
   ·have _ts := True.intro
    refine XT.q rfl rfl (Q.move rfl) ?_
    refine XT.q rfl rfl (Quiet.guardF rfl rfl fun g37 p37 => Q.ldA [_, _, _, _] rfl rfl rfl) ?_
    refine XT.q rfl rfl (Quiet.guardF rfl rfl fun g38 p38 => Q.ldA [_, _, _] rfl rfl rfl) ?_
    refine XT.q rfl rfl (Quiet.guardF rfl rfl fun g40 p40 => Q.fieldAddr rfl) ?_
    refine XT.q rfl rfl (Quiet.guardF rfl rfl fun g41 p41 => Q.ld (lzv rfl rfl) rfl) ?_
    refine XT.q rfl rfl (Quiet.guardF rfl rfl fun g42 p42 => Q.len (lzv rfl rfl)) ?_
    refine XT.callS rfl rfl rfl rfl rfl Tryz.call82 rfl (.c (lzv rfl rfl) (.c rfl (.c (lzv rfl rfl) (.c rfl .n)))) rfl (rproves_spec l vl hl K aL rs vr hr m rk.1 rk.2 vw W Pf vP hP l.length [] (.slice none 0 0) hl 0 (Arr.nil (fun _ => rfl)) (Nat.zero_le _) (by simp) (wok_nil _) (allowed_nil rk.1) (Nat.zero_le _)) (fun v39 s39 R39 => ?_) XT.stop
    obtain ⟨rfl, rfl⟩ := R39
    dsimp only [lcA, lnA]
    refine ⟨inferInstance, ?_⟩
    refine XT.q rfl rfl (Quiet.guardF rfl rfl fun g43 p43 => Q.neq rfl (lzv rfl rfl)) ?_
    refine XT.q rfl rfl (Q.or rfl (fun hp => lzv hp rfl)) ?_
    refine XT.done ?_
    refine XK.if rfl (fun c2 => ?_) (fun c2 => ?_)
    ·skip
     have hx : ¬ (holdsG (⟨(l.map Prod.snd), rs, m⟩ : PTask) Pf W [] 0).1 = true ∨ (holdsG (⟨(l.map Prod.snd), rs, m⟩ : PTask) Pf W [] 0).2 ≠ Pf.length := res_ne.1 (by simpa using c2)
     refine XK.seq (XK.region rfl (XO.q (Q.assign rfl) (XO.done ?_)))
     refine XK.rt [] Tryz.func34 Tryz.results34 (.t rfl .n) ?_
     have hv : verifyP (⟨(l.map Prod.snd), rs, m⟩ : PTask) w W Pf = 7 := by rw [verifyP, if_neg c0, if_neg c1, if_pos (.inr hx)]
     exact ⟨by rw [hv], rfl⟩
    ·skip
     have hx : ¬ (¬ (holdsG (⟨(l.map Prod.snd), rs, m⟩ : PTask) Pf W [] 0).1 = true ∨ (holdsG (⟨(l.map Prod.snd), rs, m⟩ : PTask) Pf W [] 0).2 ≠ Pf.length) := fun q => absurd (res_ne.2 q) (by simpa using c2)
     refine XK.skip (XK.seq (XK.region rfl (XO.q (Q.assign rfl) (XO.done ?_))))
     refine XK.rt [] Tryz.func34 Tryz.results34 (.t rfl .n) ?_
     have hv : verifyP (⟨(l.map Prod.snd), rs, m⟩ : PTask) w W Pf = 0 := by rw [verifyP, if_neg c0, if_neg c1, if_neg (by rw [decide_eq_false_iff_not] at hb35; rintro (h | h); exact hb35 h; exact hx h)]
     exact ⟨by rw [hv], rfl⟩
   ·have _ts := True.intro
    refine XT.q rfl rfl (Q.move rfl) ?_
    refine XT.q rfl rfl (Quiet.off rfl rfl (by decide)) ?_
    refine XT.q rfl rfl (Quiet.off rfl rfl (by decide)) ?_
    refine XT.q rfl rfl (Quiet.off rfl rfl (by decide)) ?_
    refine XT.q rfl rfl (Quiet.off rfl rfl (by decide)) ?_
    refine XT.q rfl rfl (Quiet.off rfl rfl (by decide)) ?_
    refine XT.qs rfl rfl (Quiet.off rfl rfl (by decide)) ⟨inferInstance, ?_⟩ XT.stop
    refine XT.q rfl rfl (Quiet.off rfl rfl (by decide)) ?_
    refine XT.q rfl rfl (Q.or (b := true) (b2 := false) rfl (fun hp => by cases hp)) ?_
    refine XT.done ?_
    refine XK.if rfl (fun c3 => ?_) (fun c3 => ?_)
    ·skip
     refine XK.seq (XK.region rfl (XO.q (Q.assign rfl) (XO.done ?_)))
     refine XK.rt [] Tryz.func34 Tryz.results34 (.t rfl .n) ?_
     have hv : verifyP (⟨(l.map Prod.snd), rs, m⟩ : PTask) w W Pf = 7 := by rw [verifyP, if_neg c0, if_neg c1, if_pos (.inl (by simpa using hb35))]
     exact ⟨by rw [hv], rfl⟩
    ·skip
     refine XK.skip (XK.seq (XK.region rfl (XO.q (Q.assign rfl) (XO.done ?_))))
     refine XK.rt [] Tryz.func34 Tryz.results34 (.t rfl .n) ?_
     exact absurd (by simp) c3
end Go.X

set_option linter.unusedSimpArgs false
set_option linter.unusedVariables false
set_option maxRecDepth 20000
namespace Go.X
open Go.Proofs
theorem leH.rfl' (h : PHeap) : leH h h := fun _ _ q => q
theorem RowsK.app {us vs : List Value} {K : PHeap} {a b : List (List Int)} (ra : RowsK us K a) (rb : RowsK vs K b) : RowsK (us ++ vs) K (a ++ b) := ⟨by rw [List.length_append, List.length_append, ra.1, rb.1], fun i hi => by
 rw [List.length_append] at hi
 rw [List.getD_eq_getElem?_getD, List.getD_eq_getElem?_getD, List.getElem?_append, List.getElem?_append, ← ra.1]
 split
 ·rename_i h
  have := ra.2 i h
  rwa [List.getD_eq_getElem?_getD, List.getD_eq_getElem?_getD] at this
 ·have := rb.2 (i - us.length) (by omega)
  rwa [List.getD_eq_getElem?_getD, List.getD_eq_getElem?_getD] at this⟩
set_option maxHeartbeats 4000000 in
theorem rleaves_spec (l : List (Value × PJob)) (vl : Value) (hl K : PHeap) [jl : Arr vl encPJ 6 hl l] (aL : JobsK l K) (rs : List PRack) (vr : Value) (hr : PHeap) [jr : Arr vr encRack 5 hr rs] (m : PRat) (ok : TaskOk (⟨(l.map Prod.snd), rs, m⟩ : PTask)) (lok : ListOk (l.map Prod.snd)) :
  ∀ (m_ : Nat) (w : List Int) (vw : Value) (hw : PHeap), Arr vw encI 1 hw w → w.length ≤ l.length → l.length - w.length ≤ m_ → WOk (⟨(l.map Prod.snd), rs, m⟩ : PTask) w → allowedB (⟨(l.map Prod.snd), rs, m⟩ : PTask) w = true → 6 ^ m_ ≤ 1679616 →
  Spec Tryz.prog 78 #[.agg #[vl, vr, .int .i64 m.n, .int .i64 m.d], vw] [] [hl, K, hr, hw] (fun v hs => ∃ us k K2, hs = [k, K2] ∧ OArr v encV 1 28 k us ∧ us.length = (leavesG (⟨(l.map Prod.snd), rs, m⟩ : PTask) w).length ∧ ∀ H, leH hw H → leH K2 H → RowsK us H (leavesG (⟨(l.map Prod.snd), rs, m⟩ : PTask) w)) := by
 intro m_
 have nV : OArr (.slice none 0 0) encV 1 28 emp ([] : List Value) := OArr.nil (fun _ => rfl)
 have ll := jl.le
 have lm : (l.map Prod.snd).length = l.length := List.length_map ..
 have few := ok.few
 have few2 : l.length ≤ 8 := by rw [← lm]; exact few
 induction m_ with
 | zero =>
  intro w vw hw jw hwl hm wok al room
  haveI := jw
  have le := leaves_eq (t := (⟨(l.map Prod.snd), rs, m⟩ : PTask)) (w := w) (by dsimp only; omega)
  refine Spec.intro (fn := Tryz.f78) (N := 34) Tryz.func78 rfl Tryz.ntmps78 rfl fun B => ?_
  refine XK.seq (XK.region rfl ?_)
  refine XO.box rfl fun b2 => ?_
  refine XO.q (Q.assign rfl) (XO.done (XK.seq (XK.seq (XK.region rfl (XO.q (Q.move rfl) ?_)))))
  refine XO.len rfl fun l9 => ?_
  refine XO.q (Q.fieldAddr rfl) ?_
  refine XO.q (Q.ld rfl rfl) ?_
  refine XO.len rfl fun l12 => ?_
  refine XO.q (Q.eql rfl rfl) ?_
  refine XO.done ?_
  refine XK.if rfl (fun c0 => ?_) (fun c0 => ?_)
  ·skip
   refine XK.seq (XK.region rfl (XO.q (Q.move rfl) ?_))
   refine XO.lit [_] [_] [vw] encV (by rfl) (by rfl) rfl (by rfl) (by exact .c 0 1 rfl rfl rfl (.n _)) (fun _ => rfl) (by rfl) rfl (by infer_instance) rfl fun v15 h15 O15 => ?_
   refine XO.q (Q.assign rfl) (XO.done ?_)
   refine XK.rt [h15, emp] Tryz.func78 Tryz.results78 (.t rfl .n) ?_
   rw [if_pos (show w.length = (l.map Prod.snd).length by omega)] at le
   rw [le]
   exact ⟨[vw], h15, emp, rfl, O15, rfl, fun H h1 _ => ⟨rfl, fun i hi => by
    have : i = 0 := by simpa using hi
    subst this; exact Arr.le_heap jw h1⟩⟩
  ·skip
   exact absurd (show (w.length : Int) = l.length by omega) c0
 | succ m_ ih =>
  intro w vw hw jw hwl hm wok al room
  haveI := jw
  have h8 : 6 ^ (m_ + 1) = 6 ^ m_ * 6 := Nat.pow_succ ..
  have h7 : 1 ≤ 6 ^ m_ := Nat.one_le_pow _ _ (by decide)
  have le := leaves_eq (t := (⟨(l.map Prod.snd), rs, m⟩ : PTask)) (w := w) (by dsimp only; omega)
  refine Spec.intro (fn := Tryz.f78) (N := 34) Tryz.func78 rfl Tryz.ntmps78 rfl fun B => ?_
  refine XK.seq (XK.region rfl ?_)
  refine XO.box rfl fun b2 => ?_
  refine XO.q (Q.assign rfl) (XO.done (XK.seq (XK.seq (XK.region rfl (XO.q (Q.move rfl) ?_)))))
  refine XO.len rfl fun l9 => ?_
  refine XO.q (Q.fieldAddr rfl) ?_
  refine XO.q (Q.ld rfl rfl) ?_
  refine XO.len rfl fun l12 => ?_
  refine XO.q (Q.eql rfl rfl) ?_
  refine XO.done ?_
  refine XK.if rfl (fun c0 => ?_) (fun c0 => ?_)
  ·skip
   refine XK.seq (XK.region rfl (XO.q (Q.move rfl) ?_))
   refine XO.lit [_] [_] [vw] encV (by rfl) (by rfl) rfl (by rfl) (by exact .c 0 1 rfl rfl rfl (.n _)) (fun _ => rfl) (by rfl) rfl (by infer_instance) rfl fun v15 h15 O15 => ?_
   refine XO.q (Q.assign rfl) (XO.done ?_)
   refine XK.rt [h15, emp] Tryz.func78 Tryz.results78 (.t rfl .n) ?_
   rw [if_pos (show w.length = (l.map Prod.snd).length by omega)] at le
   rw [le]
   exact ⟨[vw], h15, emp, rfl, O15, rfl, fun H h1 _ => ⟨rfl, fun i hi => by
    have : i = 0 := by simpa using hi
    subst this; exact Arr.le_heap jw h1⟩⟩
  ·skip
   have hlt : w.length < l.length := by omega
   refine XK.skip (XK.seq (XK.region rfl (XO.q (Q.assign rfl) (XO.done (XK.seq ?_)))))
   refine XK.region rfl ?_
   refine XO.q (Q.ldA [_, _, _, _] rfl rfl rfl) ?_
   refine XO.q (Q.move rfl) ?_
   refine XO.call Tryz.call107 rfl rfl rfl (rsons_spec l vl hl K aL rs vr hr m w vw hw ok lok hlt wok al) fun v18 s18 R18 => ?_
   obtain ⟨ho, us, Ks, rfl, OU, or_⟩ := R18
   dsimp only [lcA, lnA]
   have rr := or_.rows
   have ul := or_.lu
   refine XO.q (Q.assign rfl) (XO.done (XK.seq (XK.seq (XK.region rfl (XO.q (Q.assign rfl) ?_)))))
   refine XO.done (XK.block ?_)
   refine XK.while (X := Nat × Value × PHeap × List Value × PHeap) [5, 7, 19, 20, 21, 22, 23, 24, 25, 26, 27, 28, 29, 30, 31, 32] (fun ⟨i, vo, ko, us2, Kc⟩ => [(7, some (.int .i64 (i : Nat))), (5, some (vo))]) (fun ⟨i, vo, ko, us2, Kc⟩ => [ko, Kc]) (fun ⟨i, vo, ko, us2, Kc⟩ => i ≤ us.length ∧ OArr vo encV 1 28 ko us2 ∧ leH (join Ks) Kc ∧ RowsK us2 Kc (foldTo (fun (a : List (List Int)) son => a ++ leavesG (⟨(l.map Prod.snd), rs, m⟩ : PTask) son) (psons (⟨(l.map Prod.snd), rs, m⟩ : PTask) w) [] i)) (fun ⟨i, vo, ko, us2, Kc⟩ => us.length - i) (0, .slice none 0 0, emp, [], join Ks) [emp, join Ks] rfl ⟨by omega, nV, leH.rfl' _, rfl, fun i hi => absurd hi (Nat.not_lt_zero i)⟩ (.c rfl (.c rfl (.base 0 rfl rfl))) ?_
   rintro ⟨i, vo, ko, us2, Kc⟩ ⟨hi, OV, lK, R2⟩ ih0
   dsimp only [lcA, lnA] at ih0 ⊢
   refine XK.seq (XK.seq (XK.region rfl (XO.q (Q.move rfl) (XO.q (Q.move rfl) ?_))))
   refine XO.len rfl fun l21 => ?_
   refine XO.q (Q.lss rfl rfl) ?_
   refine XO.done ?_
   refine XK.if rfl (fun c1 => ?_) (fun c1 => ?_)
   ·skip
    obtain ⟨y, ey, y1, y2⟩ := psons_get (t := (⟨(l.map Prod.snd), rs, m⟩ : PTask)) (w := w) (i := i) (by omega)
    have el : (((psons (⟨(l.map Prod.snd), rs, m⟩ : PTask) w).getD i default)).length = w.length + 1 := by
     have := congrArg List.length ey
     rw [List.length_append] at this; exact this
    refine XK.skip (XK.seq (XK.block ?_))
    refine XK.drawn [0, 1, 2, 3, 4, 5, 8] [b2] [ho, Kc] (.q 0 (.q 1 (.q 2 (.q 3 (.q 4 (.q 5 (.br 6 true (.br 7 true (.q 8 .done) .stop) .stop))))))) Tryz.mixed rfl (by kernel_rfl) ?_
    refine XT.q rfl rfl (Q.move rfl) ?_
    refine XT.q rfl rfl (Q.ldA [_, _, _, _] rfl rfl rfl) ?_
    refine XT.q rfl rfl (Q.move rfl) ?_
    refine XT.q rfl rfl (Q.move rfl) ?_
    refine XT.ix rfl rfl rfl rfl (by omega) (by omega) fun i29 => ?_
    refine XT.q rfl rfl (Q.ldE rfl (by first | assumption | omega) rfl) ?_
    refine XT.call rfl rfl Tryz.call78 rfl rfl rfl (ih ((psons (⟨(l.map Prod.snd), rs, m⟩ : PTask) w).getD i default) (us.getD i default) Kc (Arr.le_heap (rr.2 i (by omega)) lK) (by rw [el]; omega) (by rw [el]; omega) (by rw [ey]; exact wok.snoc (by dsimp only; omega) y1 y2) (sons_allowed al (getD_mem (by omega))) (by omega)) (fun v31 s31 R31 => ?_) XT.stop
    obtain ⟨us3, k3, K3, rfl, O31, n31, R31⟩ := R31
    dsimp only [lcA, lnA]
    refine ⟨inferInstance, ?_⟩
    refine XT.append rfl rfl rfl rfl rfl rfl (by have q1 := leavesTo_len (t := (⟨(l.map Prod.snd), rs, m⟩ : PTask)) (w := w) (c := 6 ^ m_) (fun j hj => by obtain ⟨y, e, _⟩ := psons_get hj; exact leaves_len ok m_ _ (by rw [e, List.length_append]; simp; omega) (by rw [e, List.length_append]; simp; omega)) i (by omega); have q2 := leaves_len ok m_ ((psons (⟨(l.map Prod.snd), rs, m⟩ : PTask) w).getD i default) (by dsimp only; rw [el]; omega) (by dsimp only; rw [el]; omega); have q3 := R2.1; have q5 := psons_few ok w; have q6 := Nat.mul_le_mul_right (6 ^ m_) (show i ≤ 6 by omega); omega) (fun v32 h32 O32 => ⟨inferInstance, ?_⟩) XT.stop
    refine XT.q rfl rfl (Q.assign rfl) ?_
    refine XT.done ?_
    refine XK.inBlock ?_
    refine XK.region rfl ?_
    refine XO.cat Kc K3 fun la lb => ?_
    refine XO.q (Q.move rfl) ?_
    refine XO.q (Q.add rfl rfl ⟨by omega, by omega⟩) ?_
    refine XO.q (Q.assign rfl) (XO.done ?_)
    exact ih0 (i + 1, v32, h32, us2 ++ us3, cat Kc K3) _ _ ⟨by dsimp only; omega, O32, fun b ob hb => la b ob (lK b ob hb), by dsimp only; rw [foldTo]; exact (R2.mono la).app (R31 _ la lb)⟩ (by first | omega | (dsimp only; omega)) (.c rfl (.c rfl (.base 34 rfl rfl))) inferInstance
   ·skip
    have hin : i = (psons (⟨(l.map Prod.snd), rs, m⟩ : PTask) w).length := by omega
    refine XK.exit rfl ?_
    refine XK.seq (XK.region rfl (XO.q (Q.move rfl) (XO.q (Q.assign rfl) (XO.done ?_))))
    refine XK.rt [ko, Kc] Tryz.func78 Tryz.results78 (.t rfl .n) ?_
    rw [if_neg (show ¬ w.length = (l.map Prod.snd).length by omega), ← hin] at le
    rw [le]
    exact ⟨us2, ko, Kc, rfl, OV, R2.1, fun H _ h2 => R2.mono h2⟩
end Go.X

set_option linter.unusedSimpArgs false
set_option linter.unusedVariables false
set_option maxRecDepth 20000
namespace Go.X
open Go.Proofs
theorem leaves_wlen {t : PTask} : ∀ m w, w.length ≤ t.jobs.length → t.jobs.length - w.length ≤ m → ∀ x ∈ leavesG t w, x.length = t.jobs.length
 | m, w, hw, hm, x, hx => by
  rw [leaves_eq hw] at hx
  split at hx
  ·rename_i hl
   rw [List.mem_singleton] at hx
   rw [hx]; exact hl
  ·cases m with
   | zero => omega
   | succ m =>
    have go : ∀ n, n ≤ (psons t w).length → ∀ x ∈ foldTo (fun (a : List (List Int)) son => a ++ leavesG t son) (psons t w) [] n, x.length = t.jobs.length := by
     intro n
     induction n with
     | zero => intro _ x hx; cases hx
     | succ n ih =>
      intro hn x hx
      rw [foldTo] at hx
      rcases List.mem_append.1 hx with hx | hx
      ·exact ih (by omega) x hx
      ·obtain ⟨y, e, _⟩ := psons_get (t := t) (w := w) (i := n) (by omega)
       exact leaves_wlen m _ (by rw [e, List.length_append]; simp; omega) (by rw [e, List.length_append]; simp; omega) x hx
    exact go _ (Nat.le_refl _) x hx
theorem take_snocW {L : List (List Int)} {i : Nat} (h : i < L.length) : L.take (i + 1) = L.take i ++ [L.getD i default] := take_snocP h
set_option maxHeartbeats 4000000 in
theorem rBest_spec (l : List (Value × PJob)) (vl : Value) (hl K : PHeap) [jl : Arr vl encPJ 6 hl l] (aL : JobsK l K) (rs : List PRack) (vr : Value) (hr : PHeap) [jr : Arr vr encRack 5 hr rs] (m : PRat) : Spec Tryz.prog 27 #[.agg #[vl, vr, .int .i64 m.n, .int .i64 m.d]] [] [hl, K, hr] (fun v hs => ∃ vW vP kW kP bw s p, v = .tuple #[.agg #[vW, .int .i64 s, vP], .int .i64 (readyG (⟨(l.map Prod.snd), rs, m⟩ : PTask))] ∧ hs = [kW, kP] ∧ Arr vW encI 1 kW bw ∧ OArr vP encB 1 4 kP p ∧ (readyG (⟨(l.map Prod.snd), rs, m⟩ : PTask) = 0 → (bw, s, p) = (bestP (⟨(l.map Prod.snd), rs, m⟩ : PTask))) ∧ (readyG (⟨(l.map Prod.snd), rs, m⟩ : PTask) ≠ 0 → (bw, s, p) = ([], 0, []))) := by
 have nI : OArr (.slice none 0 0) encI 1 3 emp ([] : List Int) := OArr.nil (fun _ => rfl)
 have nB : OArr (.slice none 0 0) encB 1 4 emp ([] : List Bool) := OArr.nil (fun _ => rfl)
 have lm : (l.map Prod.snd).length = l.length := List.length_map ..
 refine Spec.intro (fn := Tryz.f27) (N := 51) Tryz.func27 rfl Tryz.ntmps27 rfl fun B => ?_
 refine XK.seq (XK.region rfl ?_)
 refine XO.box rfl fun b1 => ?_
 refine XO.alloc fun b2 => ?_
 refine XO.q (Q.assign rfl) (XO.done (XK.seq (XK.seq (XK.region rfl ?_))))
 refine XO.q (Q.ldA [_, _, _, _] rfl rfl rfl) ?_
 refine XO.call Tryz.call77 rfl rfl rfl (rready_spec l vl hl K aL rs vr hr m) fun v11 s11 R11 => ?_
 obtain ⟨rfl, rfl⟩ := R11
 dsimp only [lcA, lnA]
 refine XO.q (Q.assign rfl) (XO.done (XK.seq (XK.region rfl (XO.q (Q.move rfl) ?_))))
 refine XO.q (Q.neq rfl rfl) ?_
 refine XO.done ?_
 refine XK.if rfl (fun c0 => ?_) (fun c0 => ?_)
 ·skip
  refine XK.seq (XK.region rfl ?_)
  refine XO.q (Q.build [_, _, _] (.n _)) ?_
  refine XO.q (Q.move rfl) ?_
  refine XO.st rfl rfl rfl ?_
  refine XO.q (Q.assign rfl) (XO.done ?_)
  refine XK.rt [emp, emp] Tryz.func27 Tryz.results27 (.cell [_, _, _] rfl rfl rfl (.t rfl .n)) ?_
  exact ⟨.slice none 0 0, .slice none 0 0, emp, emp, [], 0, [], rfl, rfl, OArr.arr (s := nI), nB, fun h => absurd h c0, fun _ => rfl⟩
 ·skip
  have rk := ready_ok (Decidable.of_not_not c0)
  refine XK.skip (XK.seq (XK.region rfl ?_))
  refine XO.q (Q.ldA [_, _, _, _] rfl rfl rfl) ?_
  refine XO.drop (o' := [emp, blk b2 [.slice none 0 0, .int .i64 0, .slice none 0 0] 77, blk b1 [vl, vr, .int .i64 m.n, .int .i64 m.d] 47]) ?_
  refine XO.call Tryz.call78 rfl rfl rfl (rleaves_spec l vl hl K aL rs vr hr m rk.1 rk.2 l.length [] (.slice none 0 0) emp (OArr.arr (s := nI)) (Nat.zero_le _) (by simp) (wok_nil _) (allowed_nil rk.1) (by have h8 : 6 ^ l.length ≤ 6 ^ 8 := Nat.pow_le_pow_right (by decide) (by have := rk.1.few; dsimp only at this; omega); have : (6 : Nat) ^ 8 = 1679616 := rfl; omega)) fun v17 s17 R17 => ?_
  obtain ⟨us, kU, KU, rfl, OU, nU, RU0⟩ := R17
  dsimp only [lcA, lnA]
  have RU := RU0 KU (fun _ _ h => by cases h) (leH.rfl' KU)
  have jW0 : Arr (.slice none 0 0) encI 1 KU ([] : List Int) := Arr.nil (fun _ => rfl)
  refine XO.q (Q.assign rfl) (XO.done (XK.seq (XK.region rfl ?_)))
  refine XO.q (Q.build [_, _, _] (.c 1 1 rfl rfl rfl (.n _))) ?_
  refine XO.alloc fun b6 => ?_
  refine XO.st rfl rfl rfl ?_
  refine XO.done (XK.seq (XK.seq (XK.region rfl (XO.q (Q.assign rfl) (XO.done ?_)))))
  refine XK.block ?_
  refine XK.while (X := Nat × Value × List Int × Int) [7, 8, 9, 19, 20, 21, 22, 23, 24, 25, 26, 27, 28, 29, 30, 31, 32, 33, 34, 35, 36, 37, 38, 39, 40, 41, 42, 43, 44] (fun ⟨i, vW, bw, s⟩ => [(7, some (.int .i64 (i : Nat)))]) (fun ⟨i, vW, bw, s⟩ => [blk b6 [vW, .int .i64 s, .slice none 0 0] 77]) (fun ⟨i, vW, bw, s⟩ => i ≤ us.length ∧ Arr vW encI 1 KU bw ∧ (bw, s) = ((leavesG (⟨(l.map Prod.snd), rs, m⟩ : PTask) []).take i).foldl (better (⟨(l.map Prod.snd), rs, m⟩ : PTask)) ([], -1)) (fun ⟨i, vW, bw, s⟩ => us.length - i) (0, .slice none 0 0, [], -1) [blk b6 [.slice none 0 0, .int .i64 (-1), .slice none 0 0] 77] rfl ⟨by omega, jW0, by rw [List.take_zero]; rfl⟩ (.c rfl (.base 0 rfl rfl)) ?_
  rintro ⟨i, vW, bw, s⟩ ⟨hi, jW, e1⟩ ih0
  dsimp only [lcA, lnA] at ih0 ⊢
  refine XK.seq (XK.seq (XK.region rfl (XO.q (Q.move rfl) (XO.q (Q.move rfl) ?_))))
  refine XO.len rfl fun l21 => ?_
  refine XO.q (Q.lss rfl rfl) ?_
  refine XO.done ?_
  refine XK.if rfl (fun c1 => ?_) (fun c1 => ?_)
  ·skip
   have aW := RU.2 i (by omega)
   refine XK.skip (XK.seq (XK.block (XK.seq ?_)))
   refine XK.drawn [0, 1, 2, 3, 4, 6, 7, 8, 9, 10] [b1] [kU, KU] (.q 0 (.q 1 (.q 2 (.q 3 (.q 4 (.br 5 true (.q 6 (.q 7 (.q 8 (.q 9 (.q 10 .done))))) .stop)))))) Tryz.mixed rfl (by kernel_rfl) ?_
   refine XT.q rfl rfl (Q.ldA [_, _, _, _] rfl rfl rfl) ?_
   refine XT.q rfl rfl (Q.move rfl) ?_
   refine XT.q rfl rfl (Q.move rfl) ?_
   refine XT.ix rfl rfl rfl rfl (by omega) (by omega) fun i29 => ?_
   refine XT.q rfl rfl (Q.ldE rfl (by first | assumption | omega) rfl) ?_
   refine XT.call rfl rfl Tryz.call79 rfl rfl rfl ((by haveI := RU.2 i (by omega); exact rWorth_spec l vl hl K aL rs vr hr m ((leavesG (⟨(l.map Prod.snd), rs, m⟩ : PTask) []).getD i default) (us.getD i default) KU rk.1 (by have := leaves_wlen _ [] (Nat.zero_le _) (Nat.le_refl _) _ (getD_mem (xs := (leavesG (⟨(l.map Prod.snd), rs, m⟩ : PTask) [])) (i := i) (by omega)); dsimp only at this; omega))) (fun v31 s31 R31 => ?_) XT.stop
   obtain ⟨rfl, rfl⟩ := R31
   dsimp only [lcA, lnA]
   refine ⟨inferInstance, ?_⟩
   refine XT.q rfl rfl (Q.move rfl) ?_
   refine XT.q rfl rfl (Q.extract rfl rfl) ?_
   refine XT.q rfl rfl (Q.extract rfl rfl) ?_
   refine XT.q rfl rfl (Q.assign rfl) ?_
   refine XT.q rfl rfl (Q.assign rfl) ?_
   refine XT.done ?_
   refine XK.seq (XK.region rfl (XO.q (Q.move rfl) ?_))
   refine XO.q (Q.fieldAddr rfl) ?_
   refine XO.q (Q.ld rfl rfl) ?_
   refine XO.q (Q.gtr rfl rfl) ?_
   refine XO.done ?_
   refine XK.if rfl (fun c2 => ?_) (fun c2 => ?_)
   ·skip
    have bt : better (⟨(l.map Prod.snd), rs, m⟩ : PTask) (bw, s) ((leavesG (⟨(l.map Prod.snd), rs, m⟩ : PTask) []).getD i default) = ((leavesG (⟨(l.map Prod.snd), rs, m⟩ : PTask) []).getD i default, worthG (⟨(l.map Prod.snd), rs, m⟩ : PTask) ((leavesG (⟨(l.map Prod.snd), rs, m⟩ : PTask) []).getD i default)) := by unfold better; exact if_pos c2
    refine XK.seq (XK.region rfl (XO.q (Q.move rfl) (XO.q (Q.move rfl) ?_)))
    refine XO.ix rfl rfl (by omega) (by omega) fun i40 => ?_
    refine XO.q (Q.ldE rfl (by first | assumption | omega) rfl) ?_
    refine XO.q (Q.fieldAddr rfl) ?_
    refine XO.st rfl rfl rfl ?_
    refine XO.done (XK.region rfl (XO.q (Q.move rfl) ?_))
    refine XO.q (Q.fieldAddr rfl) ?_
    refine XO.st rfl rfl rfl ?_
    refine XO.done ?_
    refine XK.inBlock ?_
    refine XK.region rfl (XO.q (Q.move rfl) ?_)
    refine XO.q (Q.add rfl rfl ⟨by omega, by omega⟩) ?_
    refine XO.q (Q.assign rfl) (XO.done ?_)
    exact ih0 (i + 1, us.getD i default, (leavesG (⟨(l.map Prod.snd), rs, m⟩ : PTask) []).getD i default, worthG (⟨(l.map Prod.snd), rs, m⟩ : PTask) ((leavesG (⟨(l.map Prod.snd), rs, m⟩ : PTask) []).getD i default)) _ _ ⟨by dsimp only; omega, RU.2 i (by omega), by dsimp only; rw [take_snocW (by omega), List.foldl_append, ← e1, List.foldl_cons, List.foldl_nil, bt]⟩ (by first | omega | (dsimp only; omega)) (.c rfl (.base 59 rfl rfl)) inferInstance
   ·skip
    have bt : better (⟨(l.map Prod.snd), rs, m⟩ : PTask) (bw, s) ((leavesG (⟨(l.map Prod.snd), rs, m⟩ : PTask) []).getD i default) = (bw, s) := by unfold better; exact if_neg c2
    refine XK.skip ?_
    refine XK.inBlock ?_
    refine XK.region rfl (XO.q (Q.move rfl) ?_)
    refine XO.q (Q.add rfl rfl ⟨by omega, by omega⟩) ?_
    refine XO.q (Q.assign rfl) (XO.done ?_)
    exact ih0 (i + 1, vW, bw, s) _ _ ⟨by dsimp only; omega, jW, by dsimp only; rw [take_snocW (by omega), List.foldl_append, ← e1, List.foldl_cons, List.foldl_nil, bt]⟩ (by first | omega | (dsimp only; omega)) (.c rfl (.base 52 rfl rfl)) inferInstance
  ·skip
   have hin : i = (leavesG (⟨(l.map Prod.snd), rs, m⟩ : PTask) []).length := by omega
   rw [hin, List.take_length, ← look_leaves rk.1 _ [] ([], -1) (Nat.zero_le _) (Nat.le_refl _)] at e1
   have bel : belowG (⟨(l.map Prod.snd), rs, m⟩ : PTask) s [] := by
    have q := (look_below rk.1 _ [] ([], -1) (Nat.zero_le _) (Nat.le_refl _)).2
    rw [← e1] at q; exact q
   refine XK.exit rfl ?_
   refine XK.seq (XK.region rfl ?_)
   refine XO.q (Q.ldA [_, _, _, _] rfl rfl rfl) ?_
   refine XO.q (Q.fieldAddr rfl) ?_
   refine XO.q (Q.ld rfl rfl) ?_
   refine XO.call Tryz.call80 rfl rfl rfl (rproof_spec l vl hl K aL rs vr hr m rk.1 rk.2 s l.length [] (.slice none 0 0) KU (Arr.nil (fun _ => rfl)) (Nat.zero_le _) (by simp) (wok_nil _) (allowed_nil rk.1) bel (by have h8 : 6 ^ l.length ≤ 6 ^ 8 := Nat.pow_le_pow_right (by decide) (by have := rk.1.few; dsimp only at this; omega); have : (6 : Nat) ^ 8 = 1679616 := rfl; omega)) fun v48 s48 R48 => ?_
   obtain ⟨k48, rfl, O48⟩ := R48
   dsimp only [lcA, lnA]
   refine XO.q (Q.fieldAddr rfl) ?_
   refine XO.st rfl rfl rfl ?_
   refine XO.done (XK.seq (XK.region rfl ?_))
   refine XO.q (Q.ldA [_, _, _] rfl rfl rfl) ?_
   refine XO.st rfl rfl rfl ?_
   refine XO.q (Q.assign rfl) (XO.done ?_)
   refine XK.rt [KU, k48] Tryz.func27 Tryz.results27 (.cell [_, _, _] rfl rfl rfl (.t rfl .n)) ?_
   exact ⟨vW, v48, KU, k48, bw, s, _, by rw [Decidable.of_not_not c0], rfl, jW, O48, fun _ => by rw [bestP, ← e1], fun h => absurd (Decidable.of_not_not c0) h⟩
end Go.X

set_option linter.unusedSimpArgs false
set_option linter.unusedVariables false
set_option maxRecDepth 20000
namespace Go.X
open Go.Proofs
theorem cloneRk (v : Value) (h : PHeap) (xs : List PRack) [s : Arr v encRack 5 h xs] (hl : xs.length ≤ 68719476736) :
  Spec Tryz.prog 40 #[v] [] [h] (fun v' hs => ∃ h', hs = [h'] ∧ OArr v' encRack 5 43 h' xs) := by
 refine Spec.intro (fn := Tryz.f40) (N := 8) Tryz.func40 rfl Tryz.ntmps40 rfl fun B => ?_
 refine XK.seq (XK.region rfl (XO.q (Q.assign rfl) (XO.done (XK.seq (XK.seq ?_)))))
 refine XK.region rfl (XO.q (Q.move rfl) ?_)
 refine XO.eqNil rfl fun z4 hz4 => ?_
 refine XO.done ?_
 refine XK.if rfl (fun c0 => ?_) (fun c0 => ?_)
 ·skip
  refine XK.seq (XK.region rfl (XO.q (Q.assign rfl) (XO.done ?_)))
  refine XK.rt [emp] Tryz.func40 Tryz.results40 (.t rfl .n) ?_
  exact ⟨emp, rfl, by rw [(hz4 c0).1]; exact OArr.nil (fun _ => rfl)⟩
 ·skip
  refine XK.skip (XK.seq (XK.region rfl ?_))
  refine XO.lit [] [] [] encRack (by rfl) (by rfl) rfl (by rfl) (by exact .n _) (fun _ => rfl) (by rfl) rfl (by infer_instance) rfl fun v5 h5 O5 => ?_
  refine XO.q (Q.move rfl) ?_
  refine XO.append rfl rfl rfl rfl (by first | omega | (simp; omega)) fun v7 h7 O7 => ?_
  refine XO.q (Q.assign rfl) (XO.done ?_)
  refine XK.rt [h7] Tryz.func40 Tryz.results40 (.t rfl .n) ?_
  exact ⟨h7, rfl, O7⟩
theorem cloneB (v : Value) (h : PHeap) (xs : List Bool) [s : Arr v encB 1 h xs] (hl : xs.length ≤ 68719476736) :
  Spec Tryz.prog 32 #[v] [] [h] (fun v' hs => ∃ h', hs = [h'] ∧ OArr v' encB 1 4 h' xs) := by
 refine Spec.intro (fn := Tryz.f32) (N := 8) Tryz.func32 rfl Tryz.ntmps32 rfl fun B => ?_
 refine XK.seq (XK.region rfl (XO.q (Q.assign rfl) (XO.done (XK.seq (XK.seq ?_)))))
 refine XK.region rfl (XO.q (Q.move rfl) ?_)
 refine XO.eqNil rfl fun z4 hz4 => ?_
 refine XO.done ?_
 refine XK.if rfl (fun c0 => ?_) (fun c0 => ?_)
 ·skip
  refine XK.seq (XK.region rfl (XO.q (Q.assign rfl) (XO.done ?_)))
  refine XK.rt [emp] Tryz.func32 Tryz.results32 (.t rfl .n) ?_
  exact ⟨emp, rfl, by rw [(hz4 c0).1]; exact OArr.nil (fun _ => rfl)⟩
 ·skip
  refine XK.skip (XK.seq (XK.region rfl ?_))
  refine XO.lit [] [] [] encB (by rfl) (by rfl) rfl (by rfl) (by exact .n _) (fun _ => rfl) (by rfl) rfl (by infer_instance) rfl fun v5 h5 O5 => ?_
  refine XO.q (Q.move rfl) ?_
  refine XO.append rfl rfl rfl rfl (by first | omega | (simp; omega)) fun v7 h7 O7 => ?_
  refine XO.q (Q.assign rfl) (XO.done ?_)
  refine XK.rt [h7] Tryz.func32 Tryz.results32 (.t rfl .n) ?_
  exact ⟨h7, rfl, O7⟩
theorem equalB (v1 v2 : Value) (h1 h2 : PHeap) (xs ys : List Bool) [s1 : Arr v1 encB 1 h1 xs] [s2 : Arr v2 encB 1 h2 ys] :
  Spec Tryz.prog 29 #[v1, v2] [] [h1, h2] (fun v hs => v = .bool (decide (xs = ys)) ∧ hs = []) := by
 refine Spec.intro (fn := Tryz.f29) (N := 26) Tryz.func29 rfl Tryz.ntmps29 rfl fun B => ?_
 refine XK.seq (XK.region rfl (XO.q (Q.assign rfl) (XO.done (XK.seq (XK.seq ?_)))))
 refine XK.region rfl (XO.q (Q.move rfl) ?_)
 refine XO.len rfl fun l7 => ?_
 refine XO.q (Q.move rfl) ?_
 refine XO.len rfl fun l9 => ?_
 refine XO.q (Q.neq rfl rfl) ?_
 refine XO.done ?_
 refine XK.if rfl (fun c0 => ?_) (fun c0 => ?_)
 ·skip
  refine XK.seq (XK.region rfl (XO.q (Q.assign rfl) (XO.done ?_)))
  refine XK.rt [] Tryz.func29 Tryz.results29 (.t rfl .n) ?_
  exact ⟨by rw [decide_eq_false (fun h => c0 (by rw [h]))], rfl⟩
 ·skip
  refine XK.skip (XK.seq (XK.seq (XK.region rfl (XO.q (Q.move rfl) ?_))))
  refine XO.len rfl fun l12 => ?_
  refine XO.q (Q.move rfl) (XO.done (XK.block ?_))
  refine XK.while (X := Nat) [4, 5, 13, 14, 15, 16, 17, 18, 19, 20, 21, 22, 23, 24, 25] (fun i => [(13, some (.int .i64 (i : Nat)))]) (fun i => []) (fun i => i ≤ xs.length ∧ xs.take i = ys.take i) (fun i => xs.length - i) (0) [] rfl ⟨by omega, rfl⟩ (.c rfl (.base 0 rfl rfl)) ?_
  rintro i ⟨hi, ht⟩ ih0
  dsimp only [lcA, lnA] at ih0 ⊢
  refine XK.seq (XK.region rfl ?_)
  refine XO.q (Q.lss rfl rfl) ?_
  refine XO.done (XK.seq ?_)
  refine XK.if rfl (fun c1 => ?_) (fun c1 => ?_)
  ·skip
   refine XK.skip (XK.seq (XK.block (XK.seq (XK.region rfl (XO.q (Q.move rfl) ?_)))))
   refine XO.q (Q.assign rfl) (XO.done (XK.seq ?_))
   refine XK.drawn [0, 1, 2, 3, 4, 5, 6, 7, 8] [] [] (.q 0 (.q 1 (.q 2 (.q 3 (.q 4 (.q 5 (.q 6 (.q 7 (.q 8 .done))))))))) Tryz.mixed rfl (by kernel_rfl) ?_
   refine XT.q rfl rfl (Q.move rfl) ?_
   refine XT.q rfl rfl (Q.move rfl) ?_
   refine XT.ix rfl rfl rfl rfl (by omega) (by omega) fun i18 => ?_
   refine XT.q rfl rfl (Q.ldE rfl (by first | assumption | omega) rfl) ?_
   refine XT.q rfl rfl (Q.move rfl) ?_
   refine XT.q rfl rfl (Q.move rfl) ?_
   refine XT.ix rfl rfl rfl rfl (by omega) (by omega) fun i22 => ?_
   refine XT.q rfl rfl (Q.ldE rfl (by first | assumption | omega) rfl) ?_
   refine XT.q rfl rfl (Q.neqB rfl rfl) ?_
   refine XT.done ?_
   refine XK.if rfl (fun c2 => ?_) (fun c2 => ?_)
   ·skip
    refine XK.seq (XK.region rfl (XO.q (Q.assign rfl) (XO.done ?_)))
    refine XK.rt [] Tryz.func29 Tryz.results29 (.t rfl .n) ?_
    exact ⟨by rw [decide_eq_false (fun h => c2 (by rw [h]))], rfl⟩
   ·skip
    refine XK.skip ?_
    refine XK.inBlock ?_
    refine XK.region rfl ?_
    refine XO.q (Q.add rfl rfl ⟨by omega, by omega⟩) ?_
    refine XO.q (Q.move rfl) (XO.done ?_)
    exact ih0 (i + 1) _ _ ⟨by omega, take_step ht (by omega) (by omega) (Decidable.of_not_not c2)⟩ (by first | omega | (dsimp only; omega)) (.c rfl (.base 30 rfl rfl)) inferInstance
  ·skip
   refine XK.exit rfl ?_
   refine XK.seq (XK.region rfl (XO.q (Q.assign rfl) (XO.done ?_)))
   refine XK.rt [] Tryz.func29 Tryz.results29 (.t rfl .n) ?_
   exact ⟨by rw [decide_eq_true (take_all ht c1 (by omega))], rfl⟩
theorem equal4 (v1 v2 : Value) (h1 h2 : PHeap) (xs : List PRow) [s1 : Arr v1 encRow4 4 h1 xs] [s2 : Arr v2 encRow4 4 h2 xs] : Spec Tryz.prog 25 #[v1, v2] [] [h1, h2] (fun v hs => v = .bool true ∧ hs = []) := by
 refine Spec.intro (fn := Tryz.f25) (N := 26) Tryz.func25 rfl Tryz.ntmps25 rfl fun B => ?_
 refine XK.seq (XK.region rfl (XO.q (Q.assign rfl) (XO.done (XK.seq (XK.seq ?_)))))
 refine XK.region rfl (XO.q (Q.move rfl) ?_)
 refine XO.len rfl fun l7 => ?_
 refine XO.q (Q.move rfl) ?_
 refine XO.len rfl fun l9 => ?_
 refine XO.q (Q.neq rfl rfl) ?_
 refine XO.done ?_
 refine XK.if rfl (fun c0 => ?_) (fun c0 => ?_)
 ·skip
  simp at c0
 ·skip
  refine XK.skip (XK.seq (XK.seq (XK.region rfl (XO.q (Q.move rfl) ?_))))
  refine XO.len rfl fun l12 => ?_
  refine XO.q (Q.move rfl) (XO.done (XK.block ?_))
  refine XK.while (X := Nat) [4, 5, 13, 14, 15, 16, 17, 18, 19, 20, 21, 22, 23, 24, 25] (fun i => [(13, some (.int .i64 (i : Nat)))]) (fun i => []) (fun i => i ≤ xs.length) (fun i => xs.length - i) (0) [] rfl (by omega) (.c rfl (.base 0 rfl rfl)) ?_
  rintro i hi ih0
  dsimp only [lcA, lnA] at ih0 ⊢
  refine XK.seq (XK.region rfl ?_)
  refine XO.q (Q.lss rfl rfl) ?_
  refine XO.done (XK.seq ?_)
  refine XK.if rfl (fun c1 => ?_) (fun c1 => ?_)
  ·skip
   refine XK.skip (XK.seq (XK.block (XK.seq (XK.region rfl (XO.q (Q.move rfl) ?_)))))
   refine XO.q (Q.assign rfl) (XO.done (XK.seq ?_))
   refine XK.drawn [0, 1, 2, 3, 4, 5, 6, 7, 8] [] [] (.q 0 (.q 1 (.q 2 (.q 3 (.q 4 (.q 5 (.q 6 (.q 7 (.q 8 .done))))))))) Tryz.mixed rfl (by kernel_rfl) ?_
   refine XT.q rfl rfl (Q.move rfl) ?_
   refine XT.q rfl rfl (Q.move rfl) ?_
   refine XT.ix rfl rfl rfl rfl (by omega) (by omega) fun i18 => ?_
   refine XT.q rfl rfl (Q.ldEA [_, _, _, _] rfl (by first | assumption | omega) rfl rfl) ?_
   refine XT.q rfl rfl (Q.move rfl) ?_
   refine XT.q rfl rfl (Q.move rfl) ?_
   refine XT.ix rfl rfl rfl rfl (by omega) (by omega) fun i22 => ?_
   refine XT.q rfl rfl (Q.ldEA [_, _, _, _] rfl (by first | assumption | omega) rfl rfl) ?_
   refine XT.q rfl rfl (Q.neqQ rfl rfl rfl rfl rfl rfl inferInstance inferInstance inferInstance inferInstance (by kernel_rfl)) ?_
   refine XT.done ?_
   refine XK.if rfl (fun c2 => ?_) (fun c2 => ?_)
   ·skip
    simp at c2
   ·skip
    refine XK.skip ?_
    refine XK.inBlock ?_
    refine XK.region rfl ?_
    refine XO.q (Q.add rfl rfl ⟨by omega, by omega⟩) ?_
    refine XO.q (Q.move rfl) (XO.done ?_)
    exact ih0 (i + 1) _ _ (by omega) (by first | omega | (dsimp only; omega)) (.c rfl (.base 30 rfl rfl)) inferInstance
  ·skip
   refine XK.exit rfl ?_
   refine XK.seq (XK.region rfl (XO.q (Q.assign rfl) (XO.done ?_)))
   refine XK.rt [] Tryz.func25 Tryz.results25 (.t rfl .n) ?_
   exact ⟨rfl, rfl⟩
end Go.X

set_option linter.unusedSimpArgs false
set_option linter.unusedVariables false
set_option maxRecDepth 20000
namespace Go.X
open Go.Proofs
theorem equalRk (v1 v2 : Value) (h1 h2 : PHeap) (xs : List PRack) [s1 : Arr v1 encRack 5 h1 xs] [s2 : Arr v2 encRack 5 h2 xs] : Spec Tryz.prog 36 #[v1, v2] [] [h1, h2] (fun v hs => v = .bool true ∧ hs = []) := by
 refine Spec.intro (fn := Tryz.f36) (N := 26) Tryz.func36 rfl Tryz.ntmps36 rfl fun B => ?_
 refine XK.seq (XK.region rfl (XO.q (Q.assign rfl) (XO.done (XK.seq (XK.seq ?_)))))
 refine XK.region rfl (XO.q (Q.move rfl) ?_)
 refine XO.len rfl fun l7 => ?_
 refine XO.q (Q.move rfl) ?_
 refine XO.len rfl fun l9 => ?_
 refine XO.q (Q.neq rfl rfl) ?_
 refine XO.done ?_
 refine XK.if rfl (fun c0 => ?_) (fun c0 => ?_)
 ·skip
  simp at c0
 ·skip
  refine XK.skip (XK.seq (XK.seq (XK.region rfl (XO.q (Q.move rfl) ?_))))
  refine XO.len rfl fun l12 => ?_
  refine XO.q (Q.move rfl) (XO.done (XK.block ?_))
  refine XK.while (X := Nat) [4, 5, 13, 14, 15, 16, 17, 18, 19, 20, 21, 22, 23, 24, 25] (fun i => [(13, some (.int .i64 (i : Nat)))]) (fun i => []) (fun i => i ≤ xs.length) (fun i => xs.length - i) (0) [] rfl (by omega) (.c rfl (.base 0 rfl rfl)) ?_
  rintro i hi ih0
  dsimp only [lcA, lnA] at ih0 ⊢
  refine XK.seq (XK.region rfl ?_)
  refine XO.q (Q.lss rfl rfl) ?_
  refine XO.done (XK.seq ?_)
  refine XK.if rfl (fun c1 => ?_) (fun c1 => ?_)
  ·skip
   refine XK.skip (XK.seq (XK.block (XK.seq (XK.region rfl (XO.q (Q.move rfl) ?_)))))
   refine XO.q (Q.assign rfl) (XO.done (XK.seq ?_))
   refine XK.drawn [0, 1, 2, 3, 4, 5, 6, 7, 8] [] [] (.q 0 (.q 1 (.q 2 (.q 3 (.q 4 (.q 5 (.q 6 (.q 7 (.q 8 .done))))))))) Tryz.mixed rfl (by kernel_rfl) ?_
   refine XT.q rfl rfl (Q.move rfl) ?_
   refine XT.q rfl rfl (Q.move rfl) ?_
   refine XT.ix rfl rfl rfl rfl (by omega) (by omega) fun i18 => ?_
   refine XT.q rfl rfl (Q.ldEA [_, _, _, _, _] rfl (by first | assumption | omega) rfl rfl) ?_
   refine XT.q rfl rfl (Q.move rfl) ?_
   refine XT.q rfl rfl (Q.move rfl) ?_
   refine XT.ix rfl rfl rfl rfl (by omega) (by omega) fun i22 => ?_
   refine XT.q rfl rfl (Q.ldEA [_, _, _, _, _] rfl (by first | assumption | omega) rfl rfl) ?_
   refine XT.q rfl rfl (Q.neqSame (us := [_, _, _, _, _]) rfl rfl inferInstance (by kernel_rfl) (by kernel_rfl) (.a rfl inferInstance inferInstance inferInstance inferInstance inferInstance inferInstance rfl (.c rfl inferInstance inferInstance rfl (.c rfl inferInstance inferInstance rfl .n)))) ?_
   refine XT.done ?_
   refine XK.if rfl (fun c2 => ?_) (fun c2 => ?_)
   ·skip
    simp at c2
   ·skip
    refine XK.skip ?_
    refine XK.inBlock ?_
    refine XK.region rfl ?_
    refine XO.q (Q.add rfl rfl ⟨by omega, by omega⟩) ?_
    refine XO.q (Q.move rfl) (XO.done ?_)
    exact ih0 (i + 1) _ _ (by omega) (by first | omega | (dsimp only; omega)) (.c rfl (.base 30 rfl rfl)) inferInstance
  ·skip
   refine XK.exit rfl ?_
   refine XK.seq (XK.region rfl (XO.q (Q.assign rfl) (XO.done ?_)))
   refine XK.rt [] Tryz.func36 Tryz.results36 (.t rfl .n) ?_
   exact ⟨rfl, rfl⟩
set_option maxHeartbeats 2000000 in
theorem copied_spec (l : List (Value × PJob)) (vl : Value) (hl K : PHeap) [jl : Arr vl encPJ 6 hl l] (aL : JobsK l K) (rs : List PRack) (vr : Value) (hr : PHeap) [jr : Arr vr encRack 5 hr rs] (m : PRat) (few : l.length ≤ 1000) (sm : ∀ i, i < l.length → (l.getD i default).2.draws.length ≤ 1000) (fr : rs.length ≤ 1000) : Spec Tryz.prog 8 #[.agg #[vl, vr, .int .i64 m.n, .int .i64 m.d]] [] [hl, K, hr] (fun v hs => ∃ va vb vr1 vr2 ka kb Ka Kb kr1 kr2 a b, v = .tuple #[.agg #[va, vr1, .int .i64 m.n, .int .i64 m.d], .agg #[vb, vr2, .int .i64 m.n, .int .i64 m.d]] ∧ hs = [ka, kb, Ka, Kb, kr1, kr2] ∧ OArr va encPJ 6 41 ka a ∧ OArr vb encPJ 6 124 kb b ∧ JobsK a Ka ∧ JobsK b Kb ∧ a.map Prod.snd = (l.map Prod.snd) ∧ b.map Prod.snd = (l.map Prod.snd) ∧ OArr vr1 encRack 5 43 kr1 rs ∧ OArr vr2 encRack 5 98 kr2 rs) := by
 have nR : OArr (.slice none 0 0) encRack 5 98 emp ([] : List PRack) := OArr.nil (fun _ => rfl)
 refine Spec.intro (fn := Tryz.f8) (N := 41) Tryz.func8 rfl Tryz.ntmps8 rfl fun B => ?_
 refine XK.seq (XK.region rfl ?_)
 refine XO.box rfl fun b1 => ?_
 refine XO.alloc fun b2 => ?_
 refine XO.alloc fun b3 => ?_
 refine XO.done (XK.seq ?_)
 refine XK.drawn [0, 1, 3, 4, 5] [b1] [] (.q 0 (.q 1 (.q 3 (.q 4 (.br 2 true (.q 5 (.br 6 true (.br 7 false .done .stop) .stop)) (.br 6 true (.br 2 true (.q 5 (.br 7 false .done .stop)) .stop) .stop)))))) Tryz.mixed rfl (by kernel_rfl) ?_
 refine XT.q rfl rfl (Q.fieldAddr rfl) ?_
 refine XT.q rfl rfl (Q.ld rfl rfl) ?_
 refine XT.q rfl rfl (Q.fieldAddr rfl) ?_
 refine XT.q rfl rfl (Q.ldA [_, _] rfl rfl rfl) ?_
 refine XT.call rfl rfl Tryz.call40 rfl rfl rfl (cloneRk vr hr rs (by omega)) (fun v10 s10 R10 => ?_) ?_
 ·skip
  obtain ⟨k10, rfl, O10⟩ := R10
  dsimp only [lcA, lnA]
  refine ⟨inferInstance, ?_⟩
  refine XT.q rfl rfl (Q.build [_, _, _, _] (.c 1 1 rfl rfl rfl (.c 2 2 rfl rfl rfl (.n _)))) ?_
  refine XT.alloc rfl rfl (fun b4 => ⟨inferInstance, ?_⟩) XT.stop
  refine XT.st rfl rfl rfl rfl rfl ⟨inferInstance, ?_⟩ XT.stop
  refine XT.done ?_
  refine XK.seq (XK.region rfl ?_)
  refine XO.q (Q.fieldAddr rfl) ?_
  refine XO.q (Q.ldA [_, _] rfl rfl rfl) ?_
  refine XO.q (Q.build [_, _, _, _] (.c 2 2 rfl rfl rfl (.n _))) ?_
  refine XO.alloc fun b5 => ?_
  refine XO.st rfl rfl rfl ?_
  refine XO.done (XK.seq (XK.region rfl ?_))
  refine XO.q (Q.fieldAddr rfl) ?_
  refine XO.q (Q.ld rfl rfl) ?_
  refine XO.call Tryz.call41 rfl rfl rfl (jobs_spec l vl hl K aL few sm) fun v20 s20 R20 => ?_
  obtain ⟨va, vb, ka, kb, Ka, Kb, a, b, rfl, rfl, OA, OB, JA, JB, ea, eb⟩ := R20
  dsimp only [lcA, lnA]
  refine XO.q (Q.move rfl) ?_
  refine XO.q (Q.extract rfl rfl) ?_
  refine XO.q (Q.extract rfl rfl) ?_
  refine XO.q (Q.fieldAddr rfl) ?_
  refine XO.st rfl rfl rfl ?_
  refine XO.q (Q.fieldAddr rfl) ?_
  refine XO.st rfl rfl rfl ?_
  refine XO.done (XK.seq (XK.seq (XK.region rfl ?_)))
  refine XO.q (Q.fieldAddr rfl) ?_
  refine XO.q (Q.ld rfl rfl) ?_
  refine XO.len rfl fun l27 => ?_
  refine XO.q (Q.move rfl) (XO.done (XK.block ?_))
  refine XK.while (X := Nat × Value × PHeap) [7, 28, 29, 30, 31, 32, 33, 34, 35, 36, 37, 38] (fun ⟨i, vr2, kr2⟩ => [(28, some (.int .i64 (i : Nat)))]) (fun ⟨i, vr2, kr2⟩ => [blk b5 [vb, vr2, .int .i64 m.n, .int .i64 m.d] 47, kr2]) (fun ⟨i, vr2, kr2⟩ => i ≤ rs.length ∧ OArr vr2 encRack 5 98 kr2 (rs.take i)) (fun ⟨i, vr2, kr2⟩ => rs.length - i) (0, .slice none 0 0, emp) [blk b5 [vb, .slice none 0 0, .int .i64 m.n, .int .i64 m.d] 47, emp] rfl ⟨by omega, by rw [List.take_zero]; exact nR⟩ (.c rfl (.base 0 rfl rfl)) ?_
  rintro ⟨i, vr2, kr2⟩ ⟨hi, OR2⟩ ih0
  dsimp only [lcA, lnA] at ih0 ⊢
  refine XK.seq (XK.region rfl ?_)
  refine XO.q (Q.lss rfl rfl) ?_
  refine XO.done (XK.seq ?_)
  refine XK.if rfl (fun c0 => ?_) (fun c0 => ?_)
  ·skip
   refine XK.skip (XK.seq (XK.block (XK.seq (XK.region rfl ?_))))
   refine XO.ix rfl rfl (by omega) (by omega) fun i30 => ?_
   refine XO.q (Q.ldEA [_, _, _, _, _] rfl (by first | assumption | omega) rfl rfl) ?_
   refine XO.alloc fun b7 => ?_
   refine XO.st rfl rfl rfl ?_
   refine XO.done (XK.region rfl ?_)
   refine XO.q (Q.fieldAddr rfl) ?_
   refine XO.q (Q.ld rfl rfl) ?_
   refine XO.q (Q.ldA [_, _, _, _, _] rfl rfl rfl) ?_
   refine XO.lit [_, _, _, _, _] [_, _, _, _, _] [rs.getD i default] encRack (by rfl) (by rfl) rfl (by rfl) (by exact .c 0 5 rfl rfl rfl (.n _)) (fun _ => rfl) (by rfl) rfl (by infer_instance) rfl fun v35 h35 O35 => ?_
   refine XO.append rfl rfl rfl rfl (by simp only [List.length_take, List.length_cons, List.length_nil]; omega) fun v36 h36 O36 => ?_
   refine XO.q (Q.fieldAddr rfl) ?_
   refine XO.st rfl rfl rfl ?_
   refine XO.done ?_
   refine XK.inBlock ?_
   refine XK.region rfl ?_
   refine XO.q (Q.add rfl rfl ⟨by omega, by omega⟩) ?_
   refine XO.q (Q.move rfl) (XO.done ?_)
   exact ih0 (i + 1, v36, h36) _ _ ⟨by dsimp only; omega, by dsimp only; rw [take_snocP (by omega)]; exact O36⟩ (by first | omega | (dsimp only; omega)) (.c rfl (.base 25 rfl rfl)) inferInstance
  ·skip
   have hin : i = rs.length := by omega
   subst hin
   rw [List.take_length] at OR2
   refine XK.exit rfl ?_
   refine XK.seq ?_
   refine XK.drawn [0, 1] [b4, b5] [] (.q 0 (.q 1 (.br 2 true (.br 3 false .done .stop) .stop))) Tryz.mixed rfl (by kernel_rfl) ?_
   refine XT.q rfl rfl (Q.ldA [_, _, _, _] rfl rfl rfl) ?_
   refine XT.q rfl rfl (Q.ldA [_, _, _, _] rfl rfl rfl) ?_
   refine XT.st rfl rfl rfl rfl rfl ⟨inferInstance, ?_⟩ XT.stop
   refine XT.st rfl rfl rfl rfl rfl ⟨inferInstance, ?_⟩ XT.stop
   refine XT.done ?_
   refine XK.rt [ka, kb, Ka, Kb, k10, kr2] Tryz.func8 Tryz.results8 (.cell [_, _, _, _] rfl rfl rfl (.cell [_, _, _, _] rfl rfl rfl (.n))) ?_
   exact ⟨va, vb, v10, vr2, ka, kb, Ka, Kb, k10, kr2, a, b, rfl, rfl, OA, OB, JA, JB, ea, eb, O10, OR2⟩
 ·skip
  refine XT.alloc rfl rfl (fun b4 => ⟨inferInstance, ?_⟩) XT.stop
  refine XT.call rfl rfl Tryz.call40 rfl rfl rfl (cloneRk vr hr rs (by omega)) (fun v10 s10 R10 => ?_) XT.stop
  obtain ⟨k10, rfl, O10⟩ := R10
  dsimp only [lcA, lnA]
  refine ⟨inferInstance, ?_⟩
  refine XT.q rfl rfl (Q.build [_, _, _, _] (.c 1 1 rfl rfl rfl (.c 2 2 rfl rfl rfl (.n _)))) ?_
  refine XT.st rfl rfl rfl rfl rfl ⟨inferInstance, ?_⟩ XT.stop
  refine XT.done ?_
  refine XK.seq (XK.region rfl ?_)
  refine XO.q (Q.fieldAddr rfl) ?_
  refine XO.q (Q.ldA [_, _] rfl rfl rfl) ?_
  refine XO.q (Q.build [_, _, _, _] (.c 2 2 rfl rfl rfl (.n _))) ?_
  refine XO.alloc fun b5 => ?_
  refine XO.st rfl rfl rfl ?_
  refine XO.done (XK.seq (XK.region rfl ?_))
  refine XO.q (Q.fieldAddr rfl) ?_
  refine XO.q (Q.ld rfl rfl) ?_
  refine XO.call Tryz.call41 rfl rfl rfl (jobs_spec l vl hl K aL few sm) fun v20 s20 R20 => ?_
  obtain ⟨va, vb, ka, kb, Ka, Kb, a, b, rfl, rfl, OA, OB, JA, JB, ea, eb⟩ := R20
  dsimp only [lcA, lnA]
  refine XO.q (Q.move rfl) ?_
  refine XO.q (Q.extract rfl rfl) ?_
  refine XO.q (Q.extract rfl rfl) ?_
  refine XO.q (Q.fieldAddr rfl) ?_
  refine XO.st rfl rfl rfl ?_
  refine XO.q (Q.fieldAddr rfl) ?_
  refine XO.st rfl rfl rfl ?_
  refine XO.done (XK.seq (XK.seq (XK.region rfl ?_)))
  refine XO.q (Q.fieldAddr rfl) ?_
  refine XO.q (Q.ld rfl rfl) ?_
  refine XO.len rfl fun l27 => ?_
  refine XO.q (Q.move rfl) (XO.done (XK.block ?_))
  refine XK.while (X := Nat × Value × PHeap) [7, 28, 29, 30, 31, 32, 33, 34, 35, 36, 37, 38] (fun ⟨i, vr2, kr2⟩ => [(28, some (.int .i64 (i : Nat)))]) (fun ⟨i, vr2, kr2⟩ => [blk b5 [vb, vr2, .int .i64 m.n, .int .i64 m.d] 47, kr2]) (fun ⟨i, vr2, kr2⟩ => i ≤ rs.length ∧ OArr vr2 encRack 5 98 kr2 (rs.take i)) (fun ⟨i, vr2, kr2⟩ => rs.length - i) (0, .slice none 0 0, emp) [blk b5 [vb, .slice none 0 0, .int .i64 m.n, .int .i64 m.d] 47, emp] rfl ⟨by omega, by rw [List.take_zero]; exact nR⟩ (.c rfl (.base 0 rfl rfl)) ?_
  rintro ⟨i, vr2, kr2⟩ ⟨hi, OR2⟩ ih1
  dsimp only [lcA, lnA] at ih1 ⊢
  refine XK.seq (XK.region rfl ?_)
  refine XO.q (Q.lss rfl rfl) ?_
  refine XO.done (XK.seq ?_)
  refine XK.if rfl (fun c1 => ?_) (fun c1 => ?_)
  ·skip
   refine XK.skip (XK.seq (XK.block (XK.seq (XK.region rfl ?_))))
   refine XO.ix rfl rfl (by omega) (by omega) fun i30 => ?_
   refine XO.q (Q.ldEA [_, _, _, _, _] rfl (by first | assumption | omega) rfl rfl) ?_
   refine XO.alloc fun b7 => ?_
   refine XO.st rfl rfl rfl ?_
   refine XO.done (XK.region rfl ?_)
   refine XO.q (Q.fieldAddr rfl) ?_
   refine XO.q (Q.ld rfl rfl) ?_
   refine XO.q (Q.ldA [_, _, _, _, _] rfl rfl rfl) ?_
   refine XO.lit [_, _, _, _, _] [_, _, _, _, _] [rs.getD i default] encRack (by rfl) (by rfl) rfl (by rfl) (by exact .c 0 5 rfl rfl rfl (.n _)) (fun _ => rfl) (by rfl) rfl (by infer_instance) rfl fun v35 h35 O35 => ?_
   refine XO.append rfl rfl rfl rfl (by simp only [List.length_take, List.length_cons, List.length_nil]; omega) fun v36 h36 O36 => ?_
   refine XO.q (Q.fieldAddr rfl) ?_
   refine XO.st rfl rfl rfl ?_
   refine XO.done ?_
   refine XK.inBlock ?_
   refine XK.region rfl ?_
   refine XO.q (Q.add rfl rfl ⟨by omega, by omega⟩) ?_
   refine XO.q (Q.move rfl) (XO.done ?_)
   exact ih1 (i + 1, v36, h36) _ _ ⟨by dsimp only; omega, by dsimp only; rw [take_snocP (by omega)]; exact O36⟩ (by first | omega | (dsimp only; omega)) (.c rfl (.base 25 rfl rfl)) inferInstance
  ·skip
   have hin : i = rs.length := by omega
   subst hin
   rw [List.take_length] at OR2
   refine XK.exit rfl ?_
   refine XK.seq ?_
   refine XK.drawn [0, 1] [b4, b5] [] (.q 0 (.q 1 (.br 2 true (.br 3 false .done .stop) .stop))) Tryz.mixed rfl (by kernel_rfl) ?_
   refine XT.q rfl rfl (Q.ldA [_, _, _, _] rfl rfl rfl) ?_
   refine XT.q rfl rfl (Q.ldA [_, _, _, _] rfl rfl rfl) ?_
   refine XT.st rfl rfl rfl rfl rfl ⟨inferInstance, ?_⟩ XT.stop
   refine XT.st rfl rfl rfl rfl rfl ⟨inferInstance, ?_⟩ XT.stop
   refine XT.done ?_
   refine XK.rt [ka, kb, Ka, Kb, k10, kr2] Tryz.func8 Tryz.results8 (.cell [_, _, _, _] rfl rfl rfl (.cell [_, _, _, _] rfl rfl rfl (.n))) ?_
   exact ⟨va, vb, v10, vr2, ka, kb, Ka, Kb, k10, kr2, a, b, rfl, rfl, OA, OB, JA, JB, ea, eb, O10, OR2⟩
end Go.X

set_option linter.unusedSimpArgs false
set_option linter.unusedVariables false
set_option maxRecDepth 20000
namespace Go.X
open Go.Proofs
theorem u64_nat (n : Int) : ∃ u : Nat, IntKind.u64.wrap n = (u : Int) ∧ u < 18446744073709551616 := by
 refine ⟨(n % 18446744073709551616).toNat, ?_, by omega⟩
 have h := Int.emod_nonneg n (show (18446744073709551616 : Int) ≠ 0 by decide)
 rw [show (((n % 18446744073709551616).toNat : Nat) : Int) = n % 18446744073709551616 by omega]
 simp [IntKind.wrap, IntKind.bits, IntKind.signed]

set_option maxHeartbeats 2000000 in
theorem changed_spec (w : List Int) (vw : Value) (hw : PHeap) [jw : Arr vw encI 1 hw w] (p : List Bool) (vP : Value) (hP : PHeap) [jP : Arr vP encB 1 hP p] (W n1 n2 : Int) (hW : -1000000000000 ≤ W ∧ W ≤ 1000000000000) (fw : w.length ≤ 1000000) (fp : p.length ≤ 100000000) : Spec Tryz.prog 30 #[.agg #[vw, .int .i64 W, vP], .int .i64 n1, .int .i64 n2] [] [hw, hP] (fun v hs => ∃ vW2 vP2 kW kP W2 p2, v = .agg #[vW2, .int .i64 W2, vP2] ∧ hs = [kW, kP] ∧ OArr vW2 encI 1 3 kW w ∧ OArr vP2 encB 1 4 kP p2 ∧ (W - 1 ≤ W2 ∧ W2 ≤ W + 1) ∧ p2.length ≤ p.length + 1) := by
 refine Spec.intro (fn := Tryz.f30) (N := 75) Tryz.func30 rfl Tryz.ntmps30 rfl fun B => ?_
 refine XK.seq (XK.region rfl ?_)
 refine XO.box rfl fun b3 => ?_
 refine XO.alloc fun b6 => ?_
 refine XO.done (XK.seq ?_)
 refine XK.drawn [0, 3, 6, 8] [] [] (.q 0 (.q 3 (.br 1 true (.br 2 true (.br 4 true (.q 6 (.br 5 true (.br 7 true (.q 8 (.br 9 false .done .stop)) .stop) .stop)) .stop) (.br 4 true (.br 2 true (.q 6 (.br 5 true (.br 7 true (.q 8 (.br 9 false .done .stop)) .stop) .stop)) .stop) .stop)) (.br 4 true (.br 1 true (.br 2 true (.q 6 (.br 5 true (.br 7 true (.q 8 (.br 9 false .done .stop)) .stop) .stop)) .stop) .stop) .stop)))) Tryz.mixed rfl (by kernel_rfl) ?_
 refine XT.q rfl rfl (Q.fieldAddr rfl) ?_
 refine XT.q rfl rfl (Q.fieldAddr rfl) ?_
 refine XT.qs rfl rfl (Q.ld rfl rfl) ⟨inferInstance, ?_⟩ ?_
 ·skip
  refine XT.call rfl rfl Tryz.call31 rfl rfl rfl (cloneI vw hw w (by omega)) (fun v10 s10 R10 => ?_) ?_
  ·skip
   obtain ⟨k10, rfl, O10⟩ := R10
   dsimp only [lcA, lnA]
   refine ⟨inferInstance, ?_⟩
   refine XT.qs rfl rfl (Q.ld rfl rfl) ⟨inferInstance, ?_⟩ XT.stop
   refine XT.q rfl rfl (Q.fieldAddr rfl) ?_
   refine XT.call rfl rfl Tryz.call32 rfl rfl rfl (cloneB vP hP p (by omega)) (fun v13 s13 R13 => ?_) XT.stop
   obtain ⟨k13, rfl, O13⟩ := R13
   dsimp only [lcA, lnA]
   refine ⟨inferInstance, ?_⟩
   refine XT.st rfl rfl rfl rfl rfl ⟨inferInstance, ?_⟩ XT.stop
   refine XT.q rfl rfl (Q.fieldAddr rfl) ?_
   refine XT.st rfl rfl rfl rfl rfl ⟨inferInstance, ?_⟩ XT.stop
   refine XT.done ?_
   refine XK.seq (XK.region rfl (XO.q (Q.assign rfl) (XO.done (XK.seq (XK.seq ?_)))))
   refine XK.region rfl ?_
   refine XO.q (Q.fieldAddr rfl) ?_
   refine XO.q (Q.ld rfl rfl) ?_
   refine XO.len rfl fun l18 => ?_
   refine XO.q (Q.gtr rfl rfl) ?_
   refine XO.done ?_
   refine XK.meet (X := Nat) [7, 20, 21, 22, 23, 24, 25, 26, 27] (fun k => [(7, some (.int .i64 (k : Nat)))]) (fun k => []) (fun k => k ≤ p.length ∧ (0 < p.length → k < p.length)) [] ?_ ?_
   ·rintro k ⟨k1, k2⟩
    dsimp only [lcA, lnA]
    refine XK.seq (XK.seq (XK.region rfl (XO.q (Q.move rfl) ?_)))
    refine XO.q (Q.conv rfl) ?_
    obtain ⟨u2, eu2, hu2⟩ := u64_nat n2
    rw [eu2]
    refine XO.q (Q.rem rfl rfl (by omega) (by omega)) ?_
    refine XO.done (XK.block (XK.seq (XK.region rfl ?_)))
    refine XO.q (Q.eql rfl rfl) ?_
    refine XO.q (Q.assign rfl) (XO.done ?_)
    refine XK.if rfl (fun c1 => ?_) (fun c1 => ?_)
    ·skip
     refine XK.region rfl ?_
     refine XO.q (Q.fieldAddr rfl) ?_
     refine XO.q (Q.ld rfl rfl) ?_
     refine XO.q (Q.add rfl rfl ⟨by omega, by omega⟩) ?_
     refine XO.q (Q.fieldAddr rfl) ?_
     refine XO.st rfl rfl rfl ?_
     refine XO.done ?_
     refine XK.inBlock ?_
     refine XK.seq (XK.region rfl ?_)
     refine XO.q (Q.ldA [_, _, _] rfl rfl rfl) ?_
     refine XO.st rfl rfl rfl ?_
     refine XO.done ?_
     refine XK.rt [k10, k13] Tryz.func30 Tryz.results30 (.cell [_, _, _] rfl rfl rfl (.n)) ?_
     exact ⟨v10, v13, k10, k13, W + 1, p, rfl, rfl, O10, O13, by omega, by (try simp only [List.length_set, List.length_take, List.length_append, List.length_cons, List.length_nil]); omega⟩
    ·skip
     refine XK.seq (XK.region rfl ?_)
     refine XO.q (Q.eql rfl rfl) ?_
     refine XO.q (Q.assign rfl) (XO.done ?_)
     refine XK.if rfl (fun c2 => ?_) (fun c2 => ?_)
     ·skip
      refine XK.region rfl ?_
      refine XO.q (Q.fieldAddr rfl) ?_
      refine XO.q (Q.ld rfl rfl) ?_
      refine XO.q (Q.sub rfl rfl ⟨by omega, by omega⟩) ?_
      refine XO.q (Q.fieldAddr rfl) ?_
      refine XO.st rfl rfl rfl ?_
      refine XO.done ?_
      refine XK.inBlock ?_
      refine XK.seq (XK.region rfl ?_)
      refine XO.q (Q.ldA [_, _, _] rfl rfl rfl) ?_
      refine XO.st rfl rfl rfl ?_
      refine XO.done ?_
      refine XK.rt [k10, k13] Tryz.func30 Tryz.results30 (.cell [_, _, _] rfl rfl rfl (.n)) ?_
      exact ⟨v10, v13, k10, k13, W - 1, p, rfl, rfl, O10, O13, by omega, by (try simp only [List.length_set, List.length_take, List.length_append, List.length_cons, List.length_nil]); omega⟩
     ·skip
      refine XK.seq (XK.region rfl ?_)
      refine XO.q (Q.eql rfl rfl) ?_
      refine XO.q (Q.assign rfl) (XO.done ?_)
      refine XK.if rfl (fun c3 => ?_) (fun c3 => ?_)
      ·skip
       refine XK.seq (XK.region rfl ?_)
       refine XO.q (Q.fieldAddr rfl) ?_
       refine XO.q (Q.ld rfl rfl) ?_
       refine XO.len rfl fun l55 => ?_
       refine XO.q (Q.gtr rfl rfl) ?_
       refine XO.done ?_
       refine XK.if rfl (fun c4 => ?_) (fun c4 => ?_)
       ·skip
        refine XK.drawn [0, 1, 2, 3, 4, 5, 6, 8, 9] [b3] [] (.q 0 (.q 1 (.q 2 (.q 3 (.q 4 (.q 5 (.q 6 (.br 7 true (.q 8 (.q 9 (.br 10 false .done .stop))) .stop)))))))) Tryz.mixed rfl (by kernel_rfl) ?_
        refine XT.q rfl rfl (Q.fieldAddr rfl) ?_
        refine XT.q rfl rfl (Q.ld rfl rfl) ?_
        refine XT.q rfl rfl (Q.move rfl) ?_
        refine XT.q rfl rfl (Q.fieldAddr rfl) ?_
        refine XT.q rfl rfl (Q.ld rfl rfl) ?_
        refine XT.q rfl rfl (Q.move rfl) ?_
        refine XT.ix rfl rfl rfl rfl (by omega) (by omega) fun i63 => ?_
        refine XT.qs rfl rfl (Q.ldE rfl (by first | assumption | omega) rfl) ⟨inferInstance, ?_⟩ XT.stop
        refine XT.q rfl rfl (Q.not rfl) ?_
        refine XT.ix rfl rfl rfl rfl (by omega) (by omega) fun i66 => ?_
        refine XT.stE (!p.getD k default) rfl rfl rfl rfl rfl (by assumption) rfl rfl (fun h13_10 O13_10 => ⟨inferInstance, ?_⟩) XT.stop
        refine XT.done ?_
        refine XK.inBlock ?_
        refine XK.seq (XK.region rfl ?_)
        refine XO.q (Q.ldA [_, _, _] rfl rfl rfl) ?_
        refine XO.st rfl rfl rfl ?_
        refine XO.done ?_
        refine XK.rt [k10, h13_10] Tryz.func30 Tryz.results30 (.cell [_, _, _] rfl rfl rfl (.n)) ?_
        exact ⟨v10, v13, k10, h13_10, W, _, rfl, rfl, O10, O13_10, by omega, by (try simp only [List.length_set, List.length_take, List.length_append, List.length_cons, List.length_nil]); omega⟩
       ·skip
        refine XK.skip ?_
        refine XK.inBlock ?_
        refine XK.seq (XK.region rfl ?_)
        refine XO.q (Q.ldA [_, _, _] rfl rfl rfl) ?_
        refine XO.st rfl rfl rfl ?_
        refine XO.done ?_
        refine XK.rt [k10, k13] Tryz.func30 Tryz.results30 (.cell [_, _, _] rfl rfl rfl (.n)) ?_
        exact ⟨v10, v13, k10, k13, W, p, rfl, rfl, O10, O13, by omega, by (try simp only [List.length_set, List.length_take, List.length_append, List.length_cons, List.length_nil]); omega⟩
      ·skip
       refine XK.seq (XK.region rfl ?_)
       refine XO.q (Q.eql rfl rfl) ?_
       refine XO.q (Q.assign rfl) (XO.done ?_)
       refine XK.if rfl (fun c5 => ?_) (fun c5 => ?_)
       ·skip
        refine XK.region rfl ?_
        refine XO.q (Q.fieldAddr rfl) ?_
        refine XO.q (Q.ld rfl rfl) ?_
        refine XO.q (Q.move rfl) ?_
        refine XO.q (Q.cut (i := 0) (j := k) rfl .n (.s rfl (by omega)) (by omega) (by omega)) ?_
        have ac := OArr.short (s := O13) (j := k) (by omega)
        refine XO.q (Q.fieldAddr rfl) ?_
        refine XO.st rfl rfl rfl ?_
        refine XO.done ?_
        refine XK.inBlock ?_
        refine XK.seq (XK.region rfl ?_)
        refine XO.q (Q.ldA [_, _, _] rfl rfl rfl) ?_
        refine XO.st rfl rfl rfl ?_
        refine XO.done ?_
        refine XK.rt [k10, k13] Tryz.func30 Tryz.results30 (.cell [_, _, _] rfl rfl rfl (.n)) ?_
        exact ⟨v10, (cutv v13 1 0 k), k10, k13, W, _, rfl, rfl, O10, (OArr.short (s := O13) (by omega)), by omega, by (try simp only [List.length_set, List.length_take, List.length_append, List.length_cons, List.length_nil]); omega⟩
       ·skip
        refine XK.region rfl ?_
        refine XO.q (Q.fieldAddr rfl) ?_
        refine XO.q (Q.ld rfl rfl) ?_
        refine XO.q (Q.move rfl) ?_
        refine XO.q (Q.rem rfl rfl (by omega) (by omega)) ?_
        refine XO.q (Q.eql rfl rfl) ?_
        refine XO.lit [_] [_] [decide ((k : Int) % 2 = 0)] encB (by rfl) (by rfl) rfl (by rfl) (by exact .c 0 1 rfl rfl rfl (.n _)) (fun _ => rfl) (by rfl) rfl (by infer_instance) rfl fun v36 h36 O36 => ?_
        refine XO.append rfl rfl rfl rfl (by simp only [List.length_cons, List.length_nil]; omega) fun v37 h37 O37 => ?_
        refine XO.q (Q.fieldAddr rfl) ?_
        refine XO.st rfl rfl rfl ?_
        refine XO.done ?_
        refine XK.inBlock ?_
        refine XK.seq (XK.region rfl ?_)
        refine XO.q (Q.ldA [_, _, _] rfl rfl rfl) ?_
        refine XO.st rfl rfl rfl ?_
        refine XO.done ?_
        refine XK.rt [k10, h37] Tryz.func30 Tryz.results30 (.cell [_, _, _] rfl rfl rfl (.n)) ?_
        exact ⟨v10, v37, k10, h37, W, _, rfl, rfl, O10, O37, by omega, by (try simp only [List.length_set, List.length_take, List.length_append, List.length_cons, List.length_nil]); omega⟩
   ·intro mt0
    dsimp only [lcA, lnA] at mt0
    refine XK.if rfl (fun c0 => ?_) (fun c0 => ?_)
    ·skip
     refine XK.region rfl (XO.q (Q.move rfl) ?_)
     refine XO.q (Q.conv rfl) ?_
     obtain ⟨u1, eu1, hu1⟩ := u64_nat n1
     rw [eu1]
     refine XO.q (Q.fieldAddr rfl) ?_
     refine XO.q (Q.ld rfl rfl) ?_
     refine XO.len rfl fun l24 => ?_
     refine XO.q (Q.conv rfl) ?_
     rw [show IntKind.u64.wrap ((p.length : Nat) : Int) = (p.length : Nat) from wrapu64 (by omega)]
     refine XO.q (Q.rem rfl rfl (by omega) (by omega)) ?_
     rw [show (u1 : Int) % (p.length : Int) = ((u1 % p.length : Nat) : Int) from rfl]
     have hk := Nat.mod_lt u1 (show 0 < p.length by omega)
     refine XO.q (Q.conv rfl) ?_
     rw [wrap64_of ⟨by omega, by omega⟩]
     refine XO.q (Q.assign rfl) (XO.done ?_)
     exact mt0 (u1 % p.length) _ _ ⟨by omega, fun _ => hk⟩ (.c rfl (.base 9 rfl rfl)) inferInstance
    ·skip
     refine XK.skip ?_
     exact mt0 (0) _ _ ⟨by omega, fun h => absurd h (by omega)⟩ (.c rfl (.base 0 rfl rfl)) inferInstance
  ·skip
   refine XT.qs rfl rfl (Q.ld rfl rfl) ⟨inferInstance, ?_⟩ XT.stop
   refine XT.call rfl rfl Tryz.call31 rfl rfl rfl (cloneI vw hw w (by omega)) (fun v10 s10 R10 => ?_) XT.stop
   obtain ⟨k10, rfl, O10⟩ := R10
   dsimp only [lcA, lnA]
   refine ⟨inferInstance, ?_⟩
   refine XT.q rfl rfl (Q.fieldAddr rfl) ?_
   refine XT.call rfl rfl Tryz.call32 rfl rfl rfl (cloneB vP hP p (by omega)) (fun v13 s13 R13 => ?_) XT.stop
   obtain ⟨k13, rfl, O13⟩ := R13
   dsimp only [lcA, lnA]
   refine ⟨inferInstance, ?_⟩
   refine XT.st rfl rfl rfl rfl rfl ⟨inferInstance, ?_⟩ XT.stop
   refine XT.q rfl rfl (Q.fieldAddr rfl) ?_
   refine XT.st rfl rfl rfl rfl rfl ⟨inferInstance, ?_⟩ XT.stop
   refine XT.done ?_
   refine XK.seq (XK.region rfl (XO.q (Q.assign rfl) (XO.done (XK.seq (XK.seq ?_)))))
   refine XK.region rfl ?_
   refine XO.q (Q.fieldAddr rfl) ?_
   refine XO.q (Q.ld rfl rfl) ?_
   refine XO.len rfl fun l18 => ?_
   refine XO.q (Q.gtr rfl rfl) ?_
   refine XO.done ?_
   refine XK.meet (X := Nat) [7, 20, 21, 22, 23, 24, 25, 26, 27] (fun k => [(7, some (.int .i64 (k : Nat)))]) (fun k => []) (fun k => k ≤ p.length ∧ (0 < p.length → k < p.length)) [] ?_ ?_
   ·rintro k ⟨k1, k2⟩
    dsimp only [lcA, lnA]
    refine XK.seq (XK.seq (XK.region rfl (XO.q (Q.move rfl) ?_)))
    refine XO.q (Q.conv rfl) ?_
    obtain ⟨u2, eu2, hu2⟩ := u64_nat n2
    rw [eu2]
    refine XO.q (Q.rem rfl rfl (by omega) (by omega)) ?_
    refine XO.done (XK.block (XK.seq (XK.region rfl ?_)))
    refine XO.q (Q.eql rfl rfl) ?_
    refine XO.q (Q.assign rfl) (XO.done ?_)
    refine XK.if rfl (fun c7 => ?_) (fun c7 => ?_)
    ·skip
     refine XK.region rfl ?_
     refine XO.q (Q.fieldAddr rfl) ?_
     refine XO.q (Q.ld rfl rfl) ?_
     refine XO.q (Q.add rfl rfl ⟨by omega, by omega⟩) ?_
     refine XO.q (Q.fieldAddr rfl) ?_
     refine XO.st rfl rfl rfl ?_
     refine XO.done ?_
     refine XK.inBlock ?_
     refine XK.seq (XK.region rfl ?_)
     refine XO.q (Q.ldA [_, _, _] rfl rfl rfl) ?_
     refine XO.st rfl rfl rfl ?_
     refine XO.done ?_
     refine XK.rt [k10, k13] Tryz.func30 Tryz.results30 (.cell [_, _, _] rfl rfl rfl (.n)) ?_
     exact ⟨v10, v13, k10, k13, W + 1, p, rfl, rfl, O10, O13, by omega, by (try simp only [List.length_set, List.length_take, List.length_append, List.length_cons, List.length_nil]); omega⟩
    ·skip
     refine XK.seq (XK.region rfl ?_)
     refine XO.q (Q.eql rfl rfl) ?_
     refine XO.q (Q.assign rfl) (XO.done ?_)
     refine XK.if rfl (fun c8 => ?_) (fun c8 => ?_)
     ·skip
      refine XK.region rfl ?_
      refine XO.q (Q.fieldAddr rfl) ?_
      refine XO.q (Q.ld rfl rfl) ?_
      refine XO.q (Q.sub rfl rfl ⟨by omega, by omega⟩) ?_
      refine XO.q (Q.fieldAddr rfl) ?_
      refine XO.st rfl rfl rfl ?_
      refine XO.done ?_
      refine XK.inBlock ?_
      refine XK.seq (XK.region rfl ?_)
      refine XO.q (Q.ldA [_, _, _] rfl rfl rfl) ?_
      refine XO.st rfl rfl rfl ?_
      refine XO.done ?_
      refine XK.rt [k10, k13] Tryz.func30 Tryz.results30 (.cell [_, _, _] rfl rfl rfl (.n)) ?_
      exact ⟨v10, v13, k10, k13, W - 1, p, rfl, rfl, O10, O13, by omega, by (try simp only [List.length_set, List.length_take, List.length_append, List.length_cons, List.length_nil]); omega⟩
     ·skip
      refine XK.seq (XK.region rfl ?_)
      refine XO.q (Q.eql rfl rfl) ?_
      refine XO.q (Q.assign rfl) (XO.done ?_)
      refine XK.if rfl (fun c9 => ?_) (fun c9 => ?_)
      ·skip
       refine XK.seq (XK.region rfl ?_)
       refine XO.q (Q.fieldAddr rfl) ?_
       refine XO.q (Q.ld rfl rfl) ?_
       refine XO.len rfl fun l55 => ?_
       refine XO.q (Q.gtr rfl rfl) ?_
       refine XO.done ?_
       refine XK.if rfl (fun c10 => ?_) (fun c10 => ?_)
       ·skip
        refine XK.drawn [0, 1, 2, 3, 4, 5, 6, 8, 9] [b3] [] (.q 0 (.q 1 (.q 2 (.q 3 (.q 4 (.q 5 (.q 6 (.br 7 true (.q 8 (.q 9 (.br 10 false .done .stop))) .stop)))))))) Tryz.mixed rfl (by kernel_rfl) ?_
        refine XT.q rfl rfl (Q.fieldAddr rfl) ?_
        refine XT.q rfl rfl (Q.ld rfl rfl) ?_
        refine XT.q rfl rfl (Q.move rfl) ?_
        refine XT.q rfl rfl (Q.fieldAddr rfl) ?_
        refine XT.q rfl rfl (Q.ld rfl rfl) ?_
        refine XT.q rfl rfl (Q.move rfl) ?_
        refine XT.ix rfl rfl rfl rfl (by omega) (by omega) fun i63 => ?_
        refine XT.qs rfl rfl (Q.ldE rfl (by first | assumption | omega) rfl) ⟨inferInstance, ?_⟩ XT.stop
        refine XT.q rfl rfl (Q.not rfl) ?_
        refine XT.ix rfl rfl rfl rfl (by omega) (by omega) fun i66 => ?_
        refine XT.stE (!p.getD k default) rfl rfl rfl rfl rfl (by assumption) rfl rfl (fun h13_10 O13_10 => ⟨inferInstance, ?_⟩) XT.stop
        refine XT.done ?_
        refine XK.inBlock ?_
        refine XK.seq (XK.region rfl ?_)
        refine XO.q (Q.ldA [_, _, _] rfl rfl rfl) ?_
        refine XO.st rfl rfl rfl ?_
        refine XO.done ?_
        refine XK.rt [k10, h13_10] Tryz.func30 Tryz.results30 (.cell [_, _, _] rfl rfl rfl (.n)) ?_
        exact ⟨v10, v13, k10, h13_10, W, _, rfl, rfl, O10, O13_10, by omega, by (try simp only [List.length_set, List.length_take, List.length_append, List.length_cons, List.length_nil]); omega⟩
       ·skip
        refine XK.skip ?_
        refine XK.inBlock ?_
        refine XK.seq (XK.region rfl ?_)
        refine XO.q (Q.ldA [_, _, _] rfl rfl rfl) ?_
        refine XO.st rfl rfl rfl ?_
        refine XO.done ?_
        refine XK.rt [k10, k13] Tryz.func30 Tryz.results30 (.cell [_, _, _] rfl rfl rfl (.n)) ?_
        exact ⟨v10, v13, k10, k13, W, p, rfl, rfl, O10, O13, by omega, by (try simp only [List.length_set, List.length_take, List.length_append, List.length_cons, List.length_nil]); omega⟩
      ·skip
       refine XK.seq (XK.region rfl ?_)
       refine XO.q (Q.eql rfl rfl) ?_
       refine XO.q (Q.assign rfl) (XO.done ?_)
       refine XK.if rfl (fun c11 => ?_) (fun c11 => ?_)
       ·skip
        refine XK.region rfl ?_
        refine XO.q (Q.fieldAddr rfl) ?_
        refine XO.q (Q.ld rfl rfl) ?_
        refine XO.q (Q.move rfl) ?_
        refine XO.q (Q.cut (i := 0) (j := k) rfl .n (.s rfl (by omega)) (by omega) (by omega)) ?_
        have ac := OArr.short (s := O13) (j := k) (by omega)
        refine XO.q (Q.fieldAddr rfl) ?_
        refine XO.st rfl rfl rfl ?_
        refine XO.done ?_
        refine XK.inBlock ?_
        refine XK.seq (XK.region rfl ?_)
        refine XO.q (Q.ldA [_, _, _] rfl rfl rfl) ?_
        refine XO.st rfl rfl rfl ?_
        refine XO.done ?_
        refine XK.rt [k10, k13] Tryz.func30 Tryz.results30 (.cell [_, _, _] rfl rfl rfl (.n)) ?_
        exact ⟨v10, (cutv v13 1 0 k), k10, k13, W, _, rfl, rfl, O10, (OArr.short (s := O13) (by omega)), by omega, by (try simp only [List.length_set, List.length_take, List.length_append, List.length_cons, List.length_nil]); omega⟩
       ·skip
        refine XK.region rfl ?_
        refine XO.q (Q.fieldAddr rfl) ?_
        refine XO.q (Q.ld rfl rfl) ?_
        refine XO.q (Q.move rfl) ?_
        refine XO.q (Q.rem rfl rfl (by omega) (by omega)) ?_
        refine XO.q (Q.eql rfl rfl) ?_
        refine XO.lit [_] [_] [decide ((k : Int) % 2 = 0)] encB (by rfl) (by rfl) rfl (by rfl) (by exact .c 0 1 rfl rfl rfl (.n _)) (fun _ => rfl) (by rfl) rfl (by infer_instance) rfl fun v36 h36 O36 => ?_
        refine XO.append rfl rfl rfl rfl (by simp only [List.length_cons, List.length_nil]; omega) fun v37 h37 O37 => ?_
        refine XO.q (Q.fieldAddr rfl) ?_
        refine XO.st rfl rfl rfl ?_
        refine XO.done ?_
        refine XK.inBlock ?_
        refine XK.seq (XK.region rfl ?_)
        refine XO.q (Q.ldA [_, _, _] rfl rfl rfl) ?_
        refine XO.st rfl rfl rfl ?_
        refine XO.done ?_
        refine XK.rt [k10, h37] Tryz.func30 Tryz.results30 (.cell [_, _, _] rfl rfl rfl (.n)) ?_
        exact ⟨v10, v37, k10, h37, W, _, rfl, rfl, O10, O37, by omega, by (try simp only [List.length_set, List.length_take, List.length_append, List.length_cons, List.length_nil]); omega⟩
   ·intro mt6
    dsimp only [lcA, lnA] at mt6
    refine XK.if rfl (fun c6 => ?_) (fun c6 => ?_)
    ·skip
     refine XK.region rfl (XO.q (Q.move rfl) ?_)
     refine XO.q (Q.conv rfl) ?_
     obtain ⟨u1, eu1, hu1⟩ := u64_nat n1
     rw [eu1]
     refine XO.q (Q.fieldAddr rfl) ?_
     refine XO.q (Q.ld rfl rfl) ?_
     refine XO.len rfl fun l24 => ?_
     refine XO.q (Q.conv rfl) ?_
     rw [show IntKind.u64.wrap ((p.length : Nat) : Int) = (p.length : Nat) from wrapu64 (by omega)]
     refine XO.q (Q.rem rfl rfl (by omega) (by omega)) ?_
     rw [show (u1 : Int) % (p.length : Int) = ((u1 % p.length : Nat) : Int) from rfl]
     have hk := Nat.mod_lt u1 (show 0 < p.length by omega)
     refine XO.q (Q.conv rfl) ?_
     rw [wrap64_of ⟨by omega, by omega⟩]
     refine XO.q (Q.assign rfl) (XO.done ?_)
     exact mt6 (u1 % p.length) _ _ ⟨by omega, fun _ => hk⟩ (.c rfl (.base 9 rfl rfl)) inferInstance
    ·skip
     refine XK.skip ?_
     exact mt6 (0) _ _ ⟨by omega, fun h => absurd h (by omega)⟩ (.c rfl (.base 0 rfl rfl)) inferInstance
 ·skip
  refine XT.qs rfl rfl (Q.ld rfl rfl) ⟨inferInstance, ?_⟩ XT.stop
  refine XT.qs rfl rfl (Q.ld rfl rfl) ⟨inferInstance, ?_⟩ XT.stop
  refine XT.call rfl rfl Tryz.call31 rfl rfl rfl (cloneI vw hw w (by omega)) (fun v10 s10 R10 => ?_) XT.stop
  obtain ⟨k10, rfl, O10⟩ := R10
  dsimp only [lcA, lnA]
  refine ⟨inferInstance, ?_⟩
  refine XT.q rfl rfl (Q.fieldAddr rfl) ?_
  refine XT.call rfl rfl Tryz.call32 rfl rfl rfl (cloneB vP hP p (by omega)) (fun v13 s13 R13 => ?_) XT.stop
  obtain ⟨k13, rfl, O13⟩ := R13
  dsimp only [lcA, lnA]
  refine ⟨inferInstance, ?_⟩
  refine XT.st rfl rfl rfl rfl rfl ⟨inferInstance, ?_⟩ XT.stop
  refine XT.q rfl rfl (Q.fieldAddr rfl) ?_
  refine XT.st rfl rfl rfl rfl rfl ⟨inferInstance, ?_⟩ XT.stop
  refine XT.done ?_
  refine XK.seq (XK.region rfl (XO.q (Q.assign rfl) (XO.done (XK.seq (XK.seq ?_)))))
  refine XK.region rfl ?_
  refine XO.q (Q.fieldAddr rfl) ?_
  refine XO.q (Q.ld rfl rfl) ?_
  refine XO.len rfl fun l18 => ?_
  refine XO.q (Q.gtr rfl rfl) ?_
  refine XO.done ?_
  refine XK.meet (X := Nat) [7, 20, 21, 22, 23, 24, 25, 26, 27] (fun k => [(7, some (.int .i64 (k : Nat)))]) (fun k => []) (fun k => k ≤ p.length ∧ (0 < p.length → k < p.length)) [] ?_ ?_
  ·rintro k ⟨k1, k2⟩
   dsimp only [lcA, lnA]
   refine XK.seq (XK.seq (XK.region rfl (XO.q (Q.move rfl) ?_)))
   refine XO.q (Q.conv rfl) ?_
   obtain ⟨u2, eu2, hu2⟩ := u64_nat n2
   rw [eu2]
   refine XO.q (Q.rem rfl rfl (by omega) (by omega)) ?_
   refine XO.done (XK.block (XK.seq (XK.region rfl ?_)))
   refine XO.q (Q.eql rfl rfl) ?_
   refine XO.q (Q.assign rfl) (XO.done ?_)
   refine XK.if rfl (fun c13 => ?_) (fun c13 => ?_)
   ·skip
    refine XK.region rfl ?_
    refine XO.q (Q.fieldAddr rfl) ?_
    refine XO.q (Q.ld rfl rfl) ?_
    refine XO.q (Q.add rfl rfl ⟨by omega, by omega⟩) ?_
    refine XO.q (Q.fieldAddr rfl) ?_
    refine XO.st rfl rfl rfl ?_
    refine XO.done ?_
    refine XK.inBlock ?_
    refine XK.seq (XK.region rfl ?_)
    refine XO.q (Q.ldA [_, _, _] rfl rfl rfl) ?_
    refine XO.st rfl rfl rfl ?_
    refine XO.done ?_
    refine XK.rt [k10, k13] Tryz.func30 Tryz.results30 (.cell [_, _, _] rfl rfl rfl (.n)) ?_
    exact ⟨v10, v13, k10, k13, W + 1, p, rfl, rfl, O10, O13, by omega, by (try simp only [List.length_set, List.length_take, List.length_append, List.length_cons, List.length_nil]); omega⟩
   ·skip
    refine XK.seq (XK.region rfl ?_)
    refine XO.q (Q.eql rfl rfl) ?_
    refine XO.q (Q.assign rfl) (XO.done ?_)
    refine XK.if rfl (fun c14 => ?_) (fun c14 => ?_)
    ·skip
     refine XK.region rfl ?_
     refine XO.q (Q.fieldAddr rfl) ?_
     refine XO.q (Q.ld rfl rfl) ?_
     refine XO.q (Q.sub rfl rfl ⟨by omega, by omega⟩) ?_
     refine XO.q (Q.fieldAddr rfl) ?_
     refine XO.st rfl rfl rfl ?_
     refine XO.done ?_
     refine XK.inBlock ?_
     refine XK.seq (XK.region rfl ?_)
     refine XO.q (Q.ldA [_, _, _] rfl rfl rfl) ?_
     refine XO.st rfl rfl rfl ?_
     refine XO.done ?_
     refine XK.rt [k10, k13] Tryz.func30 Tryz.results30 (.cell [_, _, _] rfl rfl rfl (.n)) ?_
     exact ⟨v10, v13, k10, k13, W - 1, p, rfl, rfl, O10, O13, by omega, by (try simp only [List.length_set, List.length_take, List.length_append, List.length_cons, List.length_nil]); omega⟩
    ·skip
     refine XK.seq (XK.region rfl ?_)
     refine XO.q (Q.eql rfl rfl) ?_
     refine XO.q (Q.assign rfl) (XO.done ?_)
     refine XK.if rfl (fun c15 => ?_) (fun c15 => ?_)
     ·skip
      refine XK.seq (XK.region rfl ?_)
      refine XO.q (Q.fieldAddr rfl) ?_
      refine XO.q (Q.ld rfl rfl) ?_
      refine XO.len rfl fun l55 => ?_
      refine XO.q (Q.gtr rfl rfl) ?_
      refine XO.done ?_
      refine XK.if rfl (fun c16 => ?_) (fun c16 => ?_)
      ·skip
       refine XK.drawn [0, 1, 2, 3, 4, 5, 6, 8, 9] [b3] [] (.q 0 (.q 1 (.q 2 (.q 3 (.q 4 (.q 5 (.q 6 (.br 7 true (.q 8 (.q 9 (.br 10 false .done .stop))) .stop)))))))) Tryz.mixed rfl (by kernel_rfl) ?_
       refine XT.q rfl rfl (Q.fieldAddr rfl) ?_
       refine XT.q rfl rfl (Q.ld rfl rfl) ?_
       refine XT.q rfl rfl (Q.move rfl) ?_
       refine XT.q rfl rfl (Q.fieldAddr rfl) ?_
       refine XT.q rfl rfl (Q.ld rfl rfl) ?_
       refine XT.q rfl rfl (Q.move rfl) ?_
       refine XT.ix rfl rfl rfl rfl (by omega) (by omega) fun i63 => ?_
       refine XT.qs rfl rfl (Q.ldE rfl (by first | assumption | omega) rfl) ⟨inferInstance, ?_⟩ XT.stop
       refine XT.q rfl rfl (Q.not rfl) ?_
       refine XT.ix rfl rfl rfl rfl (by omega) (by omega) fun i66 => ?_
       refine XT.stE (!p.getD k default) rfl rfl rfl rfl rfl (by assumption) rfl rfl (fun h13_10 O13_10 => ⟨inferInstance, ?_⟩) XT.stop
       refine XT.done ?_
       refine XK.inBlock ?_
       refine XK.seq (XK.region rfl ?_)
       refine XO.q (Q.ldA [_, _, _] rfl rfl rfl) ?_
       refine XO.st rfl rfl rfl ?_
       refine XO.done ?_
       refine XK.rt [k10, h13_10] Tryz.func30 Tryz.results30 (.cell [_, _, _] rfl rfl rfl (.n)) ?_
       exact ⟨v10, v13, k10, h13_10, W, _, rfl, rfl, O10, O13_10, by omega, by (try simp only [List.length_set, List.length_take, List.length_append, List.length_cons, List.length_nil]); omega⟩
      ·skip
       refine XK.skip ?_
       refine XK.inBlock ?_
       refine XK.seq (XK.region rfl ?_)
       refine XO.q (Q.ldA [_, _, _] rfl rfl rfl) ?_
       refine XO.st rfl rfl rfl ?_
       refine XO.done ?_
       refine XK.rt [k10, k13] Tryz.func30 Tryz.results30 (.cell [_, _, _] rfl rfl rfl (.n)) ?_
       exact ⟨v10, v13, k10, k13, W, p, rfl, rfl, O10, O13, by omega, by (try simp only [List.length_set, List.length_take, List.length_append, List.length_cons, List.length_nil]); omega⟩
     ·skip
      refine XK.seq (XK.region rfl ?_)
      refine XO.q (Q.eql rfl rfl) ?_
      refine XO.q (Q.assign rfl) (XO.done ?_)
      refine XK.if rfl (fun c17 => ?_) (fun c17 => ?_)
      ·skip
       refine XK.region rfl ?_
       refine XO.q (Q.fieldAddr rfl) ?_
       refine XO.q (Q.ld rfl rfl) ?_
       refine XO.q (Q.move rfl) ?_
       refine XO.q (Q.cut (i := 0) (j := k) rfl .n (.s rfl (by omega)) (by omega) (by omega)) ?_
       have ac := OArr.short (s := O13) (j := k) (by omega)
       refine XO.q (Q.fieldAddr rfl) ?_
       refine XO.st rfl rfl rfl ?_
       refine XO.done ?_
       refine XK.inBlock ?_
       refine XK.seq (XK.region rfl ?_)
       refine XO.q (Q.ldA [_, _, _] rfl rfl rfl) ?_
       refine XO.st rfl rfl rfl ?_
       refine XO.done ?_
       refine XK.rt [k10, k13] Tryz.func30 Tryz.results30 (.cell [_, _, _] rfl rfl rfl (.n)) ?_
       exact ⟨v10, (cutv v13 1 0 k), k10, k13, W, _, rfl, rfl, O10, (OArr.short (s := O13) (by omega)), by omega, by (try simp only [List.length_set, List.length_take, List.length_append, List.length_cons, List.length_nil]); omega⟩
      ·skip
       refine XK.region rfl ?_
       refine XO.q (Q.fieldAddr rfl) ?_
       refine XO.q (Q.ld rfl rfl) ?_
       refine XO.q (Q.move rfl) ?_
       refine XO.q (Q.rem rfl rfl (by omega) (by omega)) ?_
       refine XO.q (Q.eql rfl rfl) ?_
       refine XO.lit [_] [_] [decide ((k : Int) % 2 = 0)] encB (by rfl) (by rfl) rfl (by rfl) (by exact .c 0 1 rfl rfl rfl (.n _)) (fun _ => rfl) (by rfl) rfl (by infer_instance) rfl fun v36 h36 O36 => ?_
       refine XO.append rfl rfl rfl rfl (by simp only [List.length_cons, List.length_nil]; omega) fun v37 h37 O37 => ?_
       refine XO.q (Q.fieldAddr rfl) ?_
       refine XO.st rfl rfl rfl ?_
       refine XO.done ?_
       refine XK.inBlock ?_
       refine XK.seq (XK.region rfl ?_)
       refine XO.q (Q.ldA [_, _, _] rfl rfl rfl) ?_
       refine XO.st rfl rfl rfl ?_
       refine XO.done ?_
       refine XK.rt [k10, h37] Tryz.func30 Tryz.results30 (.cell [_, _, _] rfl rfl rfl (.n)) ?_
       exact ⟨v10, v37, k10, h37, W, _, rfl, rfl, O10, O37, by omega, by (try simp only [List.length_set, List.length_take, List.length_append, List.length_cons, List.length_nil]); omega⟩
  ·intro mt12
   dsimp only [lcA, lnA] at mt12
   refine XK.if rfl (fun c12 => ?_) (fun c12 => ?_)
   ·skip
    refine XK.region rfl (XO.q (Q.move rfl) ?_)
    refine XO.q (Q.conv rfl) ?_
    obtain ⟨u1, eu1, hu1⟩ := u64_nat n1
    rw [eu1]
    refine XO.q (Q.fieldAddr rfl) ?_
    refine XO.q (Q.ld rfl rfl) ?_
    refine XO.len rfl fun l24 => ?_
    refine XO.q (Q.conv rfl) ?_
    rw [show IntKind.u64.wrap ((p.length : Nat) : Int) = (p.length : Nat) from wrapu64 (by omega)]
    refine XO.q (Q.rem rfl rfl (by omega) (by omega)) ?_
    rw [show (u1 : Int) % (p.length : Int) = ((u1 % p.length : Nat) : Int) from rfl]
    have hk := Nat.mod_lt u1 (show 0 < p.length by omega)
    refine XO.q (Q.conv rfl) ?_
    rw [wrap64_of ⟨by omega, by omega⟩]
    refine XO.q (Q.assign rfl) (XO.done ?_)
    exact mt12 (u1 % p.length) _ _ ⟨by omega, fun _ => hk⟩ (.c rfl (.base 9 rfl rfl)) inferInstance
   ·skip
    refine XK.skip ?_
    exact mt12 (0) _ _ ⟨by omega, fun h => absurd h (by omega)⟩ (.c rfl (.base 0 rfl rfl)) inferInstance
end Go.X

set_option linter.unusedSimpArgs false
set_option linter.unusedVariables false
set_option maxRecDepth 20000
namespace Go.X
open Go.Proofs
def hv2 (d : PDraw) : Bool := decide (200 < d.power) && decide (d.power ≤ 1000)
end Go.X

set_option linter.unusedSimpArgs false
set_option linter.unusedVariables false
set_option maxRecDepth 20000
namespace Go.X
open Go.Proofs
def encPl (x : Value × Int × Value) : List Value := [x.1, .int .i64 x.2.1, x.2.2]
set_option synthInstance.maxHeartbeats 400000 in
set_option synthInstance.maxSize 1000 in
set_option maxHeartbeats 8000000 in
theorem tasks_spec (l : List (Value × PJob)) (vl : Value) (hl K : PHeap) [jl : Arr vl encPJ 6 hl l] (aL : JobsK l K) (rs : List PRack) (vr : Value) (hr : PHeap) [jr : Arr vr encRack 5 hr rs] (m : PRat) (few : l.length ≤ 1000) (sm : ∀ i, i < l.length → (l.getD i default).2.draws.length ≤ 1000) (fr : rs.length ≤ 1000) (w0 : List Int) (vw0 : Value) (hw0 : PHeap) [jw0 : Arr vw0 encI 1 hw0 w0] (W0 : Int) (p0 : List Bool) (vp0 : Value) (hp0 : PHeap) [jp0 : Arr vp0 encB 1 hp0 p0] (f1 : w0.length ≤ 1000) (f2 : p0.length ≤ 10000) (n1 n2 : Int) : Spec Tryz.prog 6 #[.agg #[vl, vr, .int .i64 m.n, .int .i64 m.d], .agg #[vw0, .int .i64 W0, vp0], .int .i64 n1, .int .i64 n2] [] [hl, K, hr, hw0, hp0] (fun v hs => v = .bool true ∧ hs = []) := by
 have lm : (l.map Prod.snd).length = l.length := List.length_map ..
 refine Spec.intro (fn := Tryz.f6) (N := 177) Tryz.func6 rfl Tryz.ntmps6 rfl fun B => ?_
 refine XK.seq (XK.region rfl ?_)
 refine XO.box rfl fun b4 => ?_
 refine XO.box rfl fun b5 => ?_
 refine XO.q (Q.assign rfl) (XO.done (XK.seq (XK.region rfl ?_)))
 refine XO.q (Q.ldA [_, _, _, _] rfl rfl rfl) ?_
 refine XO.call Tryz.call8 rfl rfl rfl (copied_spec l vl hl K aL rs vr hr m few sm fr) fun v24 s24 R24 => ?_
 obtain ⟨va, vb, vr1, vr2, ka, kb, Ka, Kb, kr1, kr2, a, b, rfl, rfl, OA, OB, JA, JB, ea, eb, OR1, OR2⟩ := R24
 dsimp only [lcA, lnA]
 refine XO.q (Q.move rfl) ?_
 refine XO.q (Q.extract rfl rfl) ?_
 refine XO.q (Q.extract rfl rfl) ?_
 refine XO.alloc fun b9 => ?_
 refine XO.alloc fun b10 => ?_
 refine XO.st rfl rfl rfl ?_
 refine XO.st rfl rfl rfl ?_
 refine XO.done (XK.seq (XK.seq ?_))
 refine XK.meet (X := Unit) [27, 28, 29, 30, 31] (fun _u => [(31, some (.bool false))]) (fun _u => []) (fun _u => True) [] ?_ ?_
 ·rintro _u _
  dsimp only [lcA, lnA]
  refine XK.if rfl (fun c0 => ?_) (fun c0 => ?_)
  ·skip
   simp at c0
  ·skip
   refine XK.skip (XK.seq (XK.region rfl ?_))
   refine XO.q (Q.ldA [_, _, _, _] rfl rfl rfl) ?_
   refine XO.q (Q.fieldAddr rfl) ?_
   refine XO.q (Q.ld rfl rfl) ?_
   refine XO.call Tryz.call21 rfl rfl rfl (Allowed_spec a va ka Ka JA rs vr1 kr1 m w0 vw0 hw0) fun v36 s36 R36 => ?_
   obtain ⟨rfl, rfl⟩ := R36
   dsimp only [lcA, lnA]
   rw [ea]
   refine XO.q (Q.move rfl) ?_
   refine XO.q (Q.extract rfl rfl) ?_
   refine XO.q (Q.extract rfl rfl) ?_
   refine XO.q (Q.assign rfl) (XO.q (Q.assign rfl) (XO.done (XK.seq (XK.region rfl ?_))))
   refine XO.q (Q.ldA [_, _, _, _] rfl rfl rfl) ?_
   refine XO.q (Q.fieldAddr rfl) ?_
   refine XO.q (Q.ld rfl rfl) ?_
   refine XO.call Tryz.call22 rfl rfl rfl (rAllowed_spec b vb kb Kb JB rs vr2 kr2 m w0 vw0 hw0) fun v43 s43 R43 => ?_
   obtain ⟨rfl, rfl⟩ := R43
   dsimp only [lcA, lnA]
   rw [eb]
   refine XO.q (Q.move rfl) ?_
   refine XO.q (Q.extract rfl rfl) ?_
   refine XO.q (Q.extract rfl rfl) ?_
   refine XO.q (Q.assign rfl) (XO.q (Q.assign rfl) (XO.done (XK.seq (XK.seq (XK.region rfl ?_)))))
   refine XO.q (Q.move rfl) (XO.q (Q.move rfl) ?_)
   refine XO.q (Q.neqB rfl rfl) ?_
   rw [bne_self_eq_false]
   refine XO.q (Q.move rfl) ?_
   refine XO.q (Quiet.guardF rfl rfl fun g50 p50 => Q.move rfl) ?_
   refine XO.q (Quiet.guardF rfl rfl fun g51 p51 => Q.move rfl) ?_
   refine XO.q (Quiet.guardF rfl rfl fun g52 p52 => Q.neq (lzv rfl rfl) (lzv rfl rfl)) ?_
   first | rw [decide_eq_false (show ¬ (allowedG (⟨(l.map Prod.snd), rs, m⟩ : PTask) w0).2 ≠ (allowedG (⟨(l.map Prod.snd), rs, m⟩ : PTask) w0).2 from fun h => h rfl)] | skip
   refine XO.q (Q.or rfl (fun hp => lzv hp rfl)) ?_
   refine XO.done ?_
   refine XK.if rfl (fun c1 => ?_) (fun c1 => ?_)
   ·skip
    simp at c1
   ·skip
    refine XK.skip (XK.seq (XK.region rfl ?_))
    refine XO.q (Q.ldA [_, _, _, _] rfl rfl rfl) ?_
    refine XO.q (Q.fieldAddr rfl) ?_
    refine XO.q (Q.ld rfl rfl) ?_
    refine XO.call Tryz.call23 rfl rfl rfl (Spare_spec a va ka Ka JA rs vr1 kr1 m w0 vw0 hw0) fun v58 s58 R58 => ?_
    obtain ⟨vs1, ks1, rfl, rfl, OS1⟩ := R58
    dsimp only [lcA, lnA]
    rw [ea] at OS1
    rw [ea]
    refine XO.q (Q.move rfl) ?_
    refine XO.q (Q.extract rfl rfl) ?_
    refine XO.q (Q.extract rfl rfl) ?_
    refine XO.q (Q.assign rfl) (XO.q (Q.assign rfl) (XO.done (XK.seq (XK.region rfl ?_))))
    refine XO.q (Q.ldA [_, _, _, _] rfl rfl rfl) ?_
    refine XO.q (Q.fieldAddr rfl) ?_
    refine XO.q (Q.ld rfl rfl) ?_
    refine XO.call Tryz.call24 rfl rfl rfl (rSpare_spec b vb kb Kb JB rs vr2 kr2 m w0 vw0 hw0) fun v65 s65 R65 => ?_
    obtain ⟨vs2, ks2, rfl, rfl, OS2⟩ := R65
    dsimp only [lcA, lnA]
    rw [eb] at OS2
    rw [eb]
    refine XO.q (Q.move rfl) ?_
    refine XO.q (Q.extract rfl rfl) ?_
    refine XO.q (Q.extract rfl rfl) ?_
    refine XO.q (Q.assign rfl) (XO.q (Q.assign rfl) (XO.done (XK.seq (XK.seq (XK.region rfl ?_)))))
    refine XO.q (Q.move rfl) (XO.q (Q.move rfl) ?_)
    refine XO.call Tryz.call25 rfl rfl rfl (equal4 vs1 vs2 ks1 ks2 (spareG (⟨(l.map Prod.snd), rs, m⟩ : PTask) w0).1) fun v70 s70 R70 => ?_
    obtain ⟨rfl, rfl⟩ := R70
    dsimp only [lcA, lnA]
    refine XO.q (Q.not rfl) ?_
    refine XO.q (Q.move rfl) ?_
    refine XO.q (Quiet.guardF rfl rfl fun g73 p73 => Q.move rfl) ?_
    refine XO.q (Quiet.guardF rfl rfl fun g74 p74 => Q.move rfl) ?_
    refine XO.q (Quiet.guardF rfl rfl fun g75 p75 => Q.neq (lzv rfl rfl) (lzv rfl rfl)) ?_
    first | rw [decide_eq_false (show ¬ (spareG (⟨(l.map Prod.snd), rs, m⟩ : PTask) w0).2 ≠ (spareG (⟨(l.map Prod.snd), rs, m⟩ : PTask) w0).2 from fun h => h rfl)] | skip
    refine XO.q (Q.or rfl (fun hp => lzv hp rfl)) ?_
    refine XO.done ?_
    refine XK.if rfl (fun c2 => ?_) (fun c2 => ?_)
    ·skip
     simp at c2
    ·skip
     refine XK.skip (XK.seq (XK.region rfl ?_))
     refine XO.q (Q.ldA [_, _, _, _] rfl rfl rfl) ?_
     refine XO.call Tryz.call26 rfl rfl rfl (Best_spec a va ka Ka JA rs vr1 kr1 m) fun v79 s79 R79 => ?_
     obtain ⟨vW, vP, kW, kP, bw, s, p, rfl, rfl, OW, OP, hb, hb0⟩ := R79
     dsimp only [lcA, lnA]
     rw [ea] at hb hb0
     rw [ea]
     refine XO.q (Q.move rfl) ?_
     refine XO.q (Q.extract rfl rfl) ?_
     refine XO.q (Q.extract rfl rfl) ?_
     refine XO.alloc fun b17 => ?_
     refine XO.st rfl rfl rfl ?_
     refine XO.q (Q.assign rfl) (XO.done (XK.seq (XK.region rfl ?_)))
     refine XO.q (Q.ldA [_, _, _, _] rfl rfl rfl) ?_
     refine XO.call Tryz.call27 rfl rfl rfl (rBest_spec b vb kb Kb JB rs vr2 kr2 m) fun v84 s84 R84 => ?_
     obtain ⟨vW2, vP2, kW2, kP2, bw2, s2, p2, rfl, rfl, OW2, OP2, hc, hc0⟩ := R84
     dsimp only [lcA, lnA]
     rw [eb] at hc hc0
     rw [eb]
     have same : (bw2, s2, p2) = (bw, s, p) := by
      by_cases h : readyG (⟨(l.map Prod.snd), rs, m⟩ : PTask) = 0
      ·rw [hb h, hc h]
      ·rw [hb0 h, hc0 h]
     obtain ⟨rfl, rfl, rfl⟩ : bw = bw2 ∧ s = s2 ∧ p = p2 := by simpa using same.symm
     have bnd := best_bnd hb hb0
     dsimp only at bnd
     refine XO.q (Q.move rfl) ?_
     refine XO.q (Q.extract rfl rfl) ?_
     refine XO.q (Q.extract rfl rfl) ?_
     refine XO.alloc fun b18 => ?_
     refine XO.st rfl rfl rfl ?_
     refine XO.q (Q.assign rfl) (XO.done (XK.seq (XK.seq (XK.region rfl ?_))))
     refine XO.q (Q.fieldAddr rfl) ?_
     refine XO.q (Q.ld rfl rfl) ?_
     refine XO.q (Q.fieldAddr rfl) ?_
     refine XO.q (Q.ld rfl rfl) ?_
     refine XO.call Tryz.call28 rfl rfl rfl (equalI vW vW2 kW kW2 bw bw) fun v91 s91 R91 => ?_
     obtain ⟨rfl, rfl⟩ := R91
     dsimp only [lcA, lnA]
     rw [decide_eq_true (show bw = bw from rfl)]
     refine XO.q (Q.not rfl) ?_
     refine XO.q (Q.move rfl) ?_
     refine XO.q (Quiet.guardF rfl rfl fun g94 p94 => Q.fieldAddr rfl) ?_
     refine XO.q (Quiet.guardF rfl rfl fun g95 p95 => Q.ld (lzv rfl rfl) rfl) ?_
     refine XO.q (Quiet.guardF rfl rfl fun g96 p96 => Q.fieldAddr rfl) ?_
     refine XO.q (Quiet.guardF rfl rfl fun g97 p97 => Q.ld (lzv rfl rfl) rfl) ?_
     refine XO.q (Quiet.guardF rfl rfl fun g98 p98 => Q.neq (lzv rfl rfl) (lzv rfl rfl)) ?_
     first | rw [decide_eq_false (show ¬ s ≠ s from fun h => h rfl)] | skip
     refine XO.q (Q.or rfl (fun hp => lzv hp rfl)) ?_
     refine XO.q (Q.move rfl) ?_
     refine XO.q (Quiet.guardF rfl rfl fun g101 p101 => Q.fieldAddr rfl) ?_
     refine XO.q (Quiet.guardF rfl rfl fun g102 p102 => Q.ld (lzv rfl rfl) rfl) ?_
     refine XO.q (Quiet.guardF rfl rfl fun g103 p103 => Q.fieldAddr rfl) ?_
     refine XO.q (Quiet.guardF rfl rfl fun g104 p104 => Q.ld (lzv rfl rfl) rfl) ?_
     refine XO.callS rfl rfl rfl Tryz.call29 rfl (.c (lzv rfl rfl) (.c (lzv rfl rfl) .n)) rfl (equalB vP vP2 kP kP2 p p) fun v105 s105 R105 => ?_
     obtain ⟨rfl, rfl⟩ := R105
     dsimp only [lcA, lnA]
     rw [decide_eq_true (show p = p from rfl)]
     refine XO.q (Quiet.guardF rfl rfl fun g106 p106 => Q.not rfl) ?_
     refine XO.q (Q.or rfl (fun hp => lzv hp rfl)) ?_
     refine XO.q (Q.move rfl) ?_
     refine XO.q (Quiet.guardF rfl rfl fun g109 p109 => Q.move rfl) ?_
     refine XO.q (Quiet.guardF rfl rfl fun g110 p110 => Q.move rfl) ?_
     refine XO.q (Quiet.guardF rfl rfl fun g111 p111 => Q.neq (lzv rfl rfl) (lzv rfl rfl)) ?_
     first | rw [decide_eq_false (show ¬ (readyG (⟨(l.map Prod.snd), rs, m⟩ : PTask)) ≠ (readyG (⟨(l.map Prod.snd), rs, m⟩ : PTask)) from fun h => h rfl)] | skip
     refine XO.q (Q.or rfl (fun hp => lzv hp rfl)) ?_
     refine XO.done ?_
     refine XK.if rfl (fun c3 => ?_) (fun c3 => ?_)
     ·skip
      simp at c3
     ·skip
      refine XK.skip (XK.seq (XK.seq ?_))
      refine XK.meet (X := Value × Value × PHeap × PHeap × Int × List Bool × Value × PHeap) [113, 114, 115, 116, 117, 118, 119, 120, 121, 122, 123, 124, 125, 126, 127, 128] (fun ⟨vW3, vP3, kW3, kP3, W3, p3, v126, h126⟩ => [(126, some (v126)), (127, some (.int .i64 ((4 : Nat) : Int))), (128, some (.int .i64 ((0 : Nat) : Int)))]) (fun ⟨vW3, vP3, kW3, kP3, W3, p3, v126, h126⟩ => [kW3, kP3, h126]) (fun ⟨vW3, vP3, kW3, kP3, W3, p3, v126, h126⟩ => OArr vW3 encI 1 3 kW3 bw ∧ OArr vP3 encB 1 4 kP3 p3 ∧ p3.length ≤ p.length + 1 ∧ OArr v126 encPl 3 31 h126 [(vw0, W0, vp0), (vW, s, vP), (vW3, W3, vP3), (vw0, W0, vP)]) [] ?_ ?_
      ·rintro ⟨vW3, vP3, kW3, kP3, W3, p3, v126, h126⟩ ⟨OW3, OP3, q3, O126⟩
       dsimp only [lcA, lnA]
       refine XK.block ?_
       refine XK.loop' ?_
       refine XK.seq (XK.region rfl ?_)
       refine XO.q (Q.lss rfl rfl) ?_
       refine XO.done (XK.seq ?_)
       refine XK.if rfl (fun c4 => ?_) (fun c4 => ?_)
       ·skip
        refine XK.skip (XK.seq (XK.block (XK.seq (XK.region rfl ?_))))
        refine XO.ix rfl rfl (by omega) (by omega) fun i130 => ?_
        refine XO.q (Q.ldEA [_, _, _] rfl (by first | assumption | omega) rfl rfl) ?_
        rw [show ([(vw0, W0, vp0), (vW, s, vP), (vW3, W3, vP3), (vw0, W0, vP)] : List (Value × Int × Value)).getD 0 default = (vw0, W0, vp0) from rfl]
        dsimp only
        refine XO.alloc fun b20 => ?_
        refine XO.st rfl rfl rfl ?_
        refine XO.done (XK.seq ?_)
        refine XK.meet (X := Value × Value × PHeap × PHeap × Nat) [21, 132, 133, 134, 135, 136, 137, 138, 139, 140] (fun ⟨v134, v139, k134, k139, b21⟩ => [(21, some (ptr b21 0))]) (fun ⟨v134, v139, k134, k139, b21⟩ => [blk b21 [v134, .int .i64 W0, v139] 77, k134, k139]) (fun ⟨v134, v139, k134, k139, b21⟩ => OArr v134 encI 1 3 k134 w0 ∧ OArr v139 encB 1 4 k139 p0) [] ?_ ?_
        ·rintro ⟨v134, v139, k134, k139, b21⟩ ⟨O134, O139⟩
         dsimp only [lcA, lnA]
         refine XK.seq ?_
         refine XK.meet (X := Unit) [141, 142, 143, 144, 145, 146, 147, 148, 149, 150, 151, 152, 153, 154, 155, 156, 157, 158, 159, 160, 161, 162, 163] (fun _u => [(163, some (.bool false))]) (fun _u => []) (fun _u => True) [] ?_ ?_
         ·rintro _u _
          dsimp only [lcA, lnA]
          refine XK.if rfl (fun c5 => ?_) (fun c5 => ?_)
          ·skip
           simp at c5
          ·skip
           refine XK.skip ?_
           refine XK.inBlock ?_
           refine XK.region rfl ?_
           refine XO.q (Q.add rfl rfl ⟨by omega, by omega⟩) ?_
           refine XO.q (Q.move rfl) (XO.done ?_)
           refine XK.inLoop' ?_
           refine XK.seq (XK.region rfl ?_)
           refine XO.q (Q.lss rfl rfl) ?_
           refine XO.done (XK.seq ?_)
           refine XK.if rfl (fun c6 => ?_) (fun c6 => ?_)
           ·skip
            refine XK.skip (XK.seq (XK.block (XK.seq (XK.region rfl ?_))))
            refine XO.ix rfl rfl (by omega) (by omega) fun i130 => ?_
            refine XO.q (Q.ldEA [_, _, _] rfl (by first | assumption | omega) rfl rfl) ?_
            rw [show ([(vw0, W0, vp0), (vW, s, vP), (vW3, W3, vP3), (vw0, W0, vP)] : List (Value × Int × Value)).getD (((0 : Nat) : Int) + 1).toNat default = (vW, s, vP) from rfl]
            dsimp only
            refine XO.alloc fun b20 => ?_
            refine XO.st rfl rfl rfl ?_
            refine XO.done (XK.seq ?_)
            refine XK.meet (X := Value × Value × PHeap × PHeap × Nat) [21, 132, 133, 134, 135, 136, 137, 138, 139, 140] (fun ⟨v134, v139, k134, k139, b21⟩ => [(21, some (ptr b21 0))]) (fun ⟨v134, v139, k134, k139, b21⟩ => [blk b21 [v134, .int .i64 s, v139] 77, k134, k139]) (fun ⟨v134, v139, k134, k139, b21⟩ => OArr v134 encI 1 3 k134 bw ∧ OArr v139 encB 1 4 k139 p) [] ?_ ?_
            ·rintro ⟨v134, v139, k134, k139, b21⟩ ⟨O134, O139⟩
             dsimp only [lcA, lnA]
             refine XK.seq ?_
             refine XK.meet (X := Unit) [141, 142, 143, 144, 145, 146, 147, 148, 149, 150, 151, 152, 153, 154, 155, 156, 157, 158, 159, 160, 161, 162, 163] (fun _u => [(163, some (.bool false))]) (fun _u => []) (fun _u => True) [] ?_ ?_
             ·rintro _u _
              dsimp only [lcA, lnA]
              refine XK.if rfl (fun c7 => ?_) (fun c7 => ?_)
              ·skip
               simp at c7
              ·skip
               refine XK.skip ?_
               refine XK.inBlock ?_
               refine XK.region rfl ?_
               refine XO.q (Q.add rfl rfl ⟨by omega, by omega⟩) ?_
               refine XO.q (Q.move rfl) (XO.done ?_)
               refine XK.inLoop' ?_
               refine XK.seq (XK.region rfl ?_)
               refine XO.q (Q.lss rfl rfl) ?_
               refine XO.done (XK.seq ?_)
               refine XK.if rfl (fun c8 => ?_) (fun c8 => ?_)
               ·skip
                refine XK.skip (XK.seq (XK.block (XK.seq (XK.region rfl ?_))))
                refine XO.ix rfl rfl (by omega) (by omega) fun i130 => ?_
                refine XO.q (Q.ldEA [_, _, _] rfl (by first | assumption | omega) rfl rfl) ?_
                rw [show ([(vw0, W0, vp0), (vW, s, vP), (vW3, W3, vP3), (vw0, W0, vP)] : List (Value × Int × Value)).getD (((0 : Nat) : Int) + 1 + 1).toNat default = (vW3, W3, vP3) from rfl]
                dsimp only
                refine XO.alloc fun b20 => ?_
                refine XO.st rfl rfl rfl ?_
                refine XO.done (XK.seq ?_)
                refine XK.meet (X := Value × Value × PHeap × PHeap × Nat) [21, 132, 133, 134, 135, 136, 137, 138, 139, 140] (fun ⟨v134, v139, k134, k139, b21⟩ => [(21, some (ptr b21 0))]) (fun ⟨v134, v139, k134, k139, b21⟩ => [blk b21 [v134, .int .i64 W3, v139] 77, k134, k139]) (fun ⟨v134, v139, k134, k139, b21⟩ => OArr v134 encI 1 3 k134 bw ∧ OArr v139 encB 1 4 k139 p3) [] ?_ ?_
                ·rintro ⟨v134, v139, k134, k139, b21⟩ ⟨O134, O139⟩
                 dsimp only [lcA, lnA]
                 refine XK.seq ?_
                 refine XK.meet (X := Unit) [141, 142, 143, 144, 145, 146, 147, 148, 149, 150, 151, 152, 153, 154, 155, 156, 157, 158, 159, 160, 161, 162, 163] (fun _u => [(163, some (.bool false))]) (fun _u => []) (fun _u => True) [] ?_ ?_
                 ·rintro _u _
                  dsimp only [lcA, lnA]
                  refine XK.if rfl (fun c9 => ?_) (fun c9 => ?_)
                  ·skip
                   simp at c9
                  ·skip
                   refine XK.skip ?_
                   refine XK.inBlock ?_
                   refine XK.region rfl ?_
                   refine XO.q (Q.add rfl rfl ⟨by omega, by omega⟩) ?_
                   refine XO.q (Q.move rfl) (XO.done ?_)
                   refine XK.inLoop' ?_
                   refine XK.seq (XK.region rfl ?_)
                   refine XO.q (Q.lss rfl rfl) ?_
                   refine XO.done (XK.seq ?_)
                   refine XK.if rfl (fun c10 => ?_) (fun c10 => ?_)
                   ·skip
                    refine XK.skip (XK.seq (XK.block (XK.seq (XK.region rfl ?_))))
                    refine XO.ix rfl rfl (by omega) (by omega) fun i130 => ?_
                    refine XO.q (Q.ldEA [_, _, _] rfl (by first | assumption | omega) rfl rfl) ?_
                    rw [show ([(vw0, W0, vp0), (vW, s, vP), (vW3, W3, vP3), (vw0, W0, vP)] : List (Value × Int × Value)).getD (((0 : Nat) : Int) + 1 + 1 + 1).toNat default = (vw0, W0, vP) from rfl]
                    dsimp only
                    refine XO.alloc fun b20 => ?_
                    refine XO.st rfl rfl rfl ?_
                    refine XO.done (XK.seq ?_)
                    refine XK.meet (X := Value × Value × PHeap × PHeap × Nat) [21, 132, 133, 134, 135, 136, 137, 138, 139, 140] (fun ⟨v134, v139, k134, k139, b21⟩ => [(21, some (ptr b21 0))]) (fun ⟨v134, v139, k134, k139, b21⟩ => [blk b21 [v134, .int .i64 W0, v139] 77, k134, k139]) (fun ⟨v134, v139, k134, k139, b21⟩ => OArr v134 encI 1 3 k134 w0 ∧ OArr v139 encB 1 4 k139 p) [] ?_ ?_
                    ·rintro ⟨v134, v139, k134, k139, b21⟩ ⟨O134, O139⟩
                     dsimp only [lcA, lnA]
                     refine XK.seq ?_
                     refine XK.meet (X := Unit) [141, 142, 143, 144, 145, 146, 147, 148, 149, 150, 151, 152, 153, 154, 155, 156, 157, 158, 159, 160, 161, 162, 163] (fun _u => [(163, some (.bool false))]) (fun _u => []) (fun _u => True) [] ?_ ?_
                     ·rintro _u _
                      dsimp only [lcA, lnA]
                      refine XK.if rfl (fun c11 => ?_) (fun c11 => ?_)
                      ·skip
                       simp at c11
                      ·skip
                       refine XK.skip ?_
                       refine XK.inBlock ?_
                       refine XK.region rfl ?_
                       refine XO.q (Q.add rfl rfl ⟨by omega, by omega⟩) ?_
                       refine XO.q (Q.move rfl) (XO.done ?_)
                       refine XK.inLoop' ?_
                       refine XK.seq (XK.region rfl ?_)
                       refine XO.q (Q.lss rfl rfl) ?_
                       refine XO.done (XK.seq ?_)
                       refine XK.if rfl (fun c12 => ?_) (fun c12 => ?_)
                       ·skip
                        exact absurd c12 (by first | decide | simp)
                       ·skip
                        refine XK.exit rfl ?_
                        refine XK.seq (XK.region rfl ?_)
                        refine XO.q (Q.fieldAddr rfl) ?_
                        refine XO.q (Q.ld rfl rfl) ?_
                        refine XO.q (Q.fieldAddr rfl) ?_
                        refine XO.q (Q.ld rfl rfl) ?_
                        refine XO.call Tryz.call35 rfl rfl rfl (kept_spec a l va vl ka hl Ka K JA aL ea) fun v169 s169 R169 => ?_
                        obtain ⟨rfl, rfl⟩ := R169
                        dsimp only [lcA, lnA]
                        refine XO.q (Q.move rfl) ?_
                        refine XO.q (Quiet.guardT rfl rfl fun g171 p171 => Q.fieldAddr rfl) ?_
                        refine XO.q (Quiet.guardT rfl rfl fun g172 p172 => Q.ld (lzv rfl rfl) rfl) ?_
                        refine XO.q (Quiet.guardT rfl rfl fun g173 p173 => Q.fieldAddr rfl) ?_
                        refine XO.q (Quiet.guardT rfl rfl fun g174 p174 => Q.ld (lzv rfl rfl) rfl) ?_
                        refine XO.callS rfl rfl rfl Tryz.call36 rfl (.c (lzv rfl rfl) (.c (lzv rfl rfl) .n)) rfl (equalRk vr1 vr kr1 hr rs) fun v175 s175 R175 => ?_
                        obtain ⟨rfl, rfl⟩ := R175
                        dsimp only [lcA, lnA]
                        refine XO.q (Q.and rfl (fun _ => rfl)) ?_
                        refine XO.q (Q.assign rfl) (XO.done ?_)
                        refine XK.rt [] Tryz.func6 Tryz.results6 (.t rfl .n) ?_
                        exact ⟨rfl, rfl⟩
                     ·intro mtr20
                      dsimp only [lcA, lnA] at mtr20
                      refine XK.drawn [0, 1, 3, 4, 6, 7, 8, 9, 10, 11, 13, 14, 15, 16, 17, 18, 19, 21, 22] [b9, b20, b10, b21] [] (.q 0 (.q 1 (.q 3 (.q 4 (.br 2 true (.br 5 true (.q 6 (.q 7 (.q 8 (.q 9 (.q 10 (.q 11 (.br 12 true (.q 13 (.q 14 (.q 15 (.q 16 (.q 17 (.q 18 (.q 19 (.br 20 true (.q 21 (.q 22 .done)) .stop)))))))) .stop))))))) .stop) .stop))))) Tryz.mixed rfl (by kernel_rfl) ?_
                      refine XT.q rfl rfl (Q.ldA [_, _, _, _] rfl rfl rfl) ?_
                      refine XT.q rfl rfl (Q.ldA [_, _, _] rfl rfl rfl) ?_
                      refine XT.q rfl rfl (Q.ldA [_, _, _, _] rfl rfl rfl) ?_
                      refine XT.q rfl rfl (Q.ldA [_, _, _] rfl rfl rfl) ?_
                      refine XT.call rfl rfl Tryz.call33 rfl rfl rfl (Verify_spec a va ka Ka JA rs vr1 kr1 m w0 vw0 hw0 W0 p vP kP) (fun v143 s143 R143 => ?_) XT.stop
                      obtain ⟨rfl, rfl⟩ := R143
                      dsimp only [lcA, lnA]
                      refine ⟨inferInstance, ?_⟩
                      rw [ea]
                      refine XT.call rfl rfl Tryz.call34 rfl rfl rfl (rVerify_spec b vb kb Kb JB rs vr2 kr2 m w0 v134 k134 W0 p v139 k139) (fun v146 s146 R146 => ?_) XT.stop
                      obtain ⟨rfl, rfl⟩ := R146
                      dsimp only [lcA, lnA]
                      refine ⟨inferInstance, ?_⟩
                      rw [eb]
                      refine XT.q rfl rfl (Q.neq rfl rfl) ?_
                      rw [decide_eq_false (fun h => h rfl)]
                      refine XT.q rfl rfl (Q.move rfl) ?_
                      refine XT.q rfl rfl (Quiet.guardF rfl rfl fun g149 p149 => Q.fieldAddr rfl) ?_
                      refine XT.q rfl rfl (Quiet.guardF rfl rfl fun g150 p150 => Q.ld (lzv rfl rfl) rfl) ?_
                      refine XT.q rfl rfl (Quiet.guardF rfl rfl fun g151 p151 => Q.fieldAddr rfl) ?_
                      refine XT.q rfl rfl (Quiet.guardF rfl rfl fun g152 p152 => Q.ld (lzv rfl rfl) rfl) ?_
                      refine XT.callS rfl rfl rfl rfl rfl Tryz.call28 rfl (.c (lzv rfl rfl) (.c (lzv rfl rfl) .n)) rfl (equalI vw0 v134 hw0 k134 w0 w0) (fun v153 s153 R153 => ?_) XT.stop
                      obtain ⟨rfl, rfl⟩ := R153
                      dsimp only [lcA, lnA]
                      refine ⟨inferInstance, ?_⟩
                      rw [decide_eq_true (show w0 = w0 from rfl)]
                      refine XT.q rfl rfl (Quiet.guardF rfl rfl fun g154 p154 => Q.not rfl) ?_
                      refine XT.q rfl rfl (Q.or rfl (fun hp => lzv hp rfl)) ?_
                      refine XT.q rfl rfl (Q.move rfl) ?_
                      refine XT.q rfl rfl (Quiet.guardF rfl rfl fun g157 p157 => Q.fieldAddr rfl) ?_
                      refine XT.q rfl rfl (Quiet.guardF rfl rfl fun g158 p158 => Q.ld (lzv rfl rfl) rfl) ?_
                      refine XT.q rfl rfl (Quiet.guardF rfl rfl fun g159 p159 => Q.fieldAddr rfl) ?_
                      refine XT.q rfl rfl (Quiet.guardF rfl rfl fun g160 p160 => Q.ld (lzv rfl rfl) rfl) ?_
                      refine XT.callS rfl rfl rfl rfl rfl Tryz.call29 rfl (.c (lzv rfl rfl) (.c (lzv rfl rfl) .n)) rfl (equalB vP v139 kP k139 p p) (fun v161 s161 R161 => ?_) XT.stop
                      obtain ⟨rfl, rfl⟩ := R161
                      dsimp only [lcA, lnA]
                      refine ⟨inferInstance, ?_⟩
                      rw [decide_eq_true (show p = p from rfl)]
                      refine XT.q rfl rfl (Quiet.guardF rfl rfl fun g162 p162 => Q.not rfl) ?_
                      refine XT.q rfl rfl (Q.or rfl (fun hp => lzv hp rfl)) ?_
                      refine XT.done ?_
                      exact mtr20 (()) _ _ trivial (.c rfl (.base 23 rfl rfl)) inferInstance
                    ·intro mtr19
                     dsimp only [lcA, lnA] at mtr19
                     refine XK.drawn [0, 1, 3, 4, 5, 6, 8] [b20] [] (.q 0 (.q 1 (.q 3 (.q 4 (.q 5 (.q 6 (.br 2 true (.br 7 true (.q 8 (.br 9 true (.br 10 false .done .stop) .stop)) (.br 9 true (.br 7 true (.q 8 (.br 10 false .done .stop)) .stop) .stop)) (.br 9 true (.br 2 true (.br 7 true (.q 8 (.br 10 false .done .stop)) .stop) .stop) .stop)))))))) Tryz.mixed rfl (by kernel_rfl) ?_
                     refine XT.q rfl rfl (Q.fieldAddr rfl) ?_
                     refine XT.q rfl rfl (Q.ld rfl rfl) ?_
                     refine XT.q rfl rfl (Q.fieldAddr rfl) ?_
                     refine XT.q rfl rfl (Q.ld rfl rfl) ?_
                     refine XT.q rfl rfl (Q.fieldAddr rfl) ?_
                     refine XT.q rfl rfl (Q.ld rfl rfl) ?_
                     refine XT.call rfl rfl Tryz.call31 rfl rfl rfl (cloneI vw0 hw0 w0 (by omega)) (fun v134 s134 R134 => ?_) ?_
                     ·skip
                      obtain ⟨k134, rfl, O134⟩ := R134
                      dsimp only [lcA, lnA]
                      refine ⟨inferInstance, ?_⟩
                      refine XT.call rfl rfl Tryz.call32 rfl rfl rfl (cloneB vP kP p (by omega)) (fun v139 s139 R139 => ?_) ?_
                      ·skip
                       obtain ⟨k139, rfl, O139⟩ := R139
                       dsimp only [lcA, lnA]
                       refine ⟨inferInstance, ?_⟩
                       refine XT.q rfl rfl (Q.build [_, _, _] (.c 0 1 rfl rfl rfl (.c 1 1 rfl rfl rfl (.c 2 1 rfl rfl rfl (.n _))))) ?_
                       refine XT.alloc rfl rfl (fun b21 => ⟨inferInstance, ?_⟩) XT.stop
                       refine XT.st rfl rfl rfl rfl rfl ⟨inferInstance, ?_⟩ XT.stop
                       refine XT.done ?_
                       exact mtr19 ((v134, v139, k134, k139, b21)) _ _ ⟨O134, O139⟩ (.c rfl (.base 10 rfl rfl)) inferInstance
                      ·skip
                       refine XT.alloc rfl rfl (fun b21 => ⟨inferInstance, ?_⟩) XT.stop
                       refine XT.call rfl rfl Tryz.call32 rfl rfl rfl (cloneB vP kP p (by omega)) (fun v139 s139 R139 => ?_) XT.stop
                       obtain ⟨k139, rfl, O139⟩ := R139
                       dsimp only [lcA, lnA]
                       refine ⟨inferInstance, ?_⟩
                       refine XT.q rfl rfl (Q.build [_, _, _] (.c 0 1 rfl rfl rfl (.c 1 1 rfl rfl rfl (.c 2 1 rfl rfl rfl (.n _))))) ?_
                       refine XT.st rfl rfl rfl rfl rfl ⟨inferInstance, ?_⟩ XT.stop
                       refine XT.done ?_
                       exact mtr19 ((v134, v139, k134, k139, b21)) _ _ ⟨O134, O139⟩ (.c rfl (.base 10 rfl rfl)) inferInstance
                     ·skip
                      refine XT.alloc rfl rfl (fun b21 => ⟨inferInstance, ?_⟩) XT.stop
                      refine XT.call rfl rfl Tryz.call31 rfl rfl rfl (cloneI vw0 hw0 w0 (by omega)) (fun v134 s134 R134 => ?_) XT.stop
                      obtain ⟨k134, rfl, O134⟩ := R134
                      dsimp only [lcA, lnA]
                      refine ⟨inferInstance, ?_⟩
                      refine XT.call rfl rfl Tryz.call32 rfl rfl rfl (cloneB vP kP p (by omega)) (fun v139 s139 R139 => ?_) XT.stop
                      obtain ⟨k139, rfl, O139⟩ := R139
                      dsimp only [lcA, lnA]
                      refine ⟨inferInstance, ?_⟩
                      refine XT.q rfl rfl (Q.build [_, _, _] (.c 0 1 rfl rfl rfl (.c 1 1 rfl rfl rfl (.c 2 1 rfl rfl rfl (.n _))))) ?_
                      refine XT.st rfl rfl rfl rfl rfl ⟨inferInstance, ?_⟩ XT.stop
                      refine XT.done ?_
                      exact mtr19 ((v134, v139, k134, k139, b21)) _ _ ⟨O134, O139⟩ (.c rfl (.base 10 rfl rfl)) inferInstance
                   ·skip
                    exact absurd (by first | decide | simp) c10
                 ·intro mtr20
                  dsimp only [lcA, lnA] at mtr20
                  refine XK.drawn [0, 1, 3, 4, 6, 7, 8, 9, 10, 11, 13, 14, 15, 16, 17, 18, 19, 21, 22] [b9, b20, b10, b21] [] (.q 0 (.q 1 (.q 3 (.q 4 (.br 2 true (.br 5 true (.q 6 (.q 7 (.q 8 (.q 9 (.q 10 (.q 11 (.br 12 true (.q 13 (.q 14 (.q 15 (.q 16 (.q 17 (.q 18 (.q 19 (.br 20 true (.q 21 (.q 22 .done)) .stop)))))))) .stop))))))) .stop) .stop))))) Tryz.mixed rfl (by kernel_rfl) ?_
                  refine XT.q rfl rfl (Q.ldA [_, _, _, _] rfl rfl rfl) ?_
                  refine XT.q rfl rfl (Q.ldA [_, _, _] rfl rfl rfl) ?_
                  refine XT.q rfl rfl (Q.ldA [_, _, _, _] rfl rfl rfl) ?_
                  refine XT.q rfl rfl (Q.ldA [_, _, _] rfl rfl rfl) ?_
                  refine XT.call rfl rfl Tryz.call33 rfl rfl rfl (Verify_spec a va ka Ka JA rs vr1 kr1 m bw vW3 kW3 W3 p3 vP3 kP3) (fun v143 s143 R143 => ?_) XT.stop
                  obtain ⟨rfl, rfl⟩ := R143
                  dsimp only [lcA, lnA]
                  refine ⟨inferInstance, ?_⟩
                  rw [ea]
                  refine XT.call rfl rfl Tryz.call34 rfl rfl rfl (rVerify_spec b vb kb Kb JB rs vr2 kr2 m bw v134 k134 W3 p3 v139 k139) (fun v146 s146 R146 => ?_) XT.stop
                  obtain ⟨rfl, rfl⟩ := R146
                  dsimp only [lcA, lnA]
                  refine ⟨inferInstance, ?_⟩
                  rw [eb]
                  refine XT.q rfl rfl (Q.neq rfl rfl) ?_
                  rw [decide_eq_false (fun h => h rfl)]
                  refine XT.q rfl rfl (Q.move rfl) ?_
                  refine XT.q rfl rfl (Quiet.guardF rfl rfl fun g149 p149 => Q.fieldAddr rfl) ?_
                  refine XT.q rfl rfl (Quiet.guardF rfl rfl fun g150 p150 => Q.ld (lzv rfl rfl) rfl) ?_
                  refine XT.q rfl rfl (Quiet.guardF rfl rfl fun g151 p151 => Q.fieldAddr rfl) ?_
                  refine XT.q rfl rfl (Quiet.guardF rfl rfl fun g152 p152 => Q.ld (lzv rfl rfl) rfl) ?_
                  refine XT.callS rfl rfl rfl rfl rfl Tryz.call28 rfl (.c (lzv rfl rfl) (.c (lzv rfl rfl) .n)) rfl (equalI vW3 v134 kW3 k134 bw bw) (fun v153 s153 R153 => ?_) XT.stop
                  obtain ⟨rfl, rfl⟩ := R153
                  dsimp only [lcA, lnA]
                  refine ⟨inferInstance, ?_⟩
                  rw [decide_eq_true (show bw = bw from rfl)]
                  refine XT.q rfl rfl (Quiet.guardF rfl rfl fun g154 p154 => Q.not rfl) ?_
                  refine XT.q rfl rfl (Q.or rfl (fun hp => lzv hp rfl)) ?_
                  refine XT.q rfl rfl (Q.move rfl) ?_
                  refine XT.q rfl rfl (Quiet.guardF rfl rfl fun g157 p157 => Q.fieldAddr rfl) ?_
                  refine XT.q rfl rfl (Quiet.guardF rfl rfl fun g158 p158 => Q.ld (lzv rfl rfl) rfl) ?_
                  refine XT.q rfl rfl (Quiet.guardF rfl rfl fun g159 p159 => Q.fieldAddr rfl) ?_
                  refine XT.q rfl rfl (Quiet.guardF rfl rfl fun g160 p160 => Q.ld (lzv rfl rfl) rfl) ?_
                  refine XT.callS rfl rfl rfl rfl rfl Tryz.call29 rfl (.c (lzv rfl rfl) (.c (lzv rfl rfl) .n)) rfl (equalB vP3 v139 kP3 k139 p3 p3) (fun v161 s161 R161 => ?_) XT.stop
                  obtain ⟨rfl, rfl⟩ := R161
                  dsimp only [lcA, lnA]
                  refine ⟨inferInstance, ?_⟩
                  rw [decide_eq_true (show p3 = p3 from rfl)]
                  refine XT.q rfl rfl (Quiet.guardF rfl rfl fun g162 p162 => Q.not rfl) ?_
                  refine XT.q rfl rfl (Q.or rfl (fun hp => lzv hp rfl)) ?_
                  refine XT.done ?_
                  exact mtr20 (()) _ _ trivial (.c rfl (.base 23 rfl rfl)) inferInstance
                ·intro mtr19
                 dsimp only [lcA, lnA] at mtr19
                 refine XK.drawn [0, 1, 3, 4, 5, 6, 8] [b20] [] (.q 0 (.q 1 (.q 3 (.q 4 (.q 5 (.q 6 (.br 2 true (.br 7 true (.q 8 (.br 9 true (.br 10 false .done .stop) .stop)) (.br 9 true (.br 7 true (.q 8 (.br 10 false .done .stop)) .stop) .stop)) (.br 9 true (.br 2 true (.br 7 true (.q 8 (.br 10 false .done .stop)) .stop) .stop) .stop)))))))) Tryz.mixed rfl (by kernel_rfl) ?_
                 refine XT.q rfl rfl (Q.fieldAddr rfl) ?_
                 refine XT.q rfl rfl (Q.ld rfl rfl) ?_
                 refine XT.q rfl rfl (Q.fieldAddr rfl) ?_
                 refine XT.q rfl rfl (Q.ld rfl rfl) ?_
                 refine XT.q rfl rfl (Q.fieldAddr rfl) ?_
                 refine XT.q rfl rfl (Q.ld rfl rfl) ?_
                 refine XT.call rfl rfl Tryz.call31 rfl rfl rfl (cloneI vW3 kW3 bw (by omega)) (fun v134 s134 R134 => ?_) ?_
                 ·skip
                  obtain ⟨k134, rfl, O134⟩ := R134
                  dsimp only [lcA, lnA]
                  refine ⟨inferInstance, ?_⟩
                  refine XT.call rfl rfl Tryz.call32 rfl rfl rfl (cloneB vP3 kP3 p3 (by omega)) (fun v139 s139 R139 => ?_) ?_
                  ·skip
                   obtain ⟨k139, rfl, O139⟩ := R139
                   dsimp only [lcA, lnA]
                   refine ⟨inferInstance, ?_⟩
                   refine XT.q rfl rfl (Q.build [_, _, _] (.c 0 1 rfl rfl rfl (.c 1 1 rfl rfl rfl (.c 2 1 rfl rfl rfl (.n _))))) ?_
                   refine XT.alloc rfl rfl (fun b21 => ⟨inferInstance, ?_⟩) XT.stop
                   refine XT.st rfl rfl rfl rfl rfl ⟨inferInstance, ?_⟩ XT.stop
                   refine XT.done ?_
                   exact mtr19 ((v134, v139, k134, k139, b21)) _ _ ⟨O134, O139⟩ (.c rfl (.base 10 rfl rfl)) inferInstance
                  ·skip
                   refine XT.alloc rfl rfl (fun b21 => ⟨inferInstance, ?_⟩) XT.stop
                   refine XT.call rfl rfl Tryz.call32 rfl rfl rfl (cloneB vP3 kP3 p3 (by omega)) (fun v139 s139 R139 => ?_) XT.stop
                   obtain ⟨k139, rfl, O139⟩ := R139
                   dsimp only [lcA, lnA]
                   refine ⟨inferInstance, ?_⟩
                   refine XT.q rfl rfl (Q.build [_, _, _] (.c 0 1 rfl rfl rfl (.c 1 1 rfl rfl rfl (.c 2 1 rfl rfl rfl (.n _))))) ?_
                   refine XT.st rfl rfl rfl rfl rfl ⟨inferInstance, ?_⟩ XT.stop
                   refine XT.done ?_
                   exact mtr19 ((v134, v139, k134, k139, b21)) _ _ ⟨O134, O139⟩ (.c rfl (.base 10 rfl rfl)) inferInstance
                 ·skip
                  refine XT.alloc rfl rfl (fun b21 => ⟨inferInstance, ?_⟩) XT.stop
                  refine XT.call rfl rfl Tryz.call31 rfl rfl rfl (cloneI vW3 kW3 bw (by omega)) (fun v134 s134 R134 => ?_) XT.stop
                  obtain ⟨k134, rfl, O134⟩ := R134
                  dsimp only [lcA, lnA]
                  refine ⟨inferInstance, ?_⟩
                  refine XT.call rfl rfl Tryz.call32 rfl rfl rfl (cloneB vP3 kP3 p3 (by omega)) (fun v139 s139 R139 => ?_) XT.stop
                  obtain ⟨k139, rfl, O139⟩ := R139
                  dsimp only [lcA, lnA]
                  refine ⟨inferInstance, ?_⟩
                  refine XT.q rfl rfl (Q.build [_, _, _] (.c 0 1 rfl rfl rfl (.c 1 1 rfl rfl rfl (.c 2 1 rfl rfl rfl (.n _))))) ?_
                  refine XT.st rfl rfl rfl rfl rfl ⟨inferInstance, ?_⟩ XT.stop
                  refine XT.done ?_
                  exact mtr19 ((v134, v139, k134, k139, b21)) _ _ ⟨O134, O139⟩ (.c rfl (.base 10 rfl rfl)) inferInstance
               ·skip
                exact absurd (by first | decide | simp) c8
             ·intro mtr20
              dsimp only [lcA, lnA] at mtr20
              refine XK.drawn [0, 1, 3, 4, 6, 7, 8, 9, 10, 11, 13, 14, 15, 16, 17, 18, 19, 21, 22] [b9, b20, b10, b21] [] (.q 0 (.q 1 (.q 3 (.q 4 (.br 2 true (.br 5 true (.q 6 (.q 7 (.q 8 (.q 9 (.q 10 (.q 11 (.br 12 true (.q 13 (.q 14 (.q 15 (.q 16 (.q 17 (.q 18 (.q 19 (.br 20 true (.q 21 (.q 22 .done)) .stop)))))))) .stop))))))) .stop) .stop))))) Tryz.mixed rfl (by kernel_rfl) ?_
              refine XT.q rfl rfl (Q.ldA [_, _, _, _] rfl rfl rfl) ?_
              refine XT.q rfl rfl (Q.ldA [_, _, _] rfl rfl rfl) ?_
              refine XT.q rfl rfl (Q.ldA [_, _, _, _] rfl rfl rfl) ?_
              refine XT.q rfl rfl (Q.ldA [_, _, _] rfl rfl rfl) ?_
              refine XT.call rfl rfl Tryz.call33 rfl rfl rfl (Verify_spec a va ka Ka JA rs vr1 kr1 m bw vW kW s p vP kP) (fun v143 s143 R143 => ?_) XT.stop
              obtain ⟨rfl, rfl⟩ := R143
              dsimp only [lcA, lnA]
              refine ⟨inferInstance, ?_⟩
              rw [ea]
              refine XT.call rfl rfl Tryz.call34 rfl rfl rfl (rVerify_spec b vb kb Kb JB rs vr2 kr2 m bw v134 k134 s p v139 k139) (fun v146 s146 R146 => ?_) XT.stop
              obtain ⟨rfl, rfl⟩ := R146
              dsimp only [lcA, lnA]
              refine ⟨inferInstance, ?_⟩
              rw [eb]
              refine XT.q rfl rfl (Q.neq rfl rfl) ?_
              rw [decide_eq_false (fun h => h rfl)]
              refine XT.q rfl rfl (Q.move rfl) ?_
              refine XT.q rfl rfl (Quiet.guardF rfl rfl fun g149 p149 => Q.fieldAddr rfl) ?_
              refine XT.q rfl rfl (Quiet.guardF rfl rfl fun g150 p150 => Q.ld (lzv rfl rfl) rfl) ?_
              refine XT.q rfl rfl (Quiet.guardF rfl rfl fun g151 p151 => Q.fieldAddr rfl) ?_
              refine XT.q rfl rfl (Quiet.guardF rfl rfl fun g152 p152 => Q.ld (lzv rfl rfl) rfl) ?_
              refine XT.callS rfl rfl rfl rfl rfl Tryz.call28 rfl (.c (lzv rfl rfl) (.c (lzv rfl rfl) .n)) rfl (equalI vW v134 kW k134 bw bw) (fun v153 s153 R153 => ?_) XT.stop
              obtain ⟨rfl, rfl⟩ := R153
              dsimp only [lcA, lnA]
              refine ⟨inferInstance, ?_⟩
              rw [decide_eq_true (show bw = bw from rfl)]
              refine XT.q rfl rfl (Quiet.guardF rfl rfl fun g154 p154 => Q.not rfl) ?_
              refine XT.q rfl rfl (Q.or rfl (fun hp => lzv hp rfl)) ?_
              refine XT.q rfl rfl (Q.move rfl) ?_
              refine XT.q rfl rfl (Quiet.guardF rfl rfl fun g157 p157 => Q.fieldAddr rfl) ?_
              refine XT.q rfl rfl (Quiet.guardF rfl rfl fun g158 p158 => Q.ld (lzv rfl rfl) rfl) ?_
              refine XT.q rfl rfl (Quiet.guardF rfl rfl fun g159 p159 => Q.fieldAddr rfl) ?_
              refine XT.q rfl rfl (Quiet.guardF rfl rfl fun g160 p160 => Q.ld (lzv rfl rfl) rfl) ?_
              refine XT.callS rfl rfl rfl rfl rfl Tryz.call29 rfl (.c (lzv rfl rfl) (.c (lzv rfl rfl) .n)) rfl (equalB vP v139 kP k139 p p) (fun v161 s161 R161 => ?_) XT.stop
              obtain ⟨rfl, rfl⟩ := R161
              dsimp only [lcA, lnA]
              refine ⟨inferInstance, ?_⟩
              rw [decide_eq_true (show p = p from rfl)]
              refine XT.q rfl rfl (Quiet.guardF rfl rfl fun g162 p162 => Q.not rfl) ?_
              refine XT.q rfl rfl (Q.or rfl (fun hp => lzv hp rfl)) ?_
              refine XT.done ?_
              exact mtr20 (()) _ _ trivial (.c rfl (.base 23 rfl rfl)) inferInstance
            ·intro mtr19
             dsimp only [lcA, lnA] at mtr19
             refine XK.drawn [0, 1, 3, 4, 5, 6, 8] [b20] [] (.q 0 (.q 1 (.q 3 (.q 4 (.q 5 (.q 6 (.br 2 true (.br 7 true (.q 8 (.br 9 true (.br 10 false .done .stop) .stop)) (.br 9 true (.br 7 true (.q 8 (.br 10 false .done .stop)) .stop) .stop)) (.br 9 true (.br 2 true (.br 7 true (.q 8 (.br 10 false .done .stop)) .stop) .stop) .stop)))))))) Tryz.mixed rfl (by kernel_rfl) ?_
             refine XT.q rfl rfl (Q.fieldAddr rfl) ?_
             refine XT.q rfl rfl (Q.ld rfl rfl) ?_
             refine XT.q rfl rfl (Q.fieldAddr rfl) ?_
             refine XT.q rfl rfl (Q.ld rfl rfl) ?_
             refine XT.q rfl rfl (Q.fieldAddr rfl) ?_
             refine XT.q rfl rfl (Q.ld rfl rfl) ?_
             refine XT.call rfl rfl Tryz.call31 rfl rfl rfl (cloneI vW kW bw (by omega)) (fun v134 s134 R134 => ?_) ?_
             ·skip
              obtain ⟨k134, rfl, O134⟩ := R134
              dsimp only [lcA, lnA]
              refine ⟨inferInstance, ?_⟩
              refine XT.call rfl rfl Tryz.call32 rfl rfl rfl (cloneB vP kP p (by omega)) (fun v139 s139 R139 => ?_) ?_
              ·skip
               obtain ⟨k139, rfl, O139⟩ := R139
               dsimp only [lcA, lnA]
               refine ⟨inferInstance, ?_⟩
               refine XT.q rfl rfl (Q.build [_, _, _] (.c 0 1 rfl rfl rfl (.c 1 1 rfl rfl rfl (.c 2 1 rfl rfl rfl (.n _))))) ?_
               refine XT.alloc rfl rfl (fun b21 => ⟨inferInstance, ?_⟩) XT.stop
               refine XT.st rfl rfl rfl rfl rfl ⟨inferInstance, ?_⟩ XT.stop
               refine XT.done ?_
               exact mtr19 ((v134, v139, k134, k139, b21)) _ _ ⟨O134, O139⟩ (.c rfl (.base 10 rfl rfl)) inferInstance
              ·skip
               refine XT.alloc rfl rfl (fun b21 => ⟨inferInstance, ?_⟩) XT.stop
               refine XT.call rfl rfl Tryz.call32 rfl rfl rfl (cloneB vP kP p (by omega)) (fun v139 s139 R139 => ?_) XT.stop
               obtain ⟨k139, rfl, O139⟩ := R139
               dsimp only [lcA, lnA]
               refine ⟨inferInstance, ?_⟩
               refine XT.q rfl rfl (Q.build [_, _, _] (.c 0 1 rfl rfl rfl (.c 1 1 rfl rfl rfl (.c 2 1 rfl rfl rfl (.n _))))) ?_
               refine XT.st rfl rfl rfl rfl rfl ⟨inferInstance, ?_⟩ XT.stop
               refine XT.done ?_
               exact mtr19 ((v134, v139, k134, k139, b21)) _ _ ⟨O134, O139⟩ (.c rfl (.base 10 rfl rfl)) inferInstance
             ·skip
              refine XT.alloc rfl rfl (fun b21 => ⟨inferInstance, ?_⟩) XT.stop
              refine XT.call rfl rfl Tryz.call31 rfl rfl rfl (cloneI vW kW bw (by omega)) (fun v134 s134 R134 => ?_) XT.stop
              obtain ⟨k134, rfl, O134⟩ := R134
              dsimp only [lcA, lnA]
              refine ⟨inferInstance, ?_⟩
              refine XT.call rfl rfl Tryz.call32 rfl rfl rfl (cloneB vP kP p (by omega)) (fun v139 s139 R139 => ?_) XT.stop
              obtain ⟨k139, rfl, O139⟩ := R139
              dsimp only [lcA, lnA]
              refine ⟨inferInstance, ?_⟩
              refine XT.q rfl rfl (Q.build [_, _, _] (.c 0 1 rfl rfl rfl (.c 1 1 rfl rfl rfl (.c 2 1 rfl rfl rfl (.n _))))) ?_
              refine XT.st rfl rfl rfl rfl rfl ⟨inferInstance, ?_⟩ XT.stop
              refine XT.done ?_
              exact mtr19 ((v134, v139, k134, k139, b21)) _ _ ⟨O134, O139⟩ (.c rfl (.base 10 rfl rfl)) inferInstance
           ·skip
            exact absurd (by first | decide | simp) c6
         ·intro mtr20
          dsimp only [lcA, lnA] at mtr20
          refine XK.drawn [0, 1, 3, 4, 6, 7, 8, 9, 10, 11, 13, 14, 15, 16, 17, 18, 19, 21, 22] [b9, b20, b10, b21] [] (.q 0 (.q 1 (.q 3 (.q 4 (.br 2 true (.br 5 true (.q 6 (.q 7 (.q 8 (.q 9 (.q 10 (.q 11 (.br 12 true (.q 13 (.q 14 (.q 15 (.q 16 (.q 17 (.q 18 (.q 19 (.br 20 true (.q 21 (.q 22 .done)) .stop)))))))) .stop))))))) .stop) .stop))))) Tryz.mixed rfl (by kernel_rfl) ?_
          refine XT.q rfl rfl (Q.ldA [_, _, _, _] rfl rfl rfl) ?_
          refine XT.q rfl rfl (Q.ldA [_, _, _] rfl rfl rfl) ?_
          refine XT.q rfl rfl (Q.ldA [_, _, _, _] rfl rfl rfl) ?_
          refine XT.q rfl rfl (Q.ldA [_, _, _] rfl rfl rfl) ?_
          refine XT.call rfl rfl Tryz.call33 rfl rfl rfl (Verify_spec a va ka Ka JA rs vr1 kr1 m w0 vw0 hw0 W0 p0 vp0 hp0) (fun v143 s143 R143 => ?_) XT.stop
          obtain ⟨rfl, rfl⟩ := R143
          dsimp only [lcA, lnA]
          refine ⟨inferInstance, ?_⟩
          rw [ea]
          refine XT.call rfl rfl Tryz.call34 rfl rfl rfl (rVerify_spec b vb kb Kb JB rs vr2 kr2 m w0 v134 k134 W0 p0 v139 k139) (fun v146 s146 R146 => ?_) XT.stop
          obtain ⟨rfl, rfl⟩ := R146
          dsimp only [lcA, lnA]
          refine ⟨inferInstance, ?_⟩
          rw [eb]
          refine XT.q rfl rfl (Q.neq rfl rfl) ?_
          rw [decide_eq_false (fun h => h rfl)]
          refine XT.q rfl rfl (Q.move rfl) ?_
          refine XT.q rfl rfl (Quiet.guardF rfl rfl fun g149 p149 => Q.fieldAddr rfl) ?_
          refine XT.q rfl rfl (Quiet.guardF rfl rfl fun g150 p150 => Q.ld (lzv rfl rfl) rfl) ?_
          refine XT.q rfl rfl (Quiet.guardF rfl rfl fun g151 p151 => Q.fieldAddr rfl) ?_
          refine XT.q rfl rfl (Quiet.guardF rfl rfl fun g152 p152 => Q.ld (lzv rfl rfl) rfl) ?_
          refine XT.callS rfl rfl rfl rfl rfl Tryz.call28 rfl (.c (lzv rfl rfl) (.c (lzv rfl rfl) .n)) rfl (equalI vw0 v134 hw0 k134 w0 w0) (fun v153 s153 R153 => ?_) XT.stop
          obtain ⟨rfl, rfl⟩ := R153
          dsimp only [lcA, lnA]
          refine ⟨inferInstance, ?_⟩
          rw [decide_eq_true (show w0 = w0 from rfl)]
          refine XT.q rfl rfl (Quiet.guardF rfl rfl fun g154 p154 => Q.not rfl) ?_
          refine XT.q rfl rfl (Q.or rfl (fun hp => lzv hp rfl)) ?_
          refine XT.q rfl rfl (Q.move rfl) ?_
          refine XT.q rfl rfl (Quiet.guardF rfl rfl fun g157 p157 => Q.fieldAddr rfl) ?_
          refine XT.q rfl rfl (Quiet.guardF rfl rfl fun g158 p158 => Q.ld (lzv rfl rfl) rfl) ?_
          refine XT.q rfl rfl (Quiet.guardF rfl rfl fun g159 p159 => Q.fieldAddr rfl) ?_
          refine XT.q rfl rfl (Quiet.guardF rfl rfl fun g160 p160 => Q.ld (lzv rfl rfl) rfl) ?_
          refine XT.callS rfl rfl rfl rfl rfl Tryz.call29 rfl (.c (lzv rfl rfl) (.c (lzv rfl rfl) .n)) rfl (equalB vp0 v139 hp0 k139 p0 p0) (fun v161 s161 R161 => ?_) XT.stop
          obtain ⟨rfl, rfl⟩ := R161
          dsimp only [lcA, lnA]
          refine ⟨inferInstance, ?_⟩
          rw [decide_eq_true (show p0 = p0 from rfl)]
          refine XT.q rfl rfl (Quiet.guardF rfl rfl fun g162 p162 => Q.not rfl) ?_
          refine XT.q rfl rfl (Q.or rfl (fun hp => lzv hp rfl)) ?_
          refine XT.done ?_
          exact mtr20 (()) _ _ trivial (.c rfl (.base 23 rfl rfl)) inferInstance
        ·intro mtr19
         dsimp only [lcA, lnA] at mtr19
         refine XK.drawn [0, 1, 3, 4, 5, 6, 8] [b20] [] (.q 0 (.q 1 (.q 3 (.q 4 (.q 5 (.q 6 (.br 2 true (.br 7 true (.q 8 (.br 9 true (.br 10 false .done .stop) .stop)) (.br 9 true (.br 7 true (.q 8 (.br 10 false .done .stop)) .stop) .stop)) (.br 9 true (.br 2 true (.br 7 true (.q 8 (.br 10 false .done .stop)) .stop) .stop) .stop)))))))) Tryz.mixed rfl (by kernel_rfl) ?_
         refine XT.q rfl rfl (Q.fieldAddr rfl) ?_
         refine XT.q rfl rfl (Q.ld rfl rfl) ?_
         refine XT.q rfl rfl (Q.fieldAddr rfl) ?_
         refine XT.q rfl rfl (Q.ld rfl rfl) ?_
         refine XT.q rfl rfl (Q.fieldAddr rfl) ?_
         refine XT.q rfl rfl (Q.ld rfl rfl) ?_
         refine XT.call rfl rfl Tryz.call31 rfl rfl rfl (cloneI vw0 hw0 w0 (by omega)) (fun v134 s134 R134 => ?_) ?_
         ·skip
          obtain ⟨k134, rfl, O134⟩ := R134
          dsimp only [lcA, lnA]
          refine ⟨inferInstance, ?_⟩
          refine XT.call rfl rfl Tryz.call32 rfl rfl rfl (cloneB vp0 hp0 p0 (by omega)) (fun v139 s139 R139 => ?_) ?_
          ·skip
           obtain ⟨k139, rfl, O139⟩ := R139
           dsimp only [lcA, lnA]
           refine ⟨inferInstance, ?_⟩
           refine XT.q rfl rfl (Q.build [_, _, _] (.c 0 1 rfl rfl rfl (.c 1 1 rfl rfl rfl (.c 2 1 rfl rfl rfl (.n _))))) ?_
           refine XT.alloc rfl rfl (fun b21 => ⟨inferInstance, ?_⟩) XT.stop
           refine XT.st rfl rfl rfl rfl rfl ⟨inferInstance, ?_⟩ XT.stop
           refine XT.done ?_
           exact mtr19 ((v134, v139, k134, k139, b21)) _ _ ⟨O134, O139⟩ (.c rfl (.base 10 rfl rfl)) inferInstance
          ·skip
           refine XT.alloc rfl rfl (fun b21 => ⟨inferInstance, ?_⟩) XT.stop
           refine XT.call rfl rfl Tryz.call32 rfl rfl rfl (cloneB vp0 hp0 p0 (by omega)) (fun v139 s139 R139 => ?_) XT.stop
           obtain ⟨k139, rfl, O139⟩ := R139
           dsimp only [lcA, lnA]
           refine ⟨inferInstance, ?_⟩
           refine XT.q rfl rfl (Q.build [_, _, _] (.c 0 1 rfl rfl rfl (.c 1 1 rfl rfl rfl (.c 2 1 rfl rfl rfl (.n _))))) ?_
           refine XT.st rfl rfl rfl rfl rfl ⟨inferInstance, ?_⟩ XT.stop
           refine XT.done ?_
           exact mtr19 ((v134, v139, k134, k139, b21)) _ _ ⟨O134, O139⟩ (.c rfl (.base 10 rfl rfl)) inferInstance
         ·skip
          refine XT.alloc rfl rfl (fun b21 => ⟨inferInstance, ?_⟩) XT.stop
          refine XT.call rfl rfl Tryz.call31 rfl rfl rfl (cloneI vw0 hw0 w0 (by omega)) (fun v134 s134 R134 => ?_) XT.stop
          obtain ⟨k134, rfl, O134⟩ := R134
          dsimp only [lcA, lnA]
          refine ⟨inferInstance, ?_⟩
          refine XT.call rfl rfl Tryz.call32 rfl rfl rfl (cloneB vp0 hp0 p0 (by omega)) (fun v139 s139 R139 => ?_) XT.stop
          obtain ⟨k139, rfl, O139⟩ := R139
          dsimp only [lcA, lnA]
          refine ⟨inferInstance, ?_⟩
          refine XT.q rfl rfl (Q.build [_, _, _] (.c 0 1 rfl rfl rfl (.c 1 1 rfl rfl rfl (.c 2 1 rfl rfl rfl (.n _))))) ?_
          refine XT.st rfl rfl rfl rfl rfl ⟨inferInstance, ?_⟩ XT.stop
          refine XT.done ?_
          exact mtr19 ((v134, v139, k134, k139, b21)) _ _ ⟨O134, O139⟩ (.c rfl (.base 10 rfl rfl)) inferInstance
       ·skip
        exact absurd (by first | decide | simp) c4
      ·intro mtr16
       dsimp only [lcA, lnA] at mtr16
       refine XK.drawn [0, 1, 2, 3, 4, 6, 7, 8, 9, 10, 11, 12, 15, 14] [b5, b17] [] (.q 0 (.q 1 (.q 2 (.q 3 (.q 4 (.q 6 (.q 7 (.q 8 (.q 9 (.q 10 (.q 11 (.q 12 (.q 15 (.br 5 true (.br 13 true (.q 14 .done) .stop) .stop)))))))))))))) Tryz.mixed rfl (by kernel_rfl) ?_
       refine XT.q rfl rfl (Q.ldA [_, _, _] rfl rfl rfl) ?_
       refine XT.q rfl rfl (Q.ldA [_, _, _] rfl rfl rfl) ?_
       refine XT.q rfl rfl (Q.ldA [_, _, _] rfl rfl rfl) ?_
       refine XT.q rfl rfl (Q.move rfl) ?_
       refine XT.q rfl rfl (Q.move rfl) ?_
       refine XT.q rfl rfl (Q.fieldAddr rfl) ?_
       refine XT.q rfl rfl (Q.ld rfl rfl) ?_
       refine XT.q rfl rfl (Q.fieldAddr rfl) ?_
       refine XT.q rfl rfl (Q.ld rfl rfl) ?_
       refine XT.q rfl rfl (Q.fieldAddr rfl) ?_
       refine XT.q rfl rfl (Q.ld rfl rfl) ?_
       refine XT.q rfl rfl (Q.build [_, _, _] (.c 0 1 rfl rfl rfl (.c 1 1 rfl rfl rfl (.c 2 1 rfl rfl rfl (.n _))))) ?_
       refine XT.q rfl rfl (Q.move rfl) ?_
       refine XT.call rfl rfl Tryz.call30 rfl rfl rfl (changed_spec bw vW kW p vP kP s n1 n2 (by omega) (by omega) (by omega)) (fun v118 s118 R118 => ?_) XT.stop
       obtain ⟨vW3, vP3, kW3, kP3, W3, p3, rfl, rfl, OW3, OP3, r3, q3⟩ := R118
       dsimp only [lcA, lnA]
       refine ⟨inferInstance, ?_⟩
       refine XT.lit [_, _, _, _, _, _, _, _, _, _, _, _] [_, _, _, _, _, _, _, _, _, _, _, _] [(vw0, W0, vp0), (vW, s, vP), (vW3, W3, vP3), (vw0, W0, vP)] encPl rfl rfl (by rfl) (by rfl) rfl (by rfl) (by exact .c 0 3 rfl rfl rfl (.c 3 3 rfl rfl rfl (.c 6 3 rfl rfl rfl (.c 9 3 rfl rfl rfl (.n _))))) (fun _ => rfl) (by rfl) rfl (by infer_instance) rfl (fun v126 h126 O126 => ⟨inferInstance, ?_⟩) XT.stop
       refine XT.q rfl rfl (Q.len rfl) ?_
       refine XT.done ?_
       exact mtr16 ((vW3, vP3, kW3, kP3, W3, p3, v126, h126)) _ _ ⟨OW3, OP3, q3, O126⟩ (.c rfl (.c rfl (.c rfl (.base 16 rfl rfl)))) inferInstance
 ·intro mtr2
  dsimp only [lcA, lnA] at mtr2
  refine XK.drawn [0, 2, 4] [b9, b10] [] (.q 0 (.q 2 (.br 1 true (.br 3 true (.q 4 .done) .stop) .stop))) Tryz.mixed rfl (by kernel_rfl) ?_
  refine XT.q rfl rfl (Q.ldA [_, _, _, _] rfl rfl rfl) ?_
  refine XT.q rfl rfl (Q.ldA [_, _, _, _] rfl rfl rfl) ?_
  refine XT.call rfl rfl Tryz.call19 rfl rfl rfl (Check_spec a va ka Ka JA rs vr1 kr1 m) (fun v28 s28 R28 => ?_) XT.stop
  obtain ⟨rfl, rfl⟩ := R28
  dsimp only [lcA, lnA]
  refine ⟨inferInstance, ?_⟩
  rw [ea]
  refine XT.call rfl rfl Tryz.call20 rfl rfl rfl (rCheck_spec b vb kb Kb JB rs vr2 kr2 m) (fun v30 s30 R30 => ?_) XT.stop
  obtain ⟨rfl, rfl⟩ := R30
  dsimp only [lcA, lnA]
  refine ⟨inferInstance, ?_⟩
  rw [eb]
  refine XT.q rfl rfl (Q.neq rfl rfl) ?_
  first | rw [decide_eq_false (show ¬ (pcheck (⟨(l.map Prod.snd), rs, m⟩ : PTask)) ≠ (pcheck (⟨(l.map Prod.snd), rs, m⟩ : PTask)) from fun h => h rfl)] | skip
  refine XT.done ?_
  exact mtr2 (()) _ _ trivial (.c rfl (.base 5 rfl rfl)) inferInstance
end Go.X

set_option linter.unusedSimpArgs false
set_option linter.unusedVariables false
set_option maxRecDepth 20000
namespace Go.X
open Go.Proofs
end Go.X

set_option linter.unusedSimpArgs false
set_option linter.unusedVariables false
set_option maxRecDepth 20000
namespace Go.X
open Go.Proofs
set_option maxHeartbeats 8000000 in
set_option synthInstance.maxSize 1000 in
theorem jobs3_spec (x1 x2 x3 : Value × PJob) (vl : Value) (hl K : PHeap) [jl : Arr vl encPJ 6 hl [x1, x2, x3]] (a1 : Arr x1.1 encDraw 2 K x1.2.draws) (a2 : Arr x2.1 encDraw 2 K x2.2.draws) (a3 : Arr x3.1 encDraw 2 K x3.2.draws) (s1 : x1.2.draws.length ≤ 1000) (s2 : x2.2.draws.length ≤ 1000) (s3 : x3.2.draws.length ≤ 1000) : Spec Tryz.prog 41 #[vl] [] [hl, K] (fun v hs => ∃ va vb ka k1 k2 k3 w1 w2 w3, v = .tuple #[va, vb] ∧ hs = [ka, k1, k2, k3] ∧ OArr va encPJ 6 41 ka [(w1, x1.2), (w2, x2.2), (w3, x3.2)] ∧ One vb ∧ OArr w1 encDraw 2 38 k1 x1.2.draws ∧ OArr w2 encDraw 2 38 k2 x2.2.draws ∧ OArr w3 encDraw 2 38 k3 x3.2.draws) := by
 have nP : OArr (.slice none 0 0) encPJ 6 41 emp ([] : List (Value × PJob)) := OArr.nil (fun _ => rfl)
 have nQ : OArr (.slice none 0 0) encPJ 6 124 emp ([] : List (Value × PJob)) := OArr.nil (fun _ => rfl)
 have nD : OArr (.slice none 0 0) encDraw 2 103 emp ([] : List PDraw) := OArr.nil (fun _ => rfl)
 have l3 : ([x1, x2, x3] : List (Value × PJob)).length = 3 := rfl
 refine Spec.intro (fn := Tryz.f41) (N := 53) Tryz.func41 rfl Tryz.ntmps41 rfl fun B => ?_
 refine XK.seq (XK.region rfl (XO.q (Q.assign rfl) (XO.q (Q.assign rfl) (XO.done (XK.seq ?_)))))
 refine XK.region rfl (XO.q (Q.assign rfl) (XO.done (XK.seq (XK.region rfl (XO.q (Q.assign rfl) ?_)))))
 refine XO.done (XK.seq (XK.seq (XK.region rfl (XO.q (Q.move rfl) ?_))))
 refine XO.len rfl fun l12 => ?_
 refine XO.q (Q.move rfl) (XO.done (XK.block ?_))
 refine XK.loop' ?_
 refine XK.seq (XK.region rfl ?_)
 refine XO.q (Q.lss rfl rfl) ?_
 refine XO.done (XK.seq ?_)
 refine XK.if rfl (fun c0 => ?_) (fun c0 => ?_)
 ·skip
  refine XK.skip (XK.seq (XK.block (XK.seq (XK.region rfl ?_))))
  refine XO.ix rfl rfl (by omega) (by omega) fun i15 => ?_
  refine XO.q (Q.ldEA [_, _, _, _, _, _] rfl (by first | assumption | omega) rfl rfl) ?_
  rw [show ([x1, x2, x3] : List (Value × PJob)).getD (Int.toNat (0)) default = x1 from rfl]
  refine XO.alloc fun b7 => ?_
  refine XO.st rfl rfl rfl ?_
  refine XO.done (XK.seq (XK.region rfl ?_))
  refine XO.q (Q.fieldAddr rfl) ?_
  refine XO.q (Q.ldA [_, _, _] rfl rfl rfl) ?_
  refine XO.q (Q.fieldAddr rfl) ?_
  refine XO.q (Q.ld rfl rfl) ?_
  refine XO.q (Q.fieldAddr rfl) ?_
  refine XO.q (Q.ld rfl rfl) ?_
  refine XO.q (Q.build [_, _, _, _, _, _] (.c 0 3 rfl rfl rfl (.c 4 1 rfl rfl rfl (.c 5 1 rfl rfl rfl (.n _))))) ?_
  refine XO.alloc fun b8 => ?_
  refine XO.st rfl rfl rfl ?_
  refine XO.done (XK.seq (XK.seq (XK.region rfl ?_)))
  refine XO.q (Q.fieldAddr rfl) ?_
  refine XO.q (Q.ld rfl rfl) ?_
  refine XO.len rfl fun l26 => ?_
  refine XO.q (Q.move rfl) (XO.done (XK.block ?_))
  refine XK.while (X := Nat × Value × PHeap) [10, 27, 28, 29, 30, 31, 32, 33, 34, 35, 36, 37] (fun ⟨q, vd, kd⟩ => [(27, some (.int .i64 (q : Nat)))]) (fun ⟨q, vd, kd⟩ => [blk b8 [.int .i64 x1.2.n0, .int .i64 x1.2.n1, .int .i64 x1.2.n2, vd, .int .i64 x1.2.group, .int .i64 x1.2.worth] 124, kd]) (fun ⟨q, vd, kd⟩ => q ≤ x1.2.draws.length ∧ OArr vd encDraw 2 103 kd (x1.2.draws.take q)) (fun ⟨q, vd, kd⟩ => x1.2.draws.length - q) (0, .slice none 0 0, emp) [blk b8 [.int .i64 x1.2.n0, .int .i64 x1.2.n1, .int .i64 x1.2.n2, .slice none 0 0, .int .i64 x1.2.group, .int .i64 x1.2.worth] 124, emp] rfl ⟨by omega, by rw [List.take_zero]; exact nD⟩ (.c rfl (.base 0 rfl rfl)) ?_
  rintro ⟨q, vd, kd⟩ ⟨hq, OD⟩ ih1
  dsimp only [lcA, lnA] at ih1 ⊢
  refine XK.seq (XK.region rfl ?_)
  refine XO.q (Q.lss rfl rfl) ?_
  refine XO.done (XK.seq ?_)
  refine XK.if rfl (fun c1 => ?_) (fun c1 => ?_)
  ·skip
   refine XK.skip (XK.seq (XK.block (XK.seq (XK.region rfl ?_))))
   refine XO.ix rfl rfl (by omega) (by omega) fun i29 => ?_
   refine XO.q (Q.ldEA [_, _] rfl (by first | assumption | omega) rfl rfl) ?_
   refine XO.alloc fun b10 => ?_
   refine XO.st rfl rfl rfl ?_
   refine XO.done (XK.region rfl ?_)
   refine XO.q (Q.fieldAddr rfl) ?_
   refine XO.q (Q.ld rfl rfl) ?_
   refine XO.q (Q.ldA [_, _] rfl rfl rfl) ?_
   refine XO.lit [_, _] [_, _] [x1.2.draws.getD q default] encDraw (by rfl) (by rfl) rfl (by rfl) (by exact .c 0 2 rfl rfl rfl (.n _)) (fun _ => rfl) (by rfl) rfl (by infer_instance) rfl fun v34 h34 O34 => ?_
   haveI := nD
   refine XO.append rfl rfl rfl rfl (by simp only [List.length_take, List.length_cons, List.length_nil]; omega) fun v35 h35 O35 => ?_
   refine XO.q (Q.fieldAddr rfl) ?_
   refine XO.st rfl rfl rfl ?_
   refine XO.done ?_
   refine XK.inBlock ?_
   refine XK.region rfl ?_
   refine XO.q (Q.add rfl rfl ⟨by omega, by omega⟩) ?_
   refine XO.q (Q.move rfl) (XO.done ?_)
   exact ih1 (q + 1, v35, h35) _ _ ⟨by dsimp only; omega, by dsimp only; rw [take_snocP (by omega)]; exact O35⟩ (by first | omega | (dsimp only; omega)) (.c rfl (.base 25 rfl rfl)) inferInstance
  ·skip
   have hq2 : q = x1.2.draws.length := by omega
   subst hq2
   rw [List.take_length] at OD
   refine XK.exit rfl ?_
   refine XK.seq (XK.region rfl ?_)
   refine XO.q (Q.fieldAddr rfl) ?_
   refine XO.q (Q.ld rfl rfl) ?_
   refine XO.call Tryz.call90 rfl rfl rfl (cloneDr x1.1 K x1.2.draws (by omega)) fun v40 s40 R40 => ?_
   obtain ⟨k1, rfl, O1⟩ := R40
   dsimp only [lcA, lnA]
   obtain ⟨w1, rfl⟩ : ∃ w, w = v40 := ⟨_, rfl⟩
   refine XO.drop (o' := [emp, emp, k1, blk b8 [.int .i64 x1.2.n0, .int .i64 x1.2.n1, .int .i64 x1.2.n2, vd, .int .i64 x1.2.group, .int .i64 x1.2.worth] 124, kd, blk b7 [.int .i64 x1.2.n0, .int .i64 x1.2.n1, .int .i64 x1.2.n2, x1.1, .int .i64 x1.2.group, .int .i64 x1.2.worth] 41]) ?_
   refine XO.q (Q.fieldAddr rfl) ?_
   refine XO.st rfl rfl rfl ?_
   refine XO.done ?_
   refine XK.meet (X := Value × PHeap × Value × PHeap × List (Value × PJob)) [4, 5, 42, 43, 44, 45, 46, 47, 48, 49] (fun ⟨va, ka, vb, kb, bs⟩ => [(4, some (va)), (5, some (vb))]) (fun ⟨va, ka, vb, kb, bs⟩ => [ka, kb]) (fun ⟨va, ka, vb, kb, bs⟩ => OArr va encPJ 6 41 ka [(w1, x1.2)] ∧ OArr vb encPJ 6 124 kb bs ∧ bs.length = 1) [emp, emp] ?_ ?_
   ·rintro ⟨va, ka, vb, kb, bs⟩ ⟨OA, OB, lb⟩
    dsimp only [lcA, lnA]
    refine XK.inBlock ?_
    refine XK.region rfl ?_
    refine XO.q (Q.add rfl rfl ⟨by omega, by omega⟩) ?_
    refine XO.q (Q.move rfl) (XO.done ?_)
    refine XK.inLoop' ?_
    refine XK.seq (XK.region rfl ?_)
    refine XO.q (Q.lss rfl rfl) ?_
    refine XO.done (XK.seq ?_)
    refine XK.if rfl (fun c2 => ?_) (fun c2 => ?_)
    ·skip
     refine XK.skip (XK.seq (XK.block (XK.seq (XK.region rfl ?_))))
     refine XO.ix rfl rfl (by omega) (by omega) fun i15 => ?_
     refine XO.q (Q.ldEA [_, _, _, _, _, _] rfl (by first | assumption | omega) rfl rfl) ?_
     rw [show ([x1, x2, x3] : List (Value × PJob)).getD (Int.toNat (0 + 1)) default = x2 from rfl]
     refine XO.alloc fun b7 => ?_
     refine XO.st rfl rfl rfl ?_
     refine XO.done (XK.seq (XK.region rfl ?_))
     refine XO.q (Q.fieldAddr rfl) ?_
     refine XO.q (Q.ldA [_, _, _] rfl rfl rfl) ?_
     refine XO.q (Q.fieldAddr rfl) ?_
     refine XO.q (Q.ld rfl rfl) ?_
     refine XO.q (Q.fieldAddr rfl) ?_
     refine XO.q (Q.ld rfl rfl) ?_
     refine XO.q (Q.build [_, _, _, _, _, _] (.c 0 3 rfl rfl rfl (.c 4 1 rfl rfl rfl (.c 5 1 rfl rfl rfl (.n _))))) ?_
     refine XO.alloc fun b8 => ?_
     refine XO.st rfl rfl rfl ?_
     refine XO.done (XK.seq (XK.seq (XK.region rfl ?_)))
     refine XO.q (Q.fieldAddr rfl) ?_
     refine XO.q (Q.ld rfl rfl) ?_
     refine XO.len rfl fun l26 => ?_
     refine XO.q (Q.move rfl) (XO.done (XK.block ?_))
     refine XK.while (X := Nat × Value × PHeap) [10, 27, 28, 29, 30, 31, 32, 33, 34, 35, 36, 37] (fun ⟨q, vd, kd⟩ => [(27, some (.int .i64 (q : Nat)))]) (fun ⟨q, vd, kd⟩ => [blk b8 [.int .i64 x2.2.n0, .int .i64 x2.2.n1, .int .i64 x2.2.n2, vd, .int .i64 x2.2.group, .int .i64 x2.2.worth] 124, kd]) (fun ⟨q, vd, kd⟩ => q ≤ x2.2.draws.length ∧ OArr vd encDraw 2 103 kd (x2.2.draws.take q)) (fun ⟨q, vd, kd⟩ => x2.2.draws.length - q) (0, .slice none 0 0, emp) [blk b8 [.int .i64 x2.2.n0, .int .i64 x2.2.n1, .int .i64 x2.2.n2, .slice none 0 0, .int .i64 x2.2.group, .int .i64 x2.2.worth] 124, emp] rfl ⟨by omega, by rw [List.take_zero]; exact nD⟩ (.c rfl (.base 0 rfl rfl)) ?_
     rintro ⟨q, vd, kd⟩ ⟨hq, OD⟩ ih2
     dsimp only [lcA, lnA] at ih2 ⊢
     refine XK.seq (XK.region rfl ?_)
     refine XO.q (Q.lss rfl rfl) ?_
     refine XO.done (XK.seq ?_)
     refine XK.if rfl (fun c3 => ?_) (fun c3 => ?_)
     ·skip
      refine XK.skip (XK.seq (XK.block (XK.seq (XK.region rfl ?_))))
      refine XO.ix rfl rfl (by omega) (by omega) fun i29 => ?_
      refine XO.q (Q.ldEA [_, _] rfl (by first | assumption | omega) rfl rfl) ?_
      refine XO.alloc fun b10 => ?_
      refine XO.st rfl rfl rfl ?_
      refine XO.done (XK.region rfl ?_)
      refine XO.q (Q.fieldAddr rfl) ?_
      refine XO.q (Q.ld rfl rfl) ?_
      refine XO.q (Q.ldA [_, _] rfl rfl rfl) ?_
      refine XO.lit [_, _] [_, _] [x2.2.draws.getD q default] encDraw (by rfl) (by rfl) rfl (by rfl) (by exact .c 0 2 rfl rfl rfl (.n _)) (fun _ => rfl) (by rfl) rfl (by infer_instance) rfl fun v34 h34 O34 => ?_
      haveI := nD
      refine XO.append rfl rfl rfl rfl (by simp only [List.length_take, List.length_cons, List.length_nil]; omega) fun v35 h35 O35 => ?_
      refine XO.q (Q.fieldAddr rfl) ?_
      refine XO.st rfl rfl rfl ?_
      refine XO.done ?_
      refine XK.inBlock ?_
      refine XK.region rfl ?_
      refine XO.q (Q.add rfl rfl ⟨by omega, by omega⟩) ?_
      refine XO.q (Q.move rfl) (XO.done ?_)
      exact ih2 (q + 1, v35, h35) _ _ ⟨by dsimp only; omega, by dsimp only; rw [take_snocP (by omega)]; exact O35⟩ (by first | omega | (dsimp only; omega)) (.c rfl (.base 25 rfl rfl)) inferInstance
     ·skip
      have hq2 : q = x2.2.draws.length := by omega
      subst hq2
      rw [List.take_length] at OD
      refine XK.exit rfl ?_
      refine XK.seq (XK.region rfl ?_)
      refine XO.q (Q.fieldAddr rfl) ?_
      refine XO.q (Q.ld rfl rfl) ?_
      refine XO.call Tryz.call90 rfl rfl rfl (cloneDr x2.1 K x2.2.draws (by omega)) fun v40 s40 R40 => ?_
      obtain ⟨k2, rfl, O2⟩ := R40
      dsimp only [lcA, lnA]
      obtain ⟨w2, rfl⟩ : ∃ w, w = v40 := ⟨_, rfl⟩
      refine XO.q (Q.fieldAddr rfl) ?_
      refine XO.st rfl rfl rfl ?_
      refine XO.done ?_
      refine XK.meet (X := Value × PHeap × Value × PHeap × List (Value × PJob)) [4, 5, 42, 43, 44, 45, 46, 47, 48, 49] (fun ⟨va, ka, vb, kb, bs⟩ => [(4, some (va)), (5, some (vb))]) (fun ⟨va, ka, vb, kb, bs⟩ => [ka, kb]) (fun ⟨va, ka, vb, kb, bs⟩ => OArr va encPJ 6 41 ka [(w1, x1.2), (w2, x2.2)] ∧ OArr vb encPJ 6 124 kb bs ∧ bs.length = 2) [ka, kb] ?_ ?_
      ·rintro ⟨va, ka, vb, kb, bs⟩ ⟨OA, OB, lb⟩
       dsimp only [lcA, lnA]
       refine XK.inBlock ?_
       refine XK.region rfl ?_
       refine XO.q (Q.add rfl rfl ⟨by omega, by omega⟩) ?_
       refine XO.q (Q.move rfl) (XO.done ?_)
       refine XK.inLoop' ?_
       refine XK.seq (XK.region rfl ?_)
       refine XO.q (Q.lss rfl rfl) ?_
       refine XO.done (XK.seq ?_)
       refine XK.if rfl (fun c4 => ?_) (fun c4 => ?_)
       ·skip
        refine XK.skip (XK.seq (XK.block (XK.seq (XK.region rfl ?_))))
        refine XO.ix rfl rfl (by omega) (by omega) fun i15 => ?_
        refine XO.q (Q.ldEA [_, _, _, _, _, _] rfl (by first | assumption | omega) rfl rfl) ?_
        rw [show ([x1, x2, x3] : List (Value × PJob)).getD (Int.toNat (0 + 1 + 1)) default = x3 from rfl]
        refine XO.alloc fun b7 => ?_
        refine XO.st rfl rfl rfl ?_
        refine XO.done (XK.seq (XK.region rfl ?_))
        refine XO.q (Q.fieldAddr rfl) ?_
        refine XO.q (Q.ldA [_, _, _] rfl rfl rfl) ?_
        refine XO.q (Q.fieldAddr rfl) ?_
        refine XO.q (Q.ld rfl rfl) ?_
        refine XO.q (Q.fieldAddr rfl) ?_
        refine XO.q (Q.ld rfl rfl) ?_
        refine XO.q (Q.build [_, _, _, _, _, _] (.c 0 3 rfl rfl rfl (.c 4 1 rfl rfl rfl (.c 5 1 rfl rfl rfl (.n _))))) ?_
        refine XO.alloc fun b8 => ?_
        refine XO.st rfl rfl rfl ?_
        refine XO.done (XK.seq (XK.seq (XK.region rfl ?_)))
        refine XO.q (Q.fieldAddr rfl) ?_
        refine XO.q (Q.ld rfl rfl) ?_
        refine XO.len rfl fun l26 => ?_
        refine XO.q (Q.move rfl) (XO.done (XK.block ?_))
        refine XK.while (X := Nat × Value × PHeap) [10, 27, 28, 29, 30, 31, 32, 33, 34, 35, 36, 37] (fun ⟨q, vd, kd⟩ => [(27, some (.int .i64 (q : Nat)))]) (fun ⟨q, vd, kd⟩ => [blk b8 [.int .i64 x3.2.n0, .int .i64 x3.2.n1, .int .i64 x3.2.n2, vd, .int .i64 x3.2.group, .int .i64 x3.2.worth] 124, kd]) (fun ⟨q, vd, kd⟩ => q ≤ x3.2.draws.length ∧ OArr vd encDraw 2 103 kd (x3.2.draws.take q)) (fun ⟨q, vd, kd⟩ => x3.2.draws.length - q) (0, .slice none 0 0, emp) [blk b8 [.int .i64 x3.2.n0, .int .i64 x3.2.n1, .int .i64 x3.2.n2, .slice none 0 0, .int .i64 x3.2.group, .int .i64 x3.2.worth] 124, emp] rfl ⟨by omega, by rw [List.take_zero]; exact nD⟩ (.c rfl (.base 0 rfl rfl)) ?_
        rintro ⟨q, vd, kd⟩ ⟨hq, OD⟩ ih3
        dsimp only [lcA, lnA] at ih3 ⊢
        refine XK.seq (XK.region rfl ?_)
        refine XO.q (Q.lss rfl rfl) ?_
        refine XO.done (XK.seq ?_)
        refine XK.if rfl (fun c5 => ?_) (fun c5 => ?_)
        ·skip
         refine XK.skip (XK.seq (XK.block (XK.seq (XK.region rfl ?_))))
         refine XO.ix rfl rfl (by omega) (by omega) fun i29 => ?_
         refine XO.q (Q.ldEA [_, _] rfl (by first | assumption | omega) rfl rfl) ?_
         refine XO.alloc fun b10 => ?_
         refine XO.st rfl rfl rfl ?_
         refine XO.done (XK.region rfl ?_)
         refine XO.q (Q.fieldAddr rfl) ?_
         refine XO.q (Q.ld rfl rfl) ?_
         refine XO.q (Q.ldA [_, _] rfl rfl rfl) ?_
         refine XO.lit [_, _] [_, _] [x3.2.draws.getD q default] encDraw (by rfl) (by rfl) rfl (by rfl) (by exact .c 0 2 rfl rfl rfl (.n _)) (fun _ => rfl) (by rfl) rfl (by infer_instance) rfl fun v34 h34 O34 => ?_
         haveI := nD
         refine XO.append rfl rfl rfl rfl (by simp only [List.length_take, List.length_cons, List.length_nil]; omega) fun v35 h35 O35 => ?_
         refine XO.q (Q.fieldAddr rfl) ?_
         refine XO.st rfl rfl rfl ?_
         refine XO.done ?_
         refine XK.inBlock ?_
         refine XK.region rfl ?_
         refine XO.q (Q.add rfl rfl ⟨by omega, by omega⟩) ?_
         refine XO.q (Q.move rfl) (XO.done ?_)
         exact ih3 (q + 1, v35, h35) _ _ ⟨by dsimp only; omega, by dsimp only; rw [take_snocP (by omega)]; exact O35⟩ (by first | omega | (dsimp only; omega)) (.c rfl (.base 25 rfl rfl)) inferInstance
        ·skip
         have hq2 : q = x3.2.draws.length := by omega
         subst hq2
         rw [List.take_length] at OD
         refine XK.exit rfl ?_
         refine XK.seq (XK.region rfl ?_)
         refine XO.q (Q.fieldAddr rfl) ?_
         refine XO.q (Q.ld rfl rfl) ?_
         refine XO.call Tryz.call90 rfl rfl rfl (cloneDr x3.1 K x3.2.draws (by omega)) fun v40 s40 R40 => ?_
         obtain ⟨k3, rfl, O3⟩ := R40
         dsimp only [lcA, lnA]
         obtain ⟨w3, rfl⟩ : ∃ w, w = v40 := ⟨_, rfl⟩
         refine XO.q (Q.fieldAddr rfl) ?_
         refine XO.st rfl rfl rfl ?_
         refine XO.done ?_
         refine XK.meet (X := Value × PHeap × Value × PHeap × List (Value × PJob)) [4, 5, 42, 43, 44, 45, 46, 47, 48, 49] (fun ⟨va, ka, vb, kb, bs⟩ => [(4, some (va)), (5, some (vb))]) (fun ⟨va, ka, vb, kb, bs⟩ => [ka, kb]) (fun ⟨va, ka, vb, kb, bs⟩ => OArr va encPJ 6 41 ka [(w1, x1.2), (w2, x2.2), (w3, x3.2)] ∧ OArr vb encPJ 6 124 kb bs ∧ bs.length = 3) [ka, kb] ?_ ?_
         ·rintro ⟨va, ka, vb, kb, bs⟩ ⟨OA, OB, lb⟩
          dsimp only [lcA, lnA]
          refine XK.inBlock ?_
          refine XK.region rfl ?_
          refine XO.q (Q.add rfl rfl ⟨by omega, by omega⟩) ?_
          refine XO.q (Q.move rfl) (XO.done ?_)
          refine XK.inLoop' ?_
          refine XK.seq (XK.region rfl ?_)
          refine XO.q (Q.lss rfl rfl) ?_
          refine XO.done (XK.seq ?_)
          refine XK.if rfl (fun c6 => ?_) (fun c6 => ?_)
          ·skip
           exact absurd c6 (by first | decide | simp)
          ·skip
           refine XK.exit rfl ?_
           refine XK.seq (XK.region rfl (XO.q (Q.move rfl) (XO.q (Q.move rfl) (XO.q (Q.assign rfl) (XO.q (Q.assign rfl) ?_)))))
           refine XO.done ?_
           refine XK.rt [ka, k1, k2, k3] Tryz.func41 Tryz.results41 (.t rfl (.t rfl .n)) ?_
           exact ⟨va, vb, ka, k1, k2, k3, w1, w2, w3, rfl, rfl, OA, inferInstance, O1, O2, O3⟩
         ·intro mtr13
          dsimp only [lcA, lnA] at mtr13
          refine XK.drawn [0, 1, 4, 5, 8, 9] [b7, b8] [] (.q 0 (.q 1 (.q 4 (.q 5 (.br 2 true (.br 3 true (.br 6 true (.br 7 true (.q 8 (.q 9 .done)) .stop) .stop) (.br 6 true (.br 3 true (.br 7 true (.q 8 (.q 9 .done)) .stop) .stop) .stop)) (.br 6 true (.br 2 true (.br 3 true (.br 7 true (.q 8 (.q 9 .done)) .stop) .stop) .stop) .stop)))))) Tryz.mixed rfl (by kernel_rfl) ?_
          refine XT.q rfl rfl (Q.move rfl) ?_
          refine XT.q rfl rfl (Q.ldA [_, _, _, _, _, _] rfl rfl rfl) ?_
          refine XT.q rfl rfl (Q.move rfl) ?_
          refine XT.q rfl rfl (Q.ldA [_, _, _, _, _, _] rfl rfl rfl) ?_
          refine XT.lit [_, _, _, _, _, _] [_, _, _, _, _, _] [(w3, x3.2)] encPJ rfl rfl (by rfl) (by rfl) rfl (by rfl) (by exact .c 0 6 rfl rfl rfl (.n _)) (fun _ => rfl) (by rfl) rfl (by infer_instance) rfl (fun v44 h44 O44 => ⟨inferInstance, ?_⟩) ?_
          ·skip
           haveI := nP
           refine XT.append rfl rfl rfl rfl rfl rfl (by simp only [List.length_append, List.length_cons, List.length_nil]; omega) (fun v45 h45 O45 => ⟨inferInstance, ?_⟩) ?_
           ·skip
            refine XT.lit [_, _, _, _, _, _] [_, _, _, _, _, _] [(vd, x3.2)] encPJ rfl rfl (by rfl) (by rfl) rfl (by rfl) (by exact .c 0 6 rfl rfl rfl (.n _)) (fun _ => rfl) (by rfl) rfl (by infer_instance) rfl (fun v48 h48 O48 => ⟨inferInstance, ?_⟩) XT.stop
            haveI := nQ
            refine XT.append rfl rfl rfl rfl rfl rfl (by simp only [List.length_append, List.length_cons, List.length_nil]; omega) (fun v49 h49 O49 => ⟨inferInstance, ?_⟩) XT.stop
            refine XT.q rfl rfl (Q.assign rfl) ?_
            refine XT.q rfl rfl (Q.assign rfl) ?_
            refine XT.done ?_
            exact mtr13 ((v45, h45, v49, h49, _)) _ _ ⟨O45, O49, by simp only [List.length_append, List.length_cons, List.length_nil] <;> omega⟩ (.c rfl (.c rfl (.base 10 rfl rfl))) inferInstance
           ·skip
            refine XT.lit [_, _, _, _, _, _] [_, _, _, _, _, _] [(vd, x3.2)] encPJ rfl rfl (by rfl) (by rfl) rfl (by rfl) (by exact .c 0 6 rfl rfl rfl (.n _)) (fun _ => rfl) (by rfl) rfl (by infer_instance) rfl (fun v48 h48 O48 => ⟨inferInstance, ?_⟩) XT.stop
            haveI := nP
            refine XT.append rfl rfl rfl rfl rfl rfl (by simp only [List.length_append, List.length_cons, List.length_nil]; omega) (fun v45 h45 O45 => ⟨inferInstance, ?_⟩) XT.stop
            haveI := nQ
            refine XT.append rfl rfl rfl rfl rfl rfl (by simp only [List.length_append, List.length_cons, List.length_nil]; omega) (fun v49 h49 O49 => ⟨inferInstance, ?_⟩) XT.stop
            refine XT.q rfl rfl (Q.assign rfl) ?_
            refine XT.q rfl rfl (Q.assign rfl) ?_
            refine XT.done ?_
            exact mtr13 ((v45, h45, v49, h49, _)) _ _ ⟨O45, O49, by simp only [List.length_append, List.length_cons, List.length_nil] <;> omega⟩ (.c rfl (.c rfl (.base 10 rfl rfl))) inferInstance
          ·skip
           refine XT.lit [_, _, _, _, _, _] [_, _, _, _, _, _] [(vd, x3.2)] encPJ rfl rfl (by rfl) (by rfl) rfl (by rfl) (by exact .c 0 6 rfl rfl rfl (.n _)) (fun _ => rfl) (by rfl) rfl (by infer_instance) rfl (fun v48 h48 O48 => ⟨inferInstance, ?_⟩) XT.stop
           refine XT.lit [_, _, _, _, _, _] [_, _, _, _, _, _] [(w3, x3.2)] encPJ rfl rfl (by rfl) (by rfl) rfl (by rfl) (by exact .c 0 6 rfl rfl rfl (.n _)) (fun _ => rfl) (by rfl) rfl (by infer_instance) rfl (fun v44 h44 O44 => ⟨inferInstance, ?_⟩) XT.stop
           haveI := nP
           refine XT.append rfl rfl rfl rfl rfl rfl (by simp only [List.length_append, List.length_cons, List.length_nil]; omega) (fun v45 h45 O45 => ⟨inferInstance, ?_⟩) XT.stop
           haveI := nQ
           refine XT.append rfl rfl rfl rfl rfl rfl (by simp only [List.length_append, List.length_cons, List.length_nil]; omega) (fun v49 h49 O49 => ⟨inferInstance, ?_⟩) XT.stop
           refine XT.q rfl rfl (Q.assign rfl) ?_
           refine XT.q rfl rfl (Q.assign rfl) ?_
           refine XT.done ?_
           exact mtr13 ((v45, h45, v49, h49, _)) _ _ ⟨O45, O49, by simp only [List.length_append, List.length_cons, List.length_nil] <;> omega⟩ (.c rfl (.c rfl (.base 10 rfl rfl))) inferInstance
       ·skip
        exact absurd (by first | decide | simp) c4
      ·intro mtr13
       dsimp only [lcA, lnA] at mtr13
       refine XK.drawn [0, 1, 4, 5, 8, 9] [b7, b8] [] (.q 0 (.q 1 (.q 4 (.q 5 (.br 2 true (.br 3 true (.br 6 true (.br 7 true (.q 8 (.q 9 .done)) .stop) .stop) (.br 6 true (.br 3 true (.br 7 true (.q 8 (.q 9 .done)) .stop) .stop) .stop)) (.br 6 true (.br 2 true (.br 3 true (.br 7 true (.q 8 (.q 9 .done)) .stop) .stop) .stop) .stop)))))) Tryz.mixed rfl (by kernel_rfl) ?_
       refine XT.q rfl rfl (Q.move rfl) ?_
       refine XT.q rfl rfl (Q.ldA [_, _, _, _, _, _] rfl rfl rfl) ?_
       refine XT.q rfl rfl (Q.move rfl) ?_
       refine XT.q rfl rfl (Q.ldA [_, _, _, _, _, _] rfl rfl rfl) ?_
       refine XT.lit [_, _, _, _, _, _] [_, _, _, _, _, _] [(w2, x2.2)] encPJ rfl rfl (by rfl) (by rfl) rfl (by rfl) (by exact .c 0 6 rfl rfl rfl (.n _)) (fun _ => rfl) (by rfl) rfl (by infer_instance) rfl (fun v44 h44 O44 => ⟨inferInstance, ?_⟩) ?_
       ·skip
        haveI := nP
        refine XT.append rfl rfl rfl rfl rfl rfl (by simp only [List.length_append, List.length_cons, List.length_nil]; omega) (fun v45 h45 O45 => ⟨inferInstance, ?_⟩) ?_
        ·skip
         refine XT.lit [_, _, _, _, _, _] [_, _, _, _, _, _] [(vd, x2.2)] encPJ rfl rfl (by rfl) (by rfl) rfl (by rfl) (by exact .c 0 6 rfl rfl rfl (.n _)) (fun _ => rfl) (by rfl) rfl (by infer_instance) rfl (fun v48 h48 O48 => ⟨inferInstance, ?_⟩) XT.stop
         haveI := nQ
         refine XT.append rfl rfl rfl rfl rfl rfl (by simp only [List.length_append, List.length_cons, List.length_nil]; omega) (fun v49 h49 O49 => ⟨inferInstance, ?_⟩) XT.stop
         refine XT.q rfl rfl (Q.assign rfl) ?_
         refine XT.q rfl rfl (Q.assign rfl) ?_
         refine XT.done ?_
         exact mtr13 ((v45, h45, v49, h49, _)) _ _ ⟨O45, O49, by simp only [List.length_append, List.length_cons, List.length_nil] <;> omega⟩ (.c rfl (.c rfl (.base 10 rfl rfl))) inferInstance
        ·skip
         refine XT.lit [_, _, _, _, _, _] [_, _, _, _, _, _] [(vd, x2.2)] encPJ rfl rfl (by rfl) (by rfl) rfl (by rfl) (by exact .c 0 6 rfl rfl rfl (.n _)) (fun _ => rfl) (by rfl) rfl (by infer_instance) rfl (fun v48 h48 O48 => ⟨inferInstance, ?_⟩) XT.stop
         haveI := nP
         refine XT.append rfl rfl rfl rfl rfl rfl (by simp only [List.length_append, List.length_cons, List.length_nil]; omega) (fun v45 h45 O45 => ⟨inferInstance, ?_⟩) XT.stop
         haveI := nQ
         refine XT.append rfl rfl rfl rfl rfl rfl (by simp only [List.length_append, List.length_cons, List.length_nil]; omega) (fun v49 h49 O49 => ⟨inferInstance, ?_⟩) XT.stop
         refine XT.q rfl rfl (Q.assign rfl) ?_
         refine XT.q rfl rfl (Q.assign rfl) ?_
         refine XT.done ?_
         exact mtr13 ((v45, h45, v49, h49, _)) _ _ ⟨O45, O49, by simp only [List.length_append, List.length_cons, List.length_nil] <;> omega⟩ (.c rfl (.c rfl (.base 10 rfl rfl))) inferInstance
       ·skip
        refine XT.lit [_, _, _, _, _, _] [_, _, _, _, _, _] [(vd, x2.2)] encPJ rfl rfl (by rfl) (by rfl) rfl (by rfl) (by exact .c 0 6 rfl rfl rfl (.n _)) (fun _ => rfl) (by rfl) rfl (by infer_instance) rfl (fun v48 h48 O48 => ⟨inferInstance, ?_⟩) XT.stop
        refine XT.lit [_, _, _, _, _, _] [_, _, _, _, _, _] [(w2, x2.2)] encPJ rfl rfl (by rfl) (by rfl) rfl (by rfl) (by exact .c 0 6 rfl rfl rfl (.n _)) (fun _ => rfl) (by rfl) rfl (by infer_instance) rfl (fun v44 h44 O44 => ⟨inferInstance, ?_⟩) XT.stop
        haveI := nP
        refine XT.append rfl rfl rfl rfl rfl rfl (by simp only [List.length_append, List.length_cons, List.length_nil]; omega) (fun v45 h45 O45 => ⟨inferInstance, ?_⟩) XT.stop
        haveI := nQ
        refine XT.append rfl rfl rfl rfl rfl rfl (by simp only [List.length_append, List.length_cons, List.length_nil]; omega) (fun v49 h49 O49 => ⟨inferInstance, ?_⟩) XT.stop
        refine XT.q rfl rfl (Q.assign rfl) ?_
        refine XT.q rfl rfl (Q.assign rfl) ?_
        refine XT.done ?_
        exact mtr13 ((v45, h45, v49, h49, _)) _ _ ⟨O45, O49, by simp only [List.length_append, List.length_cons, List.length_nil] <;> omega⟩ (.c rfl (.c rfl (.base 10 rfl rfl))) inferInstance
    ·skip
     exact absurd (by first | decide | simp) c2
   ·intro mtr13
    dsimp only [lcA, lnA] at mtr13
    refine XK.drawn [0, 1, 4, 5, 8, 9] [b7, b8] [] (.q 0 (.q 1 (.q 4 (.q 5 (.br 2 true (.br 3 true (.br 6 true (.br 7 true (.q 8 (.q 9 .done)) .stop) .stop) (.br 6 true (.br 3 true (.br 7 true (.q 8 (.q 9 .done)) .stop) .stop) .stop)) (.br 6 true (.br 2 true (.br 3 true (.br 7 true (.q 8 (.q 9 .done)) .stop) .stop) .stop) .stop)))))) Tryz.mixed rfl (by kernel_rfl) ?_
    refine XT.q rfl rfl (Q.move rfl) ?_
    refine XT.q rfl rfl (Q.ldA [_, _, _, _, _, _] rfl rfl rfl) ?_
    refine XT.q rfl rfl (Q.move rfl) ?_
    refine XT.q rfl rfl (Q.ldA [_, _, _, _, _, _] rfl rfl rfl) ?_
    refine XT.lit [_, _, _, _, _, _] [_, _, _, _, _, _] [(w1, x1.2)] encPJ rfl rfl (by rfl) (by rfl) rfl (by rfl) (by exact .c 0 6 rfl rfl rfl (.n _)) (fun _ => rfl) (by rfl) rfl (by infer_instance) rfl (fun v44 h44 O44 => ⟨inferInstance, ?_⟩) ?_
    ·skip
     haveI := nP
     refine XT.append rfl rfl rfl rfl rfl rfl (by simp only [List.length_append, List.length_cons, List.length_nil]; omega) (fun v45 h45 O45 => ⟨inferInstance, ?_⟩) ?_
     ·skip
      refine XT.lit [_, _, _, _, _, _] [_, _, _, _, _, _] [(vd, x1.2)] encPJ rfl rfl (by rfl) (by rfl) rfl (by rfl) (by exact .c 0 6 rfl rfl rfl (.n _)) (fun _ => rfl) (by rfl) rfl (by infer_instance) rfl (fun v48 h48 O48 => ⟨inferInstance, ?_⟩) XT.stop
      haveI := nQ
      refine XT.append rfl rfl rfl rfl rfl rfl (by simp only [List.length_append, List.length_cons, List.length_nil]; omega) (fun v49 h49 O49 => ⟨inferInstance, ?_⟩) XT.stop
      refine XT.q rfl rfl (Q.assign rfl) ?_
      refine XT.q rfl rfl (Q.assign rfl) ?_
      refine XT.done ?_
      exact mtr13 ((v45, h45, v49, h49, _)) _ _ ⟨O45, O49, by simp only [List.length_append, List.length_cons, List.length_nil] <;> omega⟩ (.c rfl (.c rfl (.base 10 rfl rfl))) inferInstance
     ·skip
      refine XT.lit [_, _, _, _, _, _] [_, _, _, _, _, _] [(vd, x1.2)] encPJ rfl rfl (by rfl) (by rfl) rfl (by rfl) (by exact .c 0 6 rfl rfl rfl (.n _)) (fun _ => rfl) (by rfl) rfl (by infer_instance) rfl (fun v48 h48 O48 => ⟨inferInstance, ?_⟩) XT.stop
      haveI := nP
      refine XT.append rfl rfl rfl rfl rfl rfl (by simp only [List.length_append, List.length_cons, List.length_nil]; omega) (fun v45 h45 O45 => ⟨inferInstance, ?_⟩) XT.stop
      haveI := nQ
      refine XT.append rfl rfl rfl rfl rfl rfl (by simp only [List.length_append, List.length_cons, List.length_nil]; omega) (fun v49 h49 O49 => ⟨inferInstance, ?_⟩) XT.stop
      refine XT.q rfl rfl (Q.assign rfl) ?_
      refine XT.q rfl rfl (Q.assign rfl) ?_
      refine XT.done ?_
      exact mtr13 ((v45, h45, v49, h49, _)) _ _ ⟨O45, O49, by simp only [List.length_append, List.length_cons, List.length_nil] <;> omega⟩ (.c rfl (.c rfl (.base 10 rfl rfl))) inferInstance
    ·skip
     refine XT.lit [_, _, _, _, _, _] [_, _, _, _, _, _] [(vd, x1.2)] encPJ rfl rfl (by rfl) (by rfl) rfl (by rfl) (by exact .c 0 6 rfl rfl rfl (.n _)) (fun _ => rfl) (by rfl) rfl (by infer_instance) rfl (fun v48 h48 O48 => ⟨inferInstance, ?_⟩) XT.stop
     refine XT.lit [_, _, _, _, _, _] [_, _, _, _, _, _] [(w1, x1.2)] encPJ rfl rfl (by rfl) (by rfl) rfl (by rfl) (by exact .c 0 6 rfl rfl rfl (.n _)) (fun _ => rfl) (by rfl) rfl (by infer_instance) rfl (fun v44 h44 O44 => ⟨inferInstance, ?_⟩) XT.stop
     haveI := nP
     refine XT.append rfl rfl rfl rfl rfl rfl (by simp only [List.length_append, List.length_cons, List.length_nil]; omega) (fun v45 h45 O45 => ⟨inferInstance, ?_⟩) XT.stop
     haveI := nQ
     refine XT.append rfl rfl rfl rfl rfl rfl (by simp only [List.length_append, List.length_cons, List.length_nil]; omega) (fun v49 h49 O49 => ⟨inferInstance, ?_⟩) XT.stop
     refine XT.q rfl rfl (Q.assign rfl) ?_
     refine XT.q rfl rfl (Q.assign rfl) ?_
     refine XT.done ?_
     exact mtr13 ((v45, h45, v49, h49, _)) _ _ ⟨O45, O49, by simp only [List.length_append, List.length_cons, List.length_nil] <;> omega⟩ (.c rfl (.c rfl (.base 10 rfl rfl))) inferInstance
 ·skip
  exact absurd (by first | decide | simp) c0
set_option maxHeartbeats 2000000 in
set_option synthInstance.maxSize 1000 in
theorem copied3_spec (x1 x2 x3 : Value × PJob) (vl : Value) (hl K : PHeap) [jl : Arr vl encPJ 6 hl [x1, x2, x3]] (a1 : Arr x1.1 encDraw 2 K x1.2.draws) (a2 : Arr x2.1 encDraw 2 K x2.2.draws) (a3 : Arr x3.1 encDraw 2 K x3.2.draws) (s1 : x1.2.draws.length ≤ 1000) (s2 : x2.2.draws.length ≤ 1000) (s3 : x3.2.draws.length ≤ 1000) (rs : List PRack) (vr : Value) (hr : PHeap) [jr : Arr vr encRack 5 hr rs] (m : PRat) (fr : rs.length ≤ 1000) : Spec Tryz.prog 8 #[.agg #[vl, vr, .int .i64 m.n, .int .i64 m.d]] [] [hl, K, hr] (fun v hs => ∃ va vb vr1 vr2 ka k1 k2 k3 kr w1 w2 w3, v = .tuple #[.agg #[va, vr1, .int .i64 m.n, .int .i64 m.d], .agg #[vb, vr2, .int .i64 m.n, .int .i64 m.d]] ∧ hs = [ka, k1, k2, k3, kr] ∧ (OArr va encPJ 6 41 ka [(w1, x1.2), (w2, x2.2), (w3, x3.2)] ∧ One vb ∧ OArr w1 encDraw 2 38 k1 x1.2.draws ∧ OArr w2 encDraw 2 38 k2 x2.2.draws ∧ OArr w3 encDraw 2 38 k3 x3.2.draws) ∧ One vr2 ∧ OArr vr1 encRack 5 43 kr rs) := by
 have nR : OArr (.slice none 0 0) encRack 5 98 emp ([] : List PRack) := OArr.nil (fun _ => rfl)
 refine Spec.intro (fn := Tryz.f8) (N := 41) Tryz.func8 rfl Tryz.ntmps8 rfl fun B => ?_
 refine XK.seq (XK.region rfl ?_)
 refine XO.box rfl fun b1 => ?_
 refine XO.alloc fun b2 => ?_
 refine XO.alloc fun b3 => ?_
 refine XO.done (XK.seq ?_)
 refine XK.drawn [0, 1, 3, 4, 5] [b1] [] (.q 0 (.q 1 (.q 3 (.q 4 (.br 2 true (.q 5 (.br 6 true (.br 7 false .done .stop) .stop)) (.br 6 true (.br 2 true (.q 5 (.br 7 false .done .stop)) .stop) .stop)))))) Tryz.mixed rfl (by kernel_rfl) ?_
 refine XT.q rfl rfl (Q.fieldAddr rfl) ?_
 refine XT.q rfl rfl (Q.ld rfl rfl) ?_
 refine XT.q rfl rfl (Q.fieldAddr rfl) ?_
 refine XT.q rfl rfl (Q.ldA [_, _] rfl rfl rfl) ?_
 refine XT.call rfl rfl Tryz.call40 rfl rfl rfl (cloneRk vr hr rs (by omega)) (fun v10 s10 R10 => ?_) ?_
 ·skip
  obtain ⟨k10, rfl, O10⟩ := R10
  dsimp only [lcA, lnA]
  refine ⟨inferInstance, ?_⟩
  refine XT.q rfl rfl (Q.build [_, _, _, _] (.c 1 1 rfl rfl rfl (.c 2 2 rfl rfl rfl (.n _)))) ?_
  refine XT.alloc rfl rfl (fun b4 => ⟨inferInstance, ?_⟩) XT.stop
  refine XT.st rfl rfl rfl rfl rfl ⟨inferInstance, ?_⟩ XT.stop
  refine XT.done ?_
  refine XK.seq (XK.region rfl ?_)
  refine XO.q (Q.fieldAddr rfl) ?_
  refine XO.q (Q.ldA [_, _] rfl rfl rfl) ?_
  refine XO.q (Q.build [_, _, _, _] (.c 2 2 rfl rfl rfl (.n _))) ?_
  refine XO.alloc fun b5 => ?_
  refine XO.st rfl rfl rfl ?_
  refine XO.done (XK.seq (XK.region rfl ?_))
  refine XO.q (Q.fieldAddr rfl) ?_
  refine XO.q (Q.ld rfl rfl) ?_
  refine XO.call Tryz.call41 rfl rfl rfl (jobs3_spec x1 x2 x3 vl hl K a1 a2 a3 s1 s2 s3) fun v20 s20 R20 => ?_
  obtain ⟨va, vb, ka, k1, k2, k3, w1, w2, w3, rfl, rfl, OA, ob, O1, O2, O3⟩ := R20
  dsimp only [lcA, lnA]
  refine XO.q (Q.move rfl) ?_
  refine XO.q (Q.extract rfl rfl) ?_
  refine XO.q (Q.extract rfl rfl) ?_
  refine XO.q (Q.fieldAddr rfl) ?_
  refine XO.st rfl rfl rfl ?_
  refine XO.q (Q.fieldAddr rfl) ?_
  refine XO.st rfl rfl rfl ?_
  refine XO.done (XK.seq (XK.seq (XK.region rfl ?_)))
  refine XO.q (Q.fieldAddr rfl) ?_
  refine XO.q (Q.ld rfl rfl) ?_
  refine XO.len rfl fun l27 => ?_
  refine XO.q (Q.move rfl) (XO.done (XK.block ?_))
  refine XK.while (X := Nat × Value × PHeap) [7, 28, 29, 30, 31, 32, 33, 34, 35, 36, 37, 38] (fun ⟨i, vr2, kr2⟩ => [(28, some (.int .i64 (i : Nat)))]) (fun ⟨i, vr2, kr2⟩ => [blk b5 [vb, vr2, .int .i64 m.n, .int .i64 m.d] 47, kr2]) (fun ⟨i, vr2, kr2⟩ => i ≤ rs.length ∧ OArr vr2 encRack 5 98 kr2 (rs.take i)) (fun ⟨i, vr2, kr2⟩ => rs.length - i) (0, .slice none 0 0, emp) [blk b5 [vb, .slice none 0 0, .int .i64 m.n, .int .i64 m.d] 47, emp] rfl ⟨by omega, by rw [List.take_zero]; exact nR⟩ (.c rfl (.base 0 rfl rfl)) ?_
  rintro ⟨i, vr2, kr2⟩ ⟨hi, OR2⟩ ih0
  dsimp only [lcA, lnA] at ih0 ⊢
  refine XK.seq (XK.region rfl ?_)
  refine XO.q (Q.lss rfl rfl) ?_
  refine XO.done (XK.seq ?_)
  refine XK.if rfl (fun c0 => ?_) (fun c0 => ?_)
  ·skip
   refine XK.skip (XK.seq (XK.block (XK.seq (XK.region rfl ?_))))
   refine XO.ix rfl rfl (by omega) (by omega) fun i30 => ?_
   refine XO.q (Q.ldEA [_, _, _, _, _] rfl (by first | assumption | omega) rfl rfl) ?_
   refine XO.alloc fun b7 => ?_
   refine XO.st rfl rfl rfl ?_
   refine XO.done (XK.region rfl ?_)
   refine XO.q (Q.fieldAddr rfl) ?_
   refine XO.q (Q.ld rfl rfl) ?_
   refine XO.q (Q.ldA [_, _, _, _, _] rfl rfl rfl) ?_
   refine XO.lit [_, _, _, _, _] [_, _, _, _, _] [rs.getD i default] encRack (by rfl) (by rfl) rfl (by rfl) (by exact .c 0 5 rfl rfl rfl (.n _)) (fun _ => rfl) (by rfl) rfl (by infer_instance) rfl fun v35 h35 O35 => ?_
   refine XO.append rfl rfl rfl rfl (by simp only [List.length_take, List.length_cons, List.length_nil]; omega) fun v36 h36 O36 => ?_
   refine XO.q (Q.fieldAddr rfl) ?_
   refine XO.st rfl rfl rfl ?_
   refine XO.done ?_
   refine XK.inBlock ?_
   refine XK.region rfl ?_
   refine XO.q (Q.add rfl rfl ⟨by omega, by omega⟩) ?_
   refine XO.q (Q.move rfl) (XO.done ?_)
   exact ih0 (i + 1, v36, h36) _ _ ⟨by dsimp only; omega, by dsimp only; rw [take_snocP (by omega)]; exact O36⟩ (by first | omega | (dsimp only; omega)) (.c rfl (.base 25 rfl rfl)) inferInstance
  ·skip
   have hin : i = rs.length := by omega
   subst hin
   rw [List.take_length] at OR2
   refine XK.exit rfl ?_
   refine XK.seq ?_
   refine XK.drawn [0, 1] [b4, b5] [] (.q 0 (.q 1 (.br 2 true (.br 3 false .done .stop) .stop))) Tryz.mixed rfl (by kernel_rfl) ?_
   refine XT.q rfl rfl (Q.ldA [_, _, _, _] rfl rfl rfl) ?_
   refine XT.q rfl rfl (Q.ldA [_, _, _, _] rfl rfl rfl) ?_
   refine XT.st rfl rfl rfl rfl rfl ⟨inferInstance, ?_⟩ XT.stop
   refine XT.st rfl rfl rfl rfl rfl ⟨inferInstance, ?_⟩ XT.stop
   refine XT.done ?_
   refine XK.rt [ka, k1, k2, k3, k10] Tryz.func8 Tryz.results8 (.cell [_, _, _, _] rfl rfl rfl (.cell [_, _, _, _] rfl rfl rfl (.n))) ?_
   exact ⟨va, vb, v10, vr2, ka, k1, k2, k3, k10, w1, w2, w3, rfl, rfl, ⟨OA, ob, O1, O2, O3⟩, inferInstance, O10⟩
 ·skip
  refine XT.alloc rfl rfl (fun b4 => ⟨inferInstance, ?_⟩) XT.stop
  refine XT.call rfl rfl Tryz.call40 rfl rfl rfl (cloneRk vr hr rs (by omega)) (fun v10 s10 R10 => ?_) XT.stop
  obtain ⟨k10, rfl, O10⟩ := R10
  dsimp only [lcA, lnA]
  refine ⟨inferInstance, ?_⟩
  refine XT.q rfl rfl (Q.build [_, _, _, _] (.c 1 1 rfl rfl rfl (.c 2 2 rfl rfl rfl (.n _)))) ?_
  refine XT.st rfl rfl rfl rfl rfl ⟨inferInstance, ?_⟩ XT.stop
  refine XT.done ?_
  refine XK.seq (XK.region rfl ?_)
  refine XO.q (Q.fieldAddr rfl) ?_
  refine XO.q (Q.ldA [_, _] rfl rfl rfl) ?_
  refine XO.q (Q.build [_, _, _, _] (.c 2 2 rfl rfl rfl (.n _))) ?_
  refine XO.alloc fun b5 => ?_
  refine XO.st rfl rfl rfl ?_
  refine XO.done (XK.seq (XK.region rfl ?_))
  refine XO.q (Q.fieldAddr rfl) ?_
  refine XO.q (Q.ld rfl rfl) ?_
  refine XO.call Tryz.call41 rfl rfl rfl (jobs3_spec x1 x2 x3 vl hl K a1 a2 a3 s1 s2 s3) fun v20 s20 R20 => ?_
  obtain ⟨va, vb, ka, k1, k2, k3, w1, w2, w3, rfl, rfl, OA, ob, O1, O2, O3⟩ := R20
  dsimp only [lcA, lnA]
  refine XO.q (Q.move rfl) ?_
  refine XO.q (Q.extract rfl rfl) ?_
  refine XO.q (Q.extract rfl rfl) ?_
  refine XO.q (Q.fieldAddr rfl) ?_
  refine XO.st rfl rfl rfl ?_
  refine XO.q (Q.fieldAddr rfl) ?_
  refine XO.st rfl rfl rfl ?_
  refine XO.done (XK.seq (XK.seq (XK.region rfl ?_)))
  refine XO.q (Q.fieldAddr rfl) ?_
  refine XO.q (Q.ld rfl rfl) ?_
  refine XO.len rfl fun l27 => ?_
  refine XO.q (Q.move rfl) (XO.done (XK.block ?_))
  refine XK.while (X := Nat × Value × PHeap) [7, 28, 29, 30, 31, 32, 33, 34, 35, 36, 37, 38] (fun ⟨i, vr2, kr2⟩ => [(28, some (.int .i64 (i : Nat)))]) (fun ⟨i, vr2, kr2⟩ => [blk b5 [vb, vr2, .int .i64 m.n, .int .i64 m.d] 47, kr2]) (fun ⟨i, vr2, kr2⟩ => i ≤ rs.length ∧ OArr vr2 encRack 5 98 kr2 (rs.take i)) (fun ⟨i, vr2, kr2⟩ => rs.length - i) (0, .slice none 0 0, emp) [blk b5 [vb, .slice none 0 0, .int .i64 m.n, .int .i64 m.d] 47, emp] rfl ⟨by omega, by rw [List.take_zero]; exact nR⟩ (.c rfl (.base 0 rfl rfl)) ?_
  rintro ⟨i, vr2, kr2⟩ ⟨hi, OR2⟩ ih1
  dsimp only [lcA, lnA] at ih1 ⊢
  refine XK.seq (XK.region rfl ?_)
  refine XO.q (Q.lss rfl rfl) ?_
  refine XO.done (XK.seq ?_)
  refine XK.if rfl (fun c1 => ?_) (fun c1 => ?_)
  ·skip
   refine XK.skip (XK.seq (XK.block (XK.seq (XK.region rfl ?_))))
   refine XO.ix rfl rfl (by omega) (by omega) fun i30 => ?_
   refine XO.q (Q.ldEA [_, _, _, _, _] rfl (by first | assumption | omega) rfl rfl) ?_
   refine XO.alloc fun b7 => ?_
   refine XO.st rfl rfl rfl ?_
   refine XO.done (XK.region rfl ?_)
   refine XO.q (Q.fieldAddr rfl) ?_
   refine XO.q (Q.ld rfl rfl) ?_
   refine XO.q (Q.ldA [_, _, _, _, _] rfl rfl rfl) ?_
   refine XO.lit [_, _, _, _, _] [_, _, _, _, _] [rs.getD i default] encRack (by rfl) (by rfl) rfl (by rfl) (by exact .c 0 5 rfl rfl rfl (.n _)) (fun _ => rfl) (by rfl) rfl (by infer_instance) rfl fun v35 h35 O35 => ?_
   refine XO.append rfl rfl rfl rfl (by simp only [List.length_take, List.length_cons, List.length_nil]; omega) fun v36 h36 O36 => ?_
   refine XO.q (Q.fieldAddr rfl) ?_
   refine XO.st rfl rfl rfl ?_
   refine XO.done ?_
   refine XK.inBlock ?_
   refine XK.region rfl ?_
   refine XO.q (Q.add rfl rfl ⟨by omega, by omega⟩) ?_
   refine XO.q (Q.move rfl) (XO.done ?_)
   exact ih1 (i + 1, v36, h36) _ _ ⟨by dsimp only; omega, by dsimp only; rw [take_snocP (by omega)]; exact O36⟩ (by first | omega | (dsimp only; omega)) (.c rfl (.base 25 rfl rfl)) inferInstance
  ·skip
   have hin : i = rs.length := by omega
   subst hin
   rw [List.take_length] at OR2
   refine XK.exit rfl ?_
   refine XK.seq ?_
   refine XK.drawn [0, 1] [b4, b5] [] (.q 0 (.q 1 (.br 2 true (.br 3 false .done .stop) .stop))) Tryz.mixed rfl (by kernel_rfl) ?_
   refine XT.q rfl rfl (Q.ldA [_, _, _, _] rfl rfl rfl) ?_
   refine XT.q rfl rfl (Q.ldA [_, _, _, _] rfl rfl rfl) ?_
   refine XT.st rfl rfl rfl rfl rfl ⟨inferInstance, ?_⟩ XT.stop
   refine XT.st rfl rfl rfl rfl rfl ⟨inferInstance, ?_⟩ XT.stop
   refine XT.done ?_
   refine XK.rt [ka, k1, k2, k3, k10] Tryz.func8 Tryz.results8 (.cell [_, _, _, _] rfl rfl rfl (.cell [_, _, _, _] rfl rfl rfl (.n))) ?_
   exact ⟨va, vb, v10, vr2, ka, k1, k2, k3, k10, w1, w2, w3, rfl, rfl, ⟨OA, ob, O1, O2, O3⟩, inferInstance, O10⟩
theorem growD_spec (n : Int) (h0 : 0 ≤ n) (h1 : n ≤ 100000) : Spec Tryz.prog 50 #[.slice none 0 0, .int .i64 n] [] [] (fun v hs => ∃ k, hs = [k] ∧ OArr v encDraw 2 38 k ([] : List PDraw)) := by
 have nP : OArr (.slice none 0 0) encDraw 2 38 emp ([] : List PDraw) := OArr.nil (fun _ => rfl)
 have el : ([] : List PDraw).length = 0 := rfl
 refine Spec.intro (fn := Tryz.f50) (N := 27) Tryz.func50 rfl Tryz.ntmps50 rfl fun B => ?_
 refine XK.seq (XK.region rfl (XO.q (Q.assign rfl) (XO.done (XK.seq (XK.seq ?_)))))
 refine XK.region rfl (XO.q (Q.move rfl) ?_)
 refine XO.q (Q.lss rfl rfl) ?_
 refine XO.done ?_
 refine XK.if rfl (fun c0 => ?_) (fun c0 => ?_)
 ·skip
  exact absurd c0 (by omega)
 ·skip
  refine XK.skip (XK.seq (XK.seq (XK.region rfl (XO.q (Q.move rfl) (XO.q (Q.move rfl) ?_)))))
  refine XO.q (Q.capN rfl) ?_
  refine XO.q (Q.move rfl) ?_
  refine XO.len rfl fun l12 => ?_
  refine XO.q (Q.sub rfl rfl ⟨by omega, by omega⟩) ?_
  refine XO.q (Q.sub rfl rfl ⟨by omega, by omega⟩) ?_
  refine XO.q (Q.assign rfl) (XO.done (XK.seq (XK.region rfl (XO.q (Q.move rfl) ?_))))
  refine XO.q (Q.gtr rfl rfl) ?_
  refine XO.done ?_
  refine XK.if rfl (fun c1 => ?_) (fun c1 => ?_)
  ·skip
   refine XK.region rfl (XO.q (Q.move rfl) (XO.q (Q.move rfl) ?_))
   refine XO.q (Q.capN rfl) ?_
   refine XO.q (Q.cut (i := 0) (j := 0) rfl .n (.s rfl (by simp)) (by omega) (by omega)) ?_
   refine XO.q (Q.move rfl) ?_
   refine XO.appendN (ti := Tryz.t38) (z := .agg #[.int .i64 0, .int .i64 0]) (n := n.toNat) encDraw (⟨0, 0⟩ : PDraw) Tryz.underlying39 Tryz.underlying3 (by kernel_rfl) (by kernel_rfl) rfl rfl rfl (by simp; omega) (by omega) (by omega) rfl rfl (by decide) (fun _ => rfl) rfl (show Ones [.int .i64 0, .int .i64 0] from ⟨fun c hc => by
    simp only [List.mem_cons, List.not_mem_nil, or_false] at hc
    rcases hc with rfl | rfl <;> rfl⟩) fun v22 h22 O22 => ?_
   refine XO.q (Q.move rfl) ?_
   refine XO.len rfl fun l24 => ?_
   refine XO.q (Q.cut (i := 0) (j := 0) rfl .n (.s rfl (by simp)) (by omega) (Nat.zero_le _)) ?_
   refine XO.q (Q.assign rfl) (XO.done (XK.seq (XK.region rfl (XO.q (Q.move rfl) (XO.q (Q.assign rfl) ?_)))))
   refine XO.done ?_
   refine XK.rt [h22] Tryz.func50 Tryz.results50 (.t rfl .n) ?_
   exact ⟨h22, rfl, by have := OArr.short (s := O22) (j := 0) (Nat.zero_le _); rwa [List.take_zero] at this⟩
  ·skip
   refine XK.skip (XK.seq (XK.region rfl (XO.q (Q.move rfl) (XO.q (Q.assign rfl) (XO.done ?_)))))
   refine XK.rt [emp] Tryz.func50 Tryz.results50 (.t rfl .n) ?_
   exact ⟨emp, rfl, nP⟩
theorem concatD_spec (v : Value) (h : PHeap) (va vb : Value) (ha hb : PHeap) (la lb : List PDraw) [sv : Arr v encV 1 h [va, vb]] [sa : Arr va encDraw 2 ha la] [sb : Arr vb encDraw 2 hb lb] (fa : la.length ≤ 1000) (fb : lb.length ≤ 1000) : Spec Tryz.prog 11 #[v] [] [h, ha, hb] (fun v' hs => ∃ k, hs = [k] ∧ OArr v' encDraw 2 38 k (la ++ lb)) := by
 refine Spec.intro (fn := Tryz.f11) (N := 36) Tryz.func11 rfl Tryz.ntmps11 rfl fun B => ?_
 refine XK.seq (XK.region rfl (XO.q (Q.assign rfl) (XO.done (XK.seq (XK.region rfl ?_)))))
 refine XO.q (Q.assign rfl) (XO.done (XK.seq (XK.seq (XK.region rfl (XO.q (Q.move rfl) ?_)))))
 refine XO.len rfl fun l10 => ?_
 refine XO.q (Q.move rfl) (XO.done (XK.block ?_))
 refine XK.loop' ?_
 refine XK.seq (XK.region rfl ?_)
 refine XO.q (Q.lss rfl rfl) ?_
 refine XO.done (XK.seq ?_)
 refine XK.if rfl (fun c0 => ?_) (fun c0 => ?_)
 ·skip
  refine XK.skip (XK.seq (XK.block (XK.seq (XK.region rfl ?_))))
  refine XO.ix rfl rfl (by omega) (by omega) fun i13 => ?_
  refine XO.q (Q.ldE rfl (by first | assumption | omega) rfl) ?_
  first | rw [show ([va, vb] : List Value).getD (Int.toNat 0) default = va from rfl] | rw [show ([va, vb] : List Value).getD (Int.toNat (0 + 1)) default = vb from rfl]
  refine XO.q (Q.assign rfl) (XO.done (XK.seq (XK.region rfl (XO.q (Q.move rfl) (XO.q (Q.move rfl) ?_)))))
  refine XO.len rfl fun l17 => ?_
  refine XO.q (Q.add rfl rfl ⟨by omega, by omega⟩) ?_
  refine XO.q (Q.assign rfl) (XO.done (XK.seq (XK.region rfl (XO.q (Q.move rfl) ?_))))
  refine XO.q (Q.lss rfl rfl) ?_
  refine XO.done ?_
  refine XK.if rfl (fun c1 => ?_) (fun c1 => ?_)
  ·skip
   exact absurd c1 (by omega)
  ·skip
   refine XK.skip ?_
   refine XK.inBlock ?_
   refine XK.region rfl ?_
   refine XO.q (Q.add rfl rfl ⟨by omega, by omega⟩) ?_
   refine XO.q (Q.move rfl) (XO.done ?_)
   refine XK.inLoop' ?_
   refine XK.seq (XK.region rfl ?_)
   refine XO.q (Q.lss rfl rfl) ?_
   refine XO.done (XK.seq ?_)
   refine XK.if rfl (fun c2 => ?_) (fun c2 => ?_)
   ·skip
    refine XK.skip (XK.seq (XK.block (XK.seq (XK.region rfl ?_))))
    refine XO.ix rfl rfl (by omega) (by omega) fun i13 => ?_
    refine XO.q (Q.ldE rfl (by first | assumption | omega) rfl) ?_
    first | rw [show ([va, vb] : List Value).getD (Int.toNat 0) default = va from rfl] | rw [show ([va, vb] : List Value).getD (Int.toNat (0 + 1)) default = vb from rfl]
    refine XO.q (Q.assign rfl) (XO.done (XK.seq (XK.region rfl (XO.q (Q.move rfl) (XO.q (Q.move rfl) ?_)))))
    refine XO.len rfl fun l17 => ?_
    refine XO.q (Q.add rfl rfl ⟨by omega, by omega⟩) ?_
    refine XO.q (Q.assign rfl) (XO.done (XK.seq (XK.region rfl (XO.q (Q.move rfl) ?_))))
    refine XO.q (Q.lss rfl rfl) ?_
    refine XO.done ?_
    refine XK.if rfl (fun c3 => ?_) (fun c3 => ?_)
    ·skip
     exact absurd c3 (by omega)
    ·skip
     refine XK.skip ?_
     refine XK.inBlock ?_
     refine XK.region rfl ?_
     refine XO.q (Q.add rfl rfl ⟨by omega, by omega⟩) ?_
     refine XO.q (Q.move rfl) (XO.done ?_)
     refine XK.inLoop' ?_
     refine XK.seq (XK.region rfl ?_)
     refine XO.q (Q.lss rfl rfl) ?_
     refine XO.done (XK.seq ?_)
     refine XK.if rfl (fun c4 => ?_) (fun c4 => ?_)
     ·skip
      exact absurd c4 (by first | decide | simp)
     ·skip
      refine XK.exit rfl ?_
      refine XK.seq (XK.region rfl (XO.q (Q.move rfl) ?_))
      refine XO.call Tryz.call50 rfl rfl rfl (growD_spec (0 + (la.length : Int) + (lb.length : Int)) (by omega) (by omega)) fun v24 s24 R24 => ?_
      obtain ⟨k24, rfl, O24⟩ := R24
      dsimp only [lcA, lnA]
      refine XO.q (Q.assign rfl) (XO.done (XK.seq (XK.seq (XK.region rfl (XO.q (Q.move rfl) ?_)))))
      refine XO.len rfl fun l26 => ?_
      refine XO.q (Q.move rfl) (XO.done (XK.block ?_))
      refine XK.loop' ?_
      refine XK.seq (XK.region rfl ?_)
      refine XO.q (Q.lss rfl rfl) ?_
      refine XO.done (XK.seq ?_)
      refine XK.if rfl (fun c5 => ?_) (fun c5 => ?_)
      ·skip
       refine XK.skip (XK.seq (XK.block (XK.seq (XK.region rfl ?_))))
       refine XO.ix rfl rfl (by omega) (by omega) fun i29 => ?_
       refine XO.q (Q.ldE rfl (by first | assumption | omega) rfl) ?_
       first | rw [show ([va, vb] : List Value).getD (Int.toNat 0) default = va from rfl] | rw [show ([va, vb] : List Value).getD (Int.toNat (0 + 1)) default = vb from rfl]
       refine XO.q (Q.assign rfl) (XO.done (XK.region rfl (XO.q (Q.move rfl) (XO.q (Q.move rfl) ?_))))
       refine XO.append rfl rfl rfl rfl (by simp only [List.length_append, List.length_nil]; omega) fun v33 h33 O33 => ?_
       refine XO.q (Q.assign rfl) (XO.done ?_)
       refine XK.inBlock ?_
       refine XK.region rfl ?_
       refine XO.q (Q.add rfl rfl ⟨by omega, by omega⟩) ?_
       refine XO.q (Q.move rfl) (XO.done ?_)
       refine XK.inLoop' ?_
       refine XK.seq (XK.region rfl ?_)
       refine XO.q (Q.lss rfl rfl) ?_
       refine XO.done (XK.seq ?_)
       refine XK.if rfl (fun c6 => ?_) (fun c6 => ?_)
       ·skip
        refine XK.skip (XK.seq (XK.block (XK.seq (XK.region rfl ?_))))
        refine XO.ix rfl rfl (by omega) (by omega) fun i29 => ?_
        refine XO.q (Q.ldE rfl (by first | assumption | omega) rfl) ?_
        first | rw [show ([va, vb] : List Value).getD (Int.toNat 0) default = va from rfl] | rw [show ([va, vb] : List Value).getD (Int.toNat (0 + 1)) default = vb from rfl]
        refine XO.q (Q.assign rfl) (XO.done (XK.region rfl (XO.q (Q.move rfl) (XO.q (Q.move rfl) ?_))))
        refine XO.append rfl rfl rfl rfl (by simp only [List.length_append, List.length_nil]; omega) fun v33 h33 O33 => ?_
        refine XO.q (Q.assign rfl) (XO.done ?_)
        refine XK.inBlock ?_
        refine XK.region rfl ?_
        refine XO.q (Q.add rfl rfl ⟨by omega, by omega⟩) ?_
        refine XO.q (Q.move rfl) (XO.done ?_)
        refine XK.inLoop' ?_
        refine XK.seq (XK.region rfl ?_)
        refine XO.q (Q.lss rfl rfl) ?_
        refine XO.done (XK.seq ?_)
        refine XK.if rfl (fun c7 => ?_) (fun c7 => ?_)
        ·skip
         exact absurd c7 (by first | decide | simp)
        ·skip
         refine XK.exit rfl ?_
         refine XK.seq (XK.region rfl (XO.q (Q.move rfl) (XO.q (Q.assign rfl) (XO.done ?_))))
         refine XK.rt [h33] Tryz.func11 Tryz.results11 (.t rfl .n) ?_
         exact ⟨h33, rfl, by simpa using O33⟩
       ·skip
        exact absurd (by first | decide | simp) c6
      ·skip
       exact absurd (by first | decide | simp) c5
   ·skip
    exact absurd (by first | decide | simp) c2
 ·skip
  exact absurd (by first | decide | simp) c0
theorem mul64_one (n : Nat) (h : n ≤ 4294967295) : Spec Tryz.prog 99 #[.int .u64 1, .int .u64 (n : Nat)] [] [] (fun v hs => v = .tuple #[.int .u64 0, .int .u64 (n : Nat)] ∧ hs = []) := by
 have h1 : (1 : Int) % 4294967296 = 1 := by decide
 have h2 : (1 : Int) / 4294967296 = 0 := by decide
 have h3 : (n : Int) % 4294967296 = n := by omega
 have h4 : (n : Int) / 4294967296 = 0 := by omega
 have h5 : (0 : Int) % 4294967296 = 0 := by decide
 have h6 : (0 : Int) / 4294967296 = 0 := by decide
 refine Spec.intro (fn := Tryz.f99) (N := 51) Tryz.func99 rfl Tryz.ntmps99 rfl fun B => ?_
 refine XK.seq (XK.region rfl (XO.q (Q.assign rfl) (XO.q (Q.assign rfl) (XO.done (XK.seq ?_)))))
 refine XK.region rfl (XO.q (Q.move rfl) ?_)
 refine XO.q (Q.mask32 rfl rfl (by omega)) ?_
 rw [h1]
 refine XO.q (Q.assign rfl) (XO.done (XK.seq (XK.region rfl (XO.q (Q.move rfl) ?_))))
 refine XO.q (Q.shr32 rfl rfl) ?_
 rw [h2]
 refine XO.q (Q.assign rfl) (XO.done (XK.seq (XK.region rfl (XO.q (Q.move rfl) ?_))))
 refine XO.q (Q.mask32 rfl rfl (by omega)) ?_
 rw [h3]
 refine XO.q (Q.assign rfl) (XO.done (XK.seq (XK.region rfl (XO.q (Q.move rfl) ?_))))
 refine XO.q (Q.shr32 rfl rfl) ?_
 rw [h4]
 refine XO.q (Q.assign rfl) (XO.done (XK.seq (XK.region rfl (XO.q (Q.move rfl) (XO.q (Q.move rfl) ?_)))))
 refine XO.q (Q.mulU rfl rfl (by omega)) ?_
 rw [Int.one_mul]
 refine XO.q (Q.assign rfl) (XO.done (XK.seq (XK.region rfl (XO.q (Q.move rfl) (XO.q (Q.move rfl) ?_)))))
 refine XO.q (Q.mulU rfl rfl (by omega)) ?_
 rw [Int.zero_mul]
 refine XO.q (Q.move rfl) ?_
 refine XO.q (Q.shr32 rfl rfl) ?_
 rw [h4]
 refine XO.q (Q.addU rfl rfl (by omega)) ?_
 rw [Int.add_zero]
 refine XO.q (Q.assign rfl) (XO.done (XK.seq (XK.region rfl (XO.q (Q.move rfl) ?_))))
 refine XO.q (Q.mask32 rfl rfl (by omega)) ?_
 rw [h5]
 refine XO.q (Q.assign rfl) (XO.done (XK.seq (XK.region rfl (XO.q (Q.move rfl) ?_))))
 refine XO.q (Q.shr32 rfl rfl) ?_
 rw [h6]
 refine XO.q (Q.assign rfl) (XO.done (XK.seq (XK.region rfl (XO.q (Q.move rfl) (XO.q (Q.move rfl) ?_)))))
 refine XO.q (Q.move rfl) ?_
 refine XO.q (Q.mulU rfl rfl (by omega)) ?_
 rw [Int.mul_zero]
 refine XO.q (Q.addU rfl rfl (by omega)) ?_
 rw [Int.add_zero]
 refine XO.q (Q.assign rfl) (XO.done (XK.seq (XK.region rfl (XO.q (Q.move rfl) (XO.q (Q.move rfl) ?_)))))
 refine XO.q (Q.mulU rfl rfl (by omega)) ?_
 rw [Int.mul_zero]
 refine XO.q (Q.move rfl) ?_
 refine XO.q (Q.addU rfl rfl (by omega)) ?_
 rw [Int.add_zero]
 refine XO.q (Q.move rfl) ?_
 refine XO.q (Q.shr32 rfl rfl) ?_
 rw [h6]
 refine XO.q (Q.addU rfl rfl (by omega)) ?_
 rw [Int.add_zero]
 refine XO.q (Q.assign rfl) (XO.done (XK.seq (XK.region rfl (XO.q (Q.move rfl) (XO.q (Q.move rfl) ?_)))))
 refine XO.q (Q.mulU rfl rfl (by omega)) ?_
 rw [Int.one_mul]
 refine XO.q (Q.assign rfl) (XO.done ?_)
 refine XK.rt [] Tryz.func99 Tryz.results99 (.t rfl (.t rfl .n)) ?_
 exact ⟨rfl, rfl⟩
theorem mul_one' (n : Nat) (h : n ≤ 4294967295) : Spec Tryz.prog 51 #[.int .u64 1, .int .u64 (n : Nat)] [] [] (fun v hs => v = .tuple #[.int .u64 0, .int .u64 (n : Nat)] ∧ hs = []) := by
 refine Spec.intro (fn := Tryz.f51) (N := 30) Tryz.func51 rfl Tryz.ntmps51 rfl fun B => ?_
 refine XK.seq (XK.region rfl (XO.q (Q.assign rfl) (XO.q (Q.assign rfl) (XO.done (XK.seq ?_)))))
 refine XK.if rfl (fun c0 => ?_) (fun c0 => ?_)
 ·skip
  exact c0.elim
 ·skip
  refine XK.skip (XK.seq (XK.region rfl (XO.q (Q.move rfl) (XO.q (Q.move rfl) ?_))))
  refine XO.call Tryz.call99 rfl rfl rfl (mul64_one n h) fun v25 s25 R25 => ?_
  obtain ⟨rfl, rfl⟩ := R25
  dsimp only [lcA, lnA]
  refine XO.q (Q.move rfl) ?_
  refine XO.q (Q.extract rfl rfl) ?_
  refine XO.q (Q.extract rfl rfl) ?_
  refine XO.q (Q.assign rfl) (XO.q (Q.assign rfl) (XO.done (XK.seq (XK.region rfl (XO.q (Q.move rfl) ?_)))))
  refine XO.q (Q.move rfl) (XO.q (Q.assign rfl) (XO.q (Q.assign rfl) (XO.done ?_)))
  refine XK.rt [] Tryz.func51 Tryz.results51 (.t rfl (.t rfl .n)) ?_
  exact ⟨rfl, rfl⟩
theorem repeatJ (v : Value) (h : PHeap) (x : Value × PJob) [s : Arr v encPJ 6 h [x]] (n : Nat) (hn : n ≤ 4294967295) : Spec Tryz.prog 12 #[v, .int .i64 (n : Nat)] [] [h] (fun v' hs => ∃ h', hs = [h'] ∧ OArr v' encPJ 6 41 h' (List.replicate n x)) := by
 have hw1 : IntKind.u64.wrap ((([x] : List (Value × PJob)).length : Nat) : Int) = 1 := rfl
 have hw2 : IntKind.u64.wrap ((n : Nat) : Int) = n := wrapu64 (by omega)
 have hw3 : IntKind.i64.wrap ((n : Nat) : Int) = n := wrap64_of ⟨by omega, by omega⟩
 have hl1 : ([x] : List (Value × PJob)).length = 1 := rfl
 refine Spec.intro (fn := Tryz.f12) (N := 48) Tryz.func12 rfl Tryz.ntmps12 rfl fun B => ?_
 refine XK.seq (XK.region rfl (XO.q (Q.assign rfl) (XO.done (XK.seq (XK.seq ?_)))))
 refine XK.region rfl (XO.q (Q.move rfl) ?_)
 refine XO.q (Q.lss rfl rfl) ?_
 refine XO.done ?_
 refine XK.if rfl (fun c0 => ?_) (fun c0 => ?_)
 ·skip
  exact absurd c0 (by omega)
 ·skip
  refine XK.skip (XK.seq (XK.region rfl (XO.q (Q.move rfl) ?_)))
  refine XO.len rfl fun l14 => ?_
  refine XO.q (Q.conv rfl) ?_
  rw [hw1]
  refine XO.q (Q.move rfl) ?_
  refine XO.q (Q.conv rfl) ?_
  rw [hw2]
  refine XO.call Tryz.call51 rfl rfl rfl (mul_one' n hn) fun v18 s18 R18 => ?_
  obtain ⟨rfl, rfl⟩ := R18
  dsimp only [lcA, lnA]
  refine XO.q (Q.move rfl) ?_
  refine XO.q (Q.extract rfl rfl) ?_
  refine XO.q (Q.extract rfl rfl) ?_
  refine XO.q (Q.assign rfl) (XO.q (Q.assign rfl) (XO.done (XK.seq (XK.seq (XK.region rfl ?_)))))
  refine XO.q (Q.move rfl) ?_
  refine XO.q (Q.gtr rfl rfl) ?_
  refine XO.q (Q.move rfl) ?_
  refine XO.q (Quiet.guardF rfl rfl fun g24 p24 => Q.move rfl) ?_
  refine XO.q (Quiet.guardF rfl rfl fun g25 p25 => Q.gtr (lzv g25 rfl) rfl) ?_
  refine XO.q (Q.or rfl (fun hp => lzv hp rfl)) ?_
  refine XO.done ?_
  refine XK.if rfl (fun c1 => ?_) (fun c1 => ?_)
  ·skip
   exact absurd c1 (by omega)
  ·skip
   refine XK.skip (XK.seq (XK.region rfl (XO.q (Q.move rfl) ?_)))
   refine XO.q (Q.conv rfl) ?_
   rw [hw3]
   refine XO.make encPJ (((.slice none 0 0, ⟨0, 0, 0, [], 0, 0⟩) : Value × PJob)) rfl rfl rfl (by omega) (by omega) (fun _ => rfl) rfl rfl rfl (by dsimp only [encPJ]; infer_instance) fun v30 h30 O30 => ?_
   refine XO.q (Q.assign rfl) (XO.done (XK.seq (XK.region rfl (XO.q (Q.move rfl) (XO.q (Q.move rfl) ?_)))))
   refine XO.copy rfl (tailv_zero (s := O30)).symm rfl (by omega) fun h33 O33 => ?_
   rw [show min ([x] : List (Value × PJob)).length ((List.replicate n ((.slice none 0 0, ⟨0, 0, 0, [], 0, 0⟩) : Value × PJob)).length - 0) = min 1 n by simp]
   refine XO.q (Q.assign rfl) (XO.done (XK.seq (XK.block ?_)))
   refine XK.while (X := Nat × PHeap) [8, 34, 35, 36, 37, 38, 39, 40, 41, 42, 43, 44, 45, 46] (fun ⟨m, hM⟩ => [(8, some (.int .i64 (m : Nat)))]) (fun ⟨m, hM⟩ => [hM]) (fun ⟨m, hM⟩ => m ≤ n ∧ (0 < n → 0 < m) ∧ OArr v30 encPJ 6 41 hM (List.replicate m x ++ List.replicate (n - m) ((.slice none 0 0, ⟨0, 0, 0, [], 0, 0⟩) : Value × PJob))) (fun ⟨m, hM⟩ => n - m) (min 1 n, h33) [h33] rfl ⟨by omega, by omega, by have := O33; rw [repeat_first] at this; exact this⟩ (.c rfl (.base 0 rfl rfl)) ?_
   rintro ⟨m, hM⟩ ⟨hm, hm0, OM⟩ ih0
   dsimp only [lcA, lnA] at ih0 ⊢
   have hlm : (List.replicate m x ++ List.replicate (n - m) ((.slice none 0 0, ⟨0, 0, 0, [], 0, 0⟩) : Value × PJob)).length = n := by rw [List.length_append, List.length_replicate, List.length_replicate]; omega
   have hmm : min (((List.replicate m x ++ List.replicate (n - m) ((.slice none 0 0, ⟨0, 0, 0, [], 0, 0⟩) : Value × PJob)).drop 0).take (m - 0)).length ((List.replicate m x ++ List.replicate (n - m) ((.slice none 0 0, ⟨0, 0, 0, [], 0, 0⟩) : Value × PJob)).length - m) = min m (n - m) := by
    rw [hlm, List.drop_zero, List.length_take, hlm]; omega
   refine XK.seq (XK.seq (XK.region rfl (XO.q (Q.move rfl) (XO.q (Q.move rfl) ?_))))
   refine XO.len rfl fun l36 => ?_
   refine XO.q (Q.lss rfl rfl) ?_
   refine XO.done ?_
   refine XK.if rfl (fun c2 => ?_) (fun c2 => ?_)
   ·skip
    refine XK.skip (XK.block ?_)
    refine XK.drawn [0, 1, 2, 3, 4, 5, 6, 8, 9] [] [] (.q 0 (.q 1 (.q 2 (.q 3 (.q 4 (.q 5 (.q 6 (.br 7 true (.q 8 (.q 9 .done)) .stop)))))))) Tryz.mixed rfl (by kernel_rfl) ?_
    refine XT.q rfl rfl (Q.move rfl) ?_
    refine XT.q rfl rfl (Q.move rfl) ?_
    refine XT.q rfl rfl (Q.move rfl) ?_
    refine XT.q rfl rfl (Q.tail (i := m) rfl (.s rfl (by omega)) (by omega)) ?_
    refine XT.q rfl rfl (Q.move rfl) ?_
    refine XT.q rfl rfl (Q.move rfl) ?_
    refine XT.q rfl rfl (Q.cut (i := 0) (j := m) rfl .n (.s rfl (by omega)) (by omega) (by omega)) ?_
    have A44 := Arr.cut (v := v30) (i := 0) (j := m) inferInstance (by omega) (by omega)
    refine XT.copy rfl rfl rfl rfl rfl (by omega) (fun h45 O45 => ⟨inferInstance, ?_⟩) XT.stop
    rw [hmm]
    refine XT.q rfl rfl (Q.add rfl rfl ⟨by omega, by omega⟩) ?_
    rw [show ((m : Int) + ((min m (n - m) : Nat) : Int)) = ((m + min m (n - m) : Nat) : Int) from rfl]
    refine XT.q rfl rfl (Q.assign rfl) ?_
    refine XT.done ?_
    refine XK.inBlock ?_
    exact ih0 (m + min m (n - m), h45) _ _ ⟨by omega, by omega, by have := O45; rw [repeat_step x ((.slice none 0 0, ⟨0, 0, 0, [], 0, 0⟩) : Value × PJob) hm] at this; exact this⟩ (by first | omega | (dsimp only; omega)) (.c rfl (.base 29 rfl rfl)) inferInstance
   ·skip
    refine XK.exit rfl ?_
    refine XK.seq (XK.region rfl (XO.q (Q.move rfl) (XO.q (Q.assign rfl) (XO.done ?_))))
    refine XK.rt [hM] Tryz.func12 Tryz.results12 (.t rfl .n) ?_
    have hmn : m = n := by omega
    subst hmn
    exact ⟨hM, rfl, by simpa using OM⟩
end Go.X
