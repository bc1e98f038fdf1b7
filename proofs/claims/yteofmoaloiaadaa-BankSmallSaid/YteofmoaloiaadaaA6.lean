/- A part of the proof: a small program logic, plain laws and contracts of functions, each proved by a walk through its operations. No condition but those that stand in each theorem. -/
import Derived.Test.YteofmoaloiaadaaA5
set_option linter.unusedSimpArgs false
set_option linter.unusedVariables false
set_option maxRecDepth 20000
namespace Go.X
open Go.Proofs
theorem RRun_spec (b : BBank) (vb vg : Value) (hb hg : PHeap) [ib : Arr vb encBat 4 hb b.bats] [ig : Arr vg encGen 5 hg b.gens] (l : List BSpan) (vl : Value) (hl : PHeap) [il : Arr vl encSpan 2 hl l] (fs : List Int) (vf : Value) (hf : PHeap) [jf : Arr vf encI 1 hf fs] : Spec Try.prog 42 #[.agg #[vb, vg], vl, vf] [] [hb, hg, hl, hf] (fun v hs => ∃ ve vn ke kn, v = .tuple #[resV (if readyP b l fs = 0 then runP b (powers l) fs else ⟨0, [], [], 0⟩) ve vn, .int .i64 (readyP b l fs)] ∧ hs = [ke, kn] ∧ OArr ve encI 1 3 ke (if readyP b l fs = 0 then runP b (powers l) fs else ⟨0, [], [], 0⟩).energy ∧ OArr vn encI 1 3 kn (if readyP b l fs = 0 then runP b (powers l) fs else ⟨0, [], [], 0⟩).burnt) := by
  refine Spec.intro (fn := Try.f42) (N := 31) Try.func42 rfl Try.ntmps42 rfl fun B => ?_
  refine XK.seq ?_
  refine XK.region rfl ?_
  refine XO.box rfl fun b3 => ?_
  refine XO.alloc fun b6 => ?_
  refine XO.q (Q.assign rfl) ?_
  refine XO.done ?_
  refine XK.seq ?_
  refine XK.region rfl ?_
  refine XO.q (Q.ldA [_, _] rfl rfl rfl) ?_
  refine XO.q (Q.move rfl) ?_
  refine XO.q (Q.move rfl) ?_
  refine XO.call Try.call74 rfl rfl rfl (Rready_spec b vb vg hb hg l vl hl fs vf hf) fun v16 s16 R16 => ?_
  obtain ⟨vp, kp, rfl, rfl, OP⟩ := R16
  dsimp only [List.cons_append, List.nil_append]
  refine XO.q (Q.move rfl) ?_
  refine XO.q (Q.extract rfl rfl) ?_
  refine XO.q (Q.extract rfl rfl) ?_
  refine XO.q (Q.assign rfl) ?_
  refine XO.q (Q.assign rfl) ?_
  refine XO.done ?_
  refine XK.seq ?_
  refine XK.seq ?_
  refine XK.region rfl ?_
  refine XO.q (Q.move rfl) ?_
  refine XO.q (Q.neq rfl rfl) ?_
  refine XO.done ?_
  refine XK.if rfl (fun c0 => ?_) (fun c0 => ?_)
  · have _t0 := True.intro
    refine XK.seq ?_
    refine XK.region rfl ?_
    refine XO.q (Q.build [_, _, _, _] (.n _)) ?_
    refine XO.q (Q.move rfl) ?_
    refine XO.st rfl rfl rfl ?_
    refine XO.q (Q.assign rfl) ?_
    refine XO.done ?_
    refine XK.rt [emp, emp] Try.func42 Try.results42 (.cell [_, _, _, _] rfl rfl rfl (.t rfl .n)) ?_
    rw [if_neg c0]
    exact ⟨.slice none 0 0, .slice none 0 0, emp, emp, rfl, rfl, OArr.nil (fun _ => rfl), OArr.nil (fun _ => rfl)⟩
  · have _t0 := True.intro
    have e0 := Decidable.of_not_not c0
    have rk := readyP_iff.1 e0
    rw [if_pos e0] at OP
    have wk := pwOk rk.ol
    refine XK.skip ?_
    refine XK.seq ?_
    refine XK.region rfl ?_
    refine XO.q (Q.ldA [_, _] rfl rfl rfl) ?_
    refine XO.q (Q.move rfl) ?_
    refine XO.q (Q.move rfl) ?_
    refine XO.call Try.call56 rfl rfl rfl (play_off b vb vg hb hg (powers l) vp kp fs vf hf rk.ob rk.of wk) fun v27 s27 R27 => ?_
    obtain ⟨ve, vn, vo, ke, kn, ko, us, K, rfl, rfl, OE, OB, OO, RR⟩ := R27
    dsimp only [List.cons_append, List.nil_append]
    refine XO.q (Q.move rfl) ?_
    refine XO.q (Q.extract rfl rfl) ?_
    refine XO.q (Q.extract rfl rfl) ?_
    refine XO.alloc fun b10 => ?_
    refine XO.st rfl rfl rfl ?_
    refine XO.q (Q.assign rfl) ?_
    refine XO.done ?_
    refine XK.seq ?_
    refine XK.region rfl ?_
    refine XO.q (Q.ldA [_, _, _, _] rfl rfl rfl) ?_
    refine XO.st rfl rfl rfl ?_
    refine XO.q (Q.assign rfl) ?_
    refine XO.done ?_
    refine XK.rt [ke, kn] Try.func42 Try.results42 (.cell [_, _, _, _] rfl rfl rfl (.t rfl .n)) ?_
    rw [if_pos e0, e0]
    exact ⟨ve, vn, ke, kn, rfl, rfl, OE, OB⟩
theorem RTrace_spec (b : BBank) (vb vg : Value) (hb hg : PHeap) [ib : Arr vb encBat 4 hb b.bats] [ig : Arr vg encGen 5 hg b.gens] (l : List BSpan) (vl : Value) (hl : PHeap) [il : Arr vl encSpan 2 hl l] (fs : List Int) (vf : Value) (hf : PHeap) [jf : Arr vf encI 1 hf fs] : Spec Try.prog 43 #[.agg #[vb, vg], vl, vf] [] [hb, hg, hl, hf] (fun v hs => ∃ vo ho us K, v = .tuple #[vo, .int .i64 (readyP b l fs)] ∧ hs = [ho, K] ∧ OArr vo encV 1 39 ho us ∧ RowsK us K (if readyP b l fs = 0 then traceP b (powers l) fs else [])) := by
  refine Spec.intro (fn := Try.f43) (N := 30) Try.func43 rfl Try.ntmps43 rfl fun B => ?_
  refine XK.seq ?_
  refine XK.region rfl ?_
  refine XO.box rfl fun b3 => ?_
  refine XO.q (Q.assign rfl) ?_
  refine XO.q (Q.assign rfl) ?_
  refine XO.done ?_
  refine XK.seq ?_
  refine XK.region rfl ?_
  refine XO.q (Q.ldA [_, _] rfl rfl rfl) ?_
  refine XO.q (Q.move rfl) ?_
  refine XO.q (Q.move rfl) ?_
  refine XO.call Try.call74 rfl rfl rfl (Rready_spec b vb vg hb hg l vl hl fs vf hf) fun v16 s16 R16 => ?_
  obtain ⟨vp, kp, rfl, rfl, OP⟩ := R16
  dsimp only [List.cons_append, List.nil_append]
  refine XO.q (Q.move rfl) ?_
  refine XO.q (Q.extract rfl rfl) ?_
  refine XO.q (Q.extract rfl rfl) ?_
  refine XO.q (Q.assign rfl) ?_
  refine XO.q (Q.assign rfl) ?_
  refine XO.done ?_
  refine XK.seq ?_
  refine XK.seq ?_
  refine XK.region rfl ?_
  refine XO.q (Q.move rfl) ?_
  refine XO.q (Q.neq rfl rfl) ?_
  refine XO.done ?_
  refine XK.if rfl (fun c0 => ?_) (fun c0 => ?_)
  · have _t0 := True.intro
    refine XK.seq ?_
    refine XK.region rfl ?_
    refine XO.q (Q.move rfl) ?_
    refine XO.q (Q.assign rfl) ?_
    refine XO.q (Q.assign rfl) ?_
    refine XO.done ?_
    refine XK.rt [emp, emp] Try.func43 Try.results43 (.t rfl (.t rfl .n)) ?_
    rw [if_neg c0]
    exact ⟨.slice none 0 0, emp, [], emp, rfl, rfl, OArr.nil (fun _ => rfl), RowsK.nil⟩
  · have _t0 := True.intro
    have e0 := Decidable.of_not_not c0
    have rk := readyP_iff.1 e0
    rw [if_pos e0] at OP
    have wk := pwOk rk.ol
    refine XK.skip ?_
    refine XK.seq ?_
    refine XK.region rfl ?_
    refine XO.q (Q.ldA [_, _] rfl rfl rfl) ?_
    refine XO.q (Q.move rfl) ?_
    refine XO.q (Q.move rfl) ?_
    refine XO.call Try.call56 rfl rfl rfl (play_off b vb vg hb hg (powers l) vp kp fs vf hf rk.ob rk.of wk) fun v26 s26 R26 => ?_
    obtain ⟨ve, vn, vo, ke, kn, ko, us, K, rfl, rfl, OE, OB, OO, RR⟩ := R26
    dsimp only [List.cons_append, List.nil_append]
    refine XO.q (Q.move rfl) ?_
    refine XO.q (Q.extract rfl rfl) ?_
    refine XO.q (Q.extract rfl rfl) ?_
    refine XO.alloc fun b10 => ?_
    refine XO.st rfl rfl rfl ?_
    refine XO.q (Q.assign rfl) ?_
    refine XO.done ?_
    refine XK.seq ?_
    refine XK.region rfl ?_
    refine XO.q (Q.move rfl) ?_
    refine XO.q (Q.assign rfl) ?_
    refine XO.q (Q.assign rfl) ?_
    refine XO.done ?_
    refine XK.rt [ko, K] Try.func43 Try.results43 (.t rfl (.t rfl .n)) ?_
    rw [if_pos e0, e0]
    exact ⟨vo, ko, us, K, rfl, rfl, OO, RR⟩
theorem RLack_spec (b : BBank) (vb vg : Value) (hb hg : PHeap) [ib : Arr vb encBat 4 hb b.bats] [ig : Arr vg encGen 5 hg b.gens] (l : List BSpan) (vl : Value) (hl : PHeap) [il : Arr vl encSpan 2 hl l] (fs : List Int) (vf : Value) (hf : PHeap) [jf : Arr vf encI 1 hf fs] : Spec Try.prog 44 #[.agg #[vb, vg], vl, vf] [] [hb, hg, hl, hf] (fun v hs => v = .tuple #[.int .i64 (if readyP b l fs = 0 then lackP b (powers l) fs else 0), .int .i64 (readyP b l fs)] ∧ hs = []) := by
  refine Spec.intro (fn := Try.f44) (N := 31) Try.func44 rfl Try.ntmps44 rfl fun B => ?_
  refine XK.seq ?_
  refine XK.region rfl ?_
  refine XO.box rfl fun b3 => ?_
  refine XO.q (Q.assign rfl) ?_
  refine XO.q (Q.assign rfl) ?_
  refine XO.done ?_
  refine XK.seq ?_
  refine XK.region rfl ?_
  refine XO.q (Q.ldA [_, _] rfl rfl rfl) ?_
  refine XO.q (Q.move rfl) ?_
  refine XO.q (Q.move rfl) ?_
  refine XO.call Try.call74 rfl rfl rfl (Rready_spec b vb vg hb hg l vl hl fs vf hf) fun v16 s16 R16 => ?_
  obtain ⟨vp, kp, rfl, rfl, OP⟩ := R16
  dsimp only [List.cons_append, List.nil_append]
  refine XO.q (Q.move rfl) ?_
  refine XO.q (Q.extract rfl rfl) ?_
  refine XO.q (Q.extract rfl rfl) ?_
  refine XO.q (Q.assign rfl) ?_
  refine XO.q (Q.assign rfl) ?_
  refine XO.done ?_
  refine XK.seq ?_
  refine XK.seq ?_
  refine XK.region rfl ?_
  refine XO.q (Q.move rfl) ?_
  refine XO.q (Q.neq rfl rfl) ?_
  refine XO.done ?_
  refine XK.if rfl (fun c0 => ?_) (fun c0 => ?_)
  · have _t0 := True.intro
    refine XK.seq ?_
    refine XK.region rfl ?_
    refine XO.q (Q.move rfl) ?_
    refine XO.q (Q.assign rfl) ?_
    refine XO.q (Q.assign rfl) ?_
    refine XO.done ?_
    refine XK.rt [] Try.func44 Try.results44 (.t rfl (.t rfl .n)) ?_
    exact ⟨by rw [if_neg c0], rfl⟩
  · have _t0 := True.intro
    have e0 := Decidable.of_not_not c0
    have rk := readyP_iff.1 e0
    rw [if_pos e0] at OP
    have wk := pwOk rk.ol
    refine XK.skip ?_
    refine XK.seq ?_
    refine XK.region rfl ?_
    refine XO.q (Q.ldA [_, _] rfl rfl rfl) ?_
    refine XO.q (Q.move rfl) ?_
    refine XO.q (Q.move rfl) ?_
    refine XO.call Try.call56 rfl rfl rfl (play_on b vb vg hb hg (powers l) vp kp fs vf hf rk.ob rk.of wk) fun v26 s26 R26 => ?_
    obtain ⟨ve, vn, vo, sv, rfl, rfl, oe, on, oo⟩ := R26
    dsimp only [List.cons_append, List.nil_append]
    refine XO.q (Q.move rfl) ?_
    refine XO.q (Q.extract rfl rfl) ?_
    refine XO.q (Q.extract rfl rfl) ?_
    refine XO.alloc fun b10 => ?_
    refine XO.st rfl rfl rfl ?_
    refine XO.q (Q.assign rfl) ?_
    refine XO.done ?_
    refine XK.seq ?_
    refine XK.region rfl ?_
    refine XO.q (Q.fieldAddr rfl) ?_
    refine XO.q (Q.ld rfl rfl) ?_
    refine XO.q (Q.assign rfl) ?_
    refine XO.q (Q.assign rfl) ?_
    refine XO.done ?_
    refine XK.rt [] Try.func44 Try.results44 (.t rfl (.t rfl .n)) ?_
    exact ⟨by rw [if_pos e0, e0], rfl⟩
theorem equalB_eq (x y : BBat) : (!(decide (x.energy = y.energy) && (decide (x.full = y.full) && (decide (x.power = y.power) && (decide (x.charge = y.charge) && true))))) = decide (¬ x = y) := by
  cases x; cases y
  rw [Bool.eq_iff_iff]
  simp
theorem equalB (v1 v2 : Value) (h1 h2 : PHeap) (xs ys : List BBat) [s1 : Arr v1 encBat 4 h1 xs] [s2 : Arr v2 encBat 4 h2 ys] :
    Spec Try.prog 61 #[v1, v2] [] [h1, h2] (fun v hs => v = .bool (decide (xs = ys)) ∧ hs = []) := by
  refine Spec.intro (fn := Try.f61) (N := 26) Try.func61 rfl Try.ntmps61 rfl fun B => ?_
  refine XK.seq ?_
  refine XK.region rfl ?_
  refine XO.q (Q.assign rfl) ?_
  refine XO.done ?_
  refine XK.seq ?_
  refine XK.seq ?_
  refine XK.region rfl ?_
  refine XO.q (Q.move rfl) ?_
  refine XO.len rfl fun l7 => ?_
  refine XO.q (Q.move rfl) ?_
  refine XO.len rfl fun l9 => ?_
  refine XO.q (Q.neq rfl rfl) ?_
  refine XO.done ?_
  refine XK.if rfl (fun c0 => ?_) (fun c0 => ?_)
  · have _t0 := True.intro
    refine XK.seq ?_
    refine XK.region rfl ?_
    refine XO.q (Q.assign rfl) ?_
    refine XO.done ?_
    refine XK.rt [] Try.func61 Try.results61 (.t rfl .n) ?_
    exact ⟨by rw [decide_eq_false (fun h => c0 (by rw [h]))], rfl⟩
  · have _t0 := True.intro
    refine XK.skip ?_
    refine XK.seq ?_
    refine XK.seq ?_
    refine XK.region rfl ?_
    refine XO.q (Q.move rfl) ?_
    refine XO.len rfl fun l12 => ?_
    refine XO.q (Q.move rfl) ?_
    refine XO.done ?_
    refine XK.block ?_
    refine XK.while (X := Nat) [4, 5, 13, 14, 15, 16, 17, 18, 19, 20, 21, 22, 23, 24, 25] (fun i => [(13, some (.int .i64 (i : Nat)))]) (fun i => []) (fun i => i ≤ xs.length ∧ xs.take i = ys.take i) (fun i => xs.length - i) (0) [] rfl ⟨by omega, rfl⟩ (.c rfl (.base 0 rfl rfl)) ?_
    rintro i ⟨hi, ht⟩ ih0
    dsimp only [List.cons_append, List.nil_append] at ih0 ⊢
    refine XK.seq ?_
    refine XK.region rfl ?_
    refine XO.q (Q.lss rfl rfl) ?_
    refine XO.done ?_
    refine XK.seq ?_
    refine XK.if rfl (fun c1 => ?_) (fun c1 => ?_)
    · have _t1 := True.intro
      refine XK.skip ?_
      refine XK.seq ?_
      refine XK.block ?_
      refine XK.seq ?_
      refine XK.region rfl ?_
      refine XO.q (Q.move rfl) ?_
      refine XO.q (Q.assign rfl) ?_
      refine XO.done ?_
      refine XK.seq ?_
      refine XK.drawn [0, 1, 2, 3, 4, 5, 6, 7, 8] [] [] (.q 0 (.q 1 (.q 2 (.q 3 (.q 4 (.q 5 (.q 6 (.q 7 (.q 8 .done))))))))) Try.mixed rfl (by kernel_rfl) ?_
      refine XT.q rfl rfl (Q.move rfl) ?_
      refine XT.q rfl rfl (Q.move rfl) ?_
      refine XT.ix rfl rfl rfl rfl (by omega) (by omega) fun i18 => ?_
      refine XT.q rfl rfl (Q.ldEA [_, _, _, _] rfl (by first | assumption | omega) rfl rfl) ?_
      refine XT.q rfl rfl (Q.move rfl) ?_
      refine XT.q rfl rfl (Q.move rfl) ?_
      refine XT.ix rfl rfl rfl rfl (by omega) (by omega) fun i22 => ?_
      refine XT.q rfl rfl (Q.ldEA [_, _, _, _] rfl (by first | assumption | omega) rfl rfl) ?_
      refine XT.q rfl rfl (Q.neqS (us := [_, _, _, _]) (vs := [_, _, _, _]) rfl rfl inferInstance (by kernel_rfl) (by kernel_rfl) (.c rfl inferInstance inferInstance rfl rfl (.c rfl inferInstance inferInstance rfl rfl (.c rfl inferInstance inferInstance rfl rfl (.c rfl inferInstance inferInstance rfl rfl .n))))) ?_
      rw [equalB_eq]
      refine XT.done ?_
      refine XK.if rfl (fun c2 => ?_) (fun c2 => ?_)
      · have _t2 := True.intro
        refine XK.seq ?_
        refine XK.region rfl ?_
        refine XO.q (Q.assign rfl) ?_
        refine XO.done ?_
        refine XK.rt [] Try.func61 Try.results61 (.t rfl .n) ?_
        exact ⟨by rw [decide_eq_false (fun h => c2 (by rw [h]))], rfl⟩
      · have _t2 := True.intro
        refine XK.skip ?_
        refine XK.inBlock ?_
        refine XK.region rfl ?_
        refine XO.q (Q.add rfl rfl ⟨by omega, by omega⟩) ?_
        refine XO.q (Q.move rfl) ?_
        refine XO.done ?_
        exact ih0 (i + 1) _ _ ⟨by omega, take_step ht (by omega) (by omega) (Decidable.of_not_not c2)⟩ (by first | omega | (dsimp only; omega)) (.c rfl (.base 30 rfl rfl)) inferInstance
    · have _t1 := True.intro
      refine XK.exit rfl ?_
      refine XK.seq ?_
      refine XK.region rfl ?_
      refine XO.q (Q.assign rfl) ?_
      refine XO.done ?_
      refine XK.rt [] Try.func61 Try.results61 (.t rfl .n) ?_
      exact ⟨by rw [decide_eq_true (take_all ht c1 (by omega))], rfl⟩
theorem equalG_eq (x y : BGen) : (!(decide (x.power = y.power) && (decide (x.ramp = y.ramp) && (decide (x.delay = y.delay) && (decide (x.pause = y.pause) && (decide (x.tries = y.tries) && true)))))) = decide (¬ x = y) := by
  cases x; cases y
  rw [Bool.eq_iff_iff]
  simp
theorem equalG (v1 v2 : Value) (h1 h2 : PHeap) (xs ys : List BGen) [s1 : Arr v1 encGen 5 h1 xs] [s2 : Arr v2 encGen 5 h2 ys] :
    Spec Try.prog 62 #[v1, v2] [] [h1, h2] (fun v hs => v = .bool (decide (xs = ys)) ∧ hs = []) := by
  refine Spec.intro (fn := Try.f62) (N := 26) Try.func62 rfl Try.ntmps62 rfl fun B => ?_
  refine XK.seq ?_
  refine XK.region rfl ?_
  refine XO.q (Q.assign rfl) ?_
  refine XO.done ?_
  refine XK.seq ?_
  refine XK.seq ?_
  refine XK.region rfl ?_
  refine XO.q (Q.move rfl) ?_
  refine XO.len rfl fun l7 => ?_
  refine XO.q (Q.move rfl) ?_
  refine XO.len rfl fun l9 => ?_
  refine XO.q (Q.neq rfl rfl) ?_
  refine XO.done ?_
  refine XK.if rfl (fun c0 => ?_) (fun c0 => ?_)
  · have _t0 := True.intro
    refine XK.seq ?_
    refine XK.region rfl ?_
    refine XO.q (Q.assign rfl) ?_
    refine XO.done ?_
    refine XK.rt [] Try.func62 Try.results62 (.t rfl .n) ?_
    exact ⟨by rw [decide_eq_false (fun h => c0 (by rw [h]))], rfl⟩
  · have _t0 := True.intro
    refine XK.skip ?_
    refine XK.seq ?_
    refine XK.seq ?_
    refine XK.region rfl ?_
    refine XO.q (Q.move rfl) ?_
    refine XO.len rfl fun l12 => ?_
    refine XO.q (Q.move rfl) ?_
    refine XO.done ?_
    refine XK.block ?_
    refine XK.while (X := Nat) [4, 5, 13, 14, 15, 16, 17, 18, 19, 20, 21, 22, 23, 24, 25] (fun i => [(13, some (.int .i64 (i : Nat)))]) (fun i => []) (fun i => i ≤ xs.length ∧ xs.take i = ys.take i) (fun i => xs.length - i) (0) [] rfl ⟨by omega, rfl⟩ (.c rfl (.base 0 rfl rfl)) ?_
    rintro i ⟨hi, ht⟩ ih0
    dsimp only [List.cons_append, List.nil_append] at ih0 ⊢
    refine XK.seq ?_
    refine XK.region rfl ?_
    refine XO.q (Q.lss rfl rfl) ?_
    refine XO.done ?_
    refine XK.seq ?_
    refine XK.if rfl (fun c1 => ?_) (fun c1 => ?_)
    · have _t1 := True.intro
      refine XK.skip ?_
      refine XK.seq ?_
      refine XK.block ?_
      refine XK.seq ?_
      refine XK.region rfl ?_
      refine XO.q (Q.move rfl) ?_
      refine XO.q (Q.assign rfl) ?_
      refine XO.done ?_
      refine XK.seq ?_
      refine XK.drawn [0, 1, 2, 3, 4, 5, 6, 7, 8] [] [] (.q 0 (.q 1 (.q 2 (.q 3 (.q 4 (.q 5 (.q 6 (.q 7 (.q 8 .done))))))))) Try.mixed rfl (by kernel_rfl) ?_
      refine XT.q rfl rfl (Q.move rfl) ?_
      refine XT.q rfl rfl (Q.move rfl) ?_
      refine XT.ix rfl rfl rfl rfl (by omega) (by omega) fun i18 => ?_
      refine XT.q rfl rfl (Q.ldEA [_, _, _, _, _] rfl (by first | assumption | omega) rfl rfl) ?_
      refine XT.q rfl rfl (Q.move rfl) ?_
      refine XT.q rfl rfl (Q.move rfl) ?_
      refine XT.ix rfl rfl rfl rfl (by omega) (by omega) fun i22 => ?_
      refine XT.q rfl rfl (Q.ldEA [_, _, _, _, _] rfl (by first | assumption | omega) rfl rfl) ?_
      refine XT.q rfl rfl (Q.neqS (us := [_, _, _, _, _]) (vs := [_, _, _, _, _]) rfl rfl inferInstance (by kernel_rfl) (by kernel_rfl) (.c rfl inferInstance inferInstance rfl rfl (.c rfl inferInstance inferInstance rfl rfl (.c rfl inferInstance inferInstance rfl rfl (.c rfl inferInstance inferInstance rfl rfl (.c rfl inferInstance inferInstance rfl rfl .n)))))) ?_
      rw [equalG_eq]
      refine XT.done ?_
      refine XK.if rfl (fun c2 => ?_) (fun c2 => ?_)
      · have _t2 := True.intro
        refine XK.seq ?_
        refine XK.region rfl ?_
        refine XO.q (Q.assign rfl) ?_
        refine XO.done ?_
        refine XK.rt [] Try.func62 Try.results62 (.t rfl .n) ?_
        exact ⟨by rw [decide_eq_false (fun h => c2 (by rw [h]))], rfl⟩
      · have _t2 := True.intro
        refine XK.skip ?_
        refine XK.inBlock ?_
        refine XK.region rfl ?_
        refine XO.q (Q.add rfl rfl ⟨by omega, by omega⟩) ?_
        refine XO.q (Q.move rfl) ?_
        refine XO.done ?_
        exact ih0 (i + 1) _ _ ⟨by omega, take_step ht (by omega) (by omega) (Decidable.of_not_not c2)⟩ (by first | omega | (dsimp only; omega)) (.c rfl (.base 30 rfl rfl)) inferInstance
    · have _t1 := True.intro
      refine XK.exit rfl ?_
      refine XK.seq ?_
      refine XK.region rfl ?_
      refine XO.q (Q.assign rfl) ?_
      refine XO.done ?_
      refine XK.rt [] Try.func62 Try.results62 (.t rfl .n) ?_
      exact ⟨by rw [decide_eq_true (take_all ht c1 (by omega))], rfl⟩
theorem equalS_eq (x y : BSpan) : (!(decide (x.seconds = y.seconds) && (decide (x.power = y.power) && true))) = decide (¬ x = y) := by
  cases x; cases y
  rw [Bool.eq_iff_iff]
  simp
theorem equalS (v1 v2 : Value) (h1 h2 : PHeap) (xs ys : List BSpan) [s1 : Arr v1 encSpan 2 h1 xs] [s2 : Arr v2 encSpan 2 h2 ys] :
    Spec Try.prog 27 #[v1, v2] [] [h1, h2] (fun v hs => v = .bool (decide (xs = ys)) ∧ hs = []) := by
  refine Spec.intro (fn := Try.f27) (N := 26) Try.func27 rfl Try.ntmps27 rfl fun B => ?_
  refine XK.seq ?_
  refine XK.region rfl ?_
  refine XO.q (Q.assign rfl) ?_
  refine XO.done ?_
  refine XK.seq ?_
  refine XK.seq ?_
  refine XK.region rfl ?_
  refine XO.q (Q.move rfl) ?_
  refine XO.len rfl fun l7 => ?_
  refine XO.q (Q.move rfl) ?_
  refine XO.len rfl fun l9 => ?_
  refine XO.q (Q.neq rfl rfl) ?_
  refine XO.done ?_
  refine XK.if rfl (fun c0 => ?_) (fun c0 => ?_)
  · have _t0 := True.intro
    refine XK.seq ?_
    refine XK.region rfl ?_
    refine XO.q (Q.assign rfl) ?_
    refine XO.done ?_
    refine XK.rt [] Try.func27 Try.results27 (.t rfl .n) ?_
    exact ⟨by rw [decide_eq_false (fun h => c0 (by rw [h]))], rfl⟩
  · have _t0 := True.intro
    refine XK.skip ?_
    refine XK.seq ?_
    refine XK.seq ?_
    refine XK.region rfl ?_
    refine XO.q (Q.move rfl) ?_
    refine XO.len rfl fun l12 => ?_
    refine XO.q (Q.move rfl) ?_
    refine XO.done ?_
    refine XK.block ?_
    refine XK.while (X := Nat) [4, 5, 13, 14, 15, 16, 17, 18, 19, 20, 21, 22, 23, 24, 25] (fun i => [(13, some (.int .i64 (i : Nat)))]) (fun i => []) (fun i => i ≤ xs.length ∧ xs.take i = ys.take i) (fun i => xs.length - i) (0) [] rfl ⟨by omega, rfl⟩ (.c rfl (.base 0 rfl rfl)) ?_
    rintro i ⟨hi, ht⟩ ih0
    dsimp only [List.cons_append, List.nil_append] at ih0 ⊢
    refine XK.seq ?_
    refine XK.region rfl ?_
    refine XO.q (Q.lss rfl rfl) ?_
    refine XO.done ?_
    refine XK.seq ?_
    refine XK.if rfl (fun c1 => ?_) (fun c1 => ?_)
    · have _t1 := True.intro
      refine XK.skip ?_
      refine XK.seq ?_
      refine XK.block ?_
      refine XK.seq ?_
      refine XK.region rfl ?_
      refine XO.q (Q.move rfl) ?_
      refine XO.q (Q.assign rfl) ?_
      refine XO.done ?_
      refine XK.seq ?_
      refine XK.drawn [0, 1, 2, 3, 4, 5, 6, 7, 8] [] [] (.q 0 (.q 1 (.q 2 (.q 3 (.q 4 (.q 5 (.q 6 (.q 7 (.q 8 .done))))))))) Try.mixed rfl (by kernel_rfl) ?_
      refine XT.q rfl rfl (Q.move rfl) ?_
      refine XT.q rfl rfl (Q.move rfl) ?_
      refine XT.ix rfl rfl rfl rfl (by omega) (by omega) fun i18 => ?_
      refine XT.q rfl rfl (Q.ldEA [_, _] rfl (by first | assumption | omega) rfl rfl) ?_
      refine XT.q rfl rfl (Q.move rfl) ?_
      refine XT.q rfl rfl (Q.move rfl) ?_
      refine XT.ix rfl rfl rfl rfl (by omega) (by omega) fun i22 => ?_
      refine XT.q rfl rfl (Q.ldEA [_, _] rfl (by first | assumption | omega) rfl rfl) ?_
      refine XT.q rfl rfl (Q.neqS (us := [_, _]) (vs := [_, _]) rfl rfl inferInstance (by kernel_rfl) (by kernel_rfl) (.c rfl inferInstance inferInstance rfl rfl (.c rfl inferInstance inferInstance rfl rfl .n))) ?_
      rw [equalS_eq]
      refine XT.done ?_
      refine XK.if rfl (fun c2 => ?_) (fun c2 => ?_)
      · have _t2 := True.intro
        refine XK.seq ?_
        refine XK.region rfl ?_
        refine XO.q (Q.assign rfl) ?_
        refine XO.done ?_
        refine XK.rt [] Try.func27 Try.results27 (.t rfl .n) ?_
        exact ⟨by rw [decide_eq_false (fun h => c2 (by rw [h]))], rfl⟩
      · have _t2 := True.intro
        refine XK.skip ?_
        refine XK.inBlock ?_
        refine XK.region rfl ?_
        refine XO.q (Q.add rfl rfl ⟨by omega, by omega⟩) ?_
        refine XO.q (Q.move rfl) ?_
        refine XO.done ?_
        exact ih0 (i + 1) _ _ ⟨by omega, take_step ht (by omega) (by omega) (Decidable.of_not_not c2)⟩ (by first | omega | (dsimp only; omega)) (.c rfl (.base 30 rfl rfl)) inferInstance
    · have _t1 := True.intro
      refine XK.exit rfl ?_
      refine XK.seq ?_
      refine XK.region rfl ?_
      refine XO.q (Q.assign rfl) ?_
      refine XO.done ?_
      refine XK.rt [] Try.func27 Try.results27 (.t rfl .n) ?_
      exact ⟨by rw [decide_eq_true (take_all ht c1 (by omega))], rfl⟩
theorem cloneG (v : Value) (h : PHeap) (xs : List BGen) [s : Arr v encGen 5 h xs] (hl : xs.length ≤ 68719476736) :
    Spec Try.prog 51 #[v] [] [h] (fun v' hs => ∃ h', hs = [h'] ∧ OArr v' encGen 5 85 h' xs) := by
  refine Spec.intro (fn := Try.f51) (N := 8) Try.func51 rfl Try.ntmps51 rfl fun B => ?_
  refine XK.seq ?_
  refine XK.region rfl ?_
  refine XO.q (Q.assign rfl) ?_
  refine XO.done ?_
  refine XK.seq ?_
  refine XK.seq ?_
  refine XK.region rfl ?_
  refine XO.q (Q.move rfl) ?_
  refine XO.eqNil rfl fun z4 hz4 => ?_
  refine XO.done ?_
  refine XK.if rfl (fun c0 => ?_) (fun c0 => ?_)
  · have _t0 := True.intro
    refine XK.seq ?_
    refine XK.region rfl ?_
    refine XO.q (Q.assign rfl) ?_
    refine XO.done ?_
    refine XK.rt [emp] Try.func51 Try.results51 (.t rfl .n) ?_
    exact ⟨emp, rfl, by rw [(hz4 c0).1]; exact OArr.nil (fun _ => rfl)⟩
  · have _t0 := True.intro
    refine XK.skip ?_
    refine XK.seq ?_
    refine XK.region rfl ?_
    refine XO.lit [] [] [] encGen (by rfl) (by rfl) rfl (by rfl) (by exact .n _) (fun _ => rfl) (by rfl) rfl (by infer_instance) rfl fun v5 h5 O5 => ?_
    refine XO.q (Q.move rfl) ?_
    refine XO.append rfl rfl rfl rfl (by first | omega | (simp; omega)) fun v7 h7 O7 => ?_
    refine XO.q (Q.assign rfl) ?_
    refine XO.done ?_
    refine XK.rt [h7] Try.func51 Try.results51 (.t rfl .n) ?_
    exact ⟨h7, rfl, O7⟩
theorem take_rec {α : Type} [Inhabited α] {l : List α} {i : Nat} (hi : i < l.length) : l.take (i + 1) = l.take i ++ [l.getD i default] := take_snocB hi
theorem copied06 (b : BBank) (vb vg : Value) (hb hg : PHeap) [ib : Arr vb encBat 4 hb b.bats] [ig : Arr vg encGen 5 hg b.gens] (nb : b.bats.length ≤ 1000) (ng : b.gens.length ≤ 1000) : Spec Try.prog 15 #[.agg #[vb, vg]] [] [hb, hg] (fun v hs => ∃ vb1 vg1 vb2 vg2 kb1 kg1 kb2 kg2, v = .tuple #[.agg #[vb1, vg1], .agg #[vb2, vg2]] ∧ hs = [kb1, kg1, kb2, kg2] ∧ OArr vb1 encBat 4 73 kb1 b.bats ∧ OArr vg1 encGen 5 85 kg1 b.gens ∧ OArr vb2 encBat 4 104 kb2 b.bats ∧ OArr vg2 encGen 5 88 kg2 b.gens) := by
  have nB : OArr (.slice none 0 0) encBat 4 104 emp ([] : List BBat) := OArr.nil (fun _ => rfl)
  have nG : OArr (.slice none 0 0) encGen 5 88 emp ([] : List BGen) := OArr.nil (fun _ => rfl)
  refine Spec.intro (fn := Try.f15) (N := 47) Try.func15 rfl Try.ntmps15 rfl fun B => ?_
  refine XK.seq ?_
  refine XK.region rfl ?_
  refine XO.box rfl fun b1 => ?_
  refine XO.alloc fun b2 => ?_
  refine XO.alloc fun b3 => ?_
  refine XO.done ?_
  refine XK.seq ?_
  refine XK.meet (X := Nat × Value × Value × PHeap × PHeap) [4, 10, 11, 12, 13, 14, 15, 16] (fun ⟨b4, v12, v15, k12, k15⟩ => [(4, some (ptr b4 0))]) (fun ⟨b4, v12, v15, k12, k15⟩ => [blk b4 [v12, v15] 25, k12, k15]) (fun ⟨b4, v12, v15, k12, k15⟩ => OArr v12 encBat 4 73 k12 b.bats ∧ OArr v15 encGen 5 85 k15 b.gens) [] ?_ ?_
  · rintro ⟨b4, v12, v15, k12, k15⟩ ⟨O12, O15⟩
    dsimp only [List.cons_append, List.nil_append]
    refine XK.seq ?_
    refine XK.region rfl ?_
    refine XO.alloc fun b5 => ?_
    refine XO.done ?_
    refine XK.seq ?_
    refine XK.seq ?_
    refine XK.region rfl ?_
    refine XO.q (Q.fieldAddr rfl) ?_
    refine XO.q (Q.ld rfl rfl) ?_
    refine XO.len rfl fun l19 => ?_
    refine XO.q (Q.move rfl) ?_
    refine XO.done ?_
    refine XK.block ?_
    refine XK.while (X := Nat × Value × PHeap) [7, 20, 21, 22, 23, 24, 25, 26, 27, 28, 29, 30] (fun ⟨i, w, k⟩ => [(20, some (.int .i64 (i : Nat)))]) (fun ⟨i, w, k⟩ => [blk b5 [w, .slice none 0 0] 33, k]) (fun ⟨i, w, k⟩ => i ≤ b.bats.length ∧ OArr w encBat 4 104 k (b.bats.take i)) (fun ⟨i, w, k⟩ => b.bats.length - i) (0, .slice none 0 0, emp) [blk b5 [.slice none 0 0, .slice none 0 0] 33, emp] rfl ⟨by omega, nB⟩ (.c rfl (.base 0 rfl rfl)) ?_
    rintro ⟨i, w, k⟩ ⟨hi, OB⟩ ih0
    dsimp only [List.cons_append, List.nil_append] at ih0 ⊢
    have el : (b.bats.take i).length = i := by rw [List.length_take]; omega
    refine XK.seq ?_
    refine XK.region rfl ?_
    refine XO.q (Q.lss rfl rfl) ?_
    refine XO.done ?_
    refine XK.seq ?_
    refine XK.if rfl (fun c0 => ?_) (fun c0 => ?_)
    · have _t0 := True.intro
      refine XK.skip ?_
      refine XK.seq ?_
      refine XK.block ?_
      refine XK.seq ?_
      refine XK.region rfl ?_
      refine XO.ix rfl rfl (by omega) (by omega) fun i22 => ?_
      refine XO.q (Q.ldEA [_, _, _, _] rfl (by first | assumption | omega) rfl rfl) ?_
      refine XO.alloc fun b7 => ?_
      refine XO.st rfl rfl rfl ?_
      refine XO.done ?_
      refine XK.region rfl ?_
      refine XO.q (Q.fieldAddr rfl) ?_
      refine XO.q (Q.ld rfl rfl) ?_
      refine XO.q (Q.ldA [_, _, _, _] rfl rfl rfl) ?_
      refine XO.lit [_, _, _, _] [_, _, _, _] [b.bats.getD i default] encBat (by rfl) (by rfl) rfl (by rfl) (by exact .c 0 4 rfl rfl rfl (.n _)) (fun _ => rfl) (by rfl) rfl (by infer_instance) rfl fun v27 h27 O27 => ?_
      refine XO.append rfl rfl rfl rfl (by first | omega | (simp; omega)) fun v28 h28 O28 => ?_
      refine XO.q (Q.fieldAddr rfl) ?_
      refine XO.st rfl rfl rfl ?_
      refine XO.done ?_
      refine XK.inBlock ?_
      refine XK.region rfl ?_
      refine XO.q (Q.add rfl rfl ⟨by omega, by omega⟩) ?_
      refine XO.q (Q.move rfl) ?_
      refine XO.done ?_
      exact ih0 (i + 1, v28, h28) _ _ ⟨by dsimp only; omega, by dsimp only; rw [take_rec (by omega)]; exact O28⟩ (by first | omega | (dsimp only; omega)) (.c rfl (.base 25 rfl rfl)) inferInstance
    · have _t0 := True.intro
      have hil : i = b.bats.length := by omega
      subst hil
      rw [List.take_length] at OB
      clear ih0
      refine XK.exit rfl ?_
      refine XK.seq ?_
      refine XK.seq ?_
      refine XK.region rfl ?_
      refine XO.q (Q.fieldAddr rfl) ?_
      refine XO.q (Q.ld rfl rfl) ?_
      refine XO.len rfl fun l33 => ?_
      refine XO.q (Q.move rfl) ?_
      refine XO.done ?_
      refine XK.block ?_
      refine XK.while (X := Nat × Value × PHeap) [9, 34, 35, 36, 37, 38, 39, 40, 41, 42, 43, 44] (fun ⟨i, w2, k2⟩ => [(34, some (.int .i64 (i : Nat)))]) (fun ⟨i, w2, k2⟩ => [blk b5 [w, w2] 33, k2]) (fun ⟨i, w2, k2⟩ => i ≤ b.gens.length ∧ OArr w2 encGen 5 88 k2 (b.gens.take i)) (fun ⟨i, w2, k2⟩ => b.gens.length - i) (0, .slice none 0 0, emp) [blk b5 [w, .slice none 0 0] 33, emp] rfl ⟨by omega, nG⟩ (.c rfl (.base 0 rfl rfl)) ?_
      rintro ⟨i, w2, k2⟩ ⟨hi, OG⟩ ih1
      dsimp only [List.cons_append, List.nil_append] at ih1 ⊢
      have el : (b.gens.take i).length = i := by rw [List.length_take]; omega
      refine XK.seq ?_
      refine XK.region rfl ?_
      refine XO.q (Q.lss rfl rfl) ?_
      refine XO.done ?_
      refine XK.seq ?_
      refine XK.if rfl (fun c1 => ?_) (fun c1 => ?_)
      · have _t1 := True.intro
        refine XK.skip ?_
        refine XK.seq ?_
        refine XK.block ?_
        refine XK.seq ?_
        refine XK.region rfl ?_
        refine XO.ix rfl rfl (by omega) (by omega) fun i36 => ?_
        refine XO.q (Q.ldEA [_, _, _, _, _] rfl (by first | assumption | omega) rfl rfl) ?_
        refine XO.alloc fun b9 => ?_
        refine XO.st rfl rfl rfl ?_
        refine XO.done ?_
        refine XK.region rfl ?_
        refine XO.q (Q.fieldAddr rfl) ?_
        refine XO.q (Q.ld rfl rfl) ?_
        refine XO.q (Q.ldA [_, _, _, _, _] rfl rfl rfl) ?_
        refine XO.lit [_, _, _, _, _] [_, _, _, _, _] [b.gens.getD i default] encGen (by rfl) (by rfl) rfl (by rfl) (by exact .c 0 5 rfl rfl rfl (.n _)) (fun _ => rfl) (by rfl) rfl (by infer_instance) rfl fun v41 h41 O41 => ?_
        refine XO.append rfl rfl rfl rfl (by first | omega | (simp; omega)) fun v42 h42 O42 => ?_
        refine XO.q (Q.fieldAddr rfl) ?_
        refine XO.st rfl rfl rfl ?_
        refine XO.done ?_
        refine XK.inBlock ?_
        refine XK.region rfl ?_
        refine XO.q (Q.add rfl rfl ⟨by omega, by omega⟩) ?_
        refine XO.q (Q.move rfl) ?_
        refine XO.done ?_
        exact ih1 (i + 1, v42, h42) _ _ ⟨by dsimp only; omega, by dsimp only; rw [take_rec (by omega)]; exact O42⟩ (by first | omega | (dsimp only; omega)) (.c rfl (.base 25 rfl rfl)) inferInstance
      · have _t1 := True.intro
        refine XK.exit rfl ?_
        refine XK.seq ?_
        refine XK.drawn [0, 1] [b4, b5] [] (.q 0 (.q 1 (.br 2 true (.br 3 false .done .stop) .stop))) Try.mixed rfl (by kernel_rfl) ?_
        refine XT.q rfl rfl (Q.ldA [_, _] rfl rfl rfl) ?_
        refine XT.q rfl rfl (Q.ldA [_, _] rfl rfl rfl) ?_
        refine XT.st rfl rfl rfl rfl rfl ⟨inferInstance, ?_⟩ XT.stop
        refine XT.st rfl rfl rfl rfl rfl ⟨inferInstance, ?_⟩ XT.stop
        refine XT.done ?_
        refine XK.rt [k12, k15, k, k2] Try.func15 Try.results15 (.cell [_, _] rfl rfl rfl (.cell [_, _] rfl rfl rfl (.n))) ?_
        have hil : i = b.gens.length := by omega
        subst hil
        rw [List.take_length] at OG
        exact ⟨v12, v15, w, w2, k12, k15, k, k2, rfl, rfl, O12, O15, OB, OG⟩
  · intro mtr1
    dsimp only [List.cons_append, List.nil_append] at mtr1
    refine XK.drawn [0, 1, 3, 4, 6] [b1] [] (.q 0 (.q 1 (.q 3 (.q 4 (.br 2 true (.br 5 true (.q 6 (.br 7 true (.br 8 false .done .stop) .stop)) (.br 7 true (.br 5 true (.q 6 (.br 8 false .done .stop)) .stop) .stop)) (.br 7 true (.br 2 true (.br 5 true (.q 6 (.br 8 false .done .stop)) .stop) .stop) .stop)))))) Try.mixed rfl (by kernel_rfl) ?_
    refine XT.q rfl rfl (Q.fieldAddr rfl) ?_
    refine XT.q rfl rfl (Q.ld rfl rfl) ?_
    refine XT.q rfl rfl (Q.fieldAddr rfl) ?_
    refine XT.q rfl rfl (Q.ld rfl rfl) ?_
    refine XT.call rfl rfl Try.call34 rfl rfl rfl (cloneB vb hb b.bats (by omega)) (fun v12 s12 R12 => ?_) ?_
    · skip
      obtain ⟨k12, rfl, O12⟩ := R12
      dsimp only [List.cons_append, List.nil_append]
      refine ⟨inferInstance, ?_⟩
      refine XT.call rfl rfl Try.call51 rfl rfl rfl (cloneG vg hg b.gens (by omega)) (fun v15 s15 R15 => ?_) ?_
      · skip
        obtain ⟨k15, rfl, O15⟩ := R15
        dsimp only [List.cons_append, List.nil_append]
        refine ⟨inferInstance, ?_⟩
        refine XT.q rfl rfl (Q.build [_, _] (.c 0 1 rfl rfl rfl (.c 1 1 rfl rfl rfl (.n _)))) ?_
        refine XT.alloc rfl rfl (fun b4 => ⟨inferInstance, ?_⟩) XT.stop
        refine XT.st rfl rfl rfl rfl rfl ⟨inferInstance, ?_⟩ XT.stop
        refine XT.done ?_
        exact mtr1 ((b4, v12, v15, k12, k15)) _ _ ⟨O12, O15⟩ (.c rfl (.base 8 rfl rfl)) inferInstance
      · skip
        refine XT.alloc rfl rfl (fun b4 => ⟨inferInstance, ?_⟩) XT.stop
        refine XT.call rfl rfl Try.call51 rfl rfl rfl (cloneG vg hg b.gens (by omega)) (fun v15 s15 R15 => ?_) XT.stop
        obtain ⟨k15, rfl, O15⟩ := R15
        dsimp only [List.cons_append, List.nil_append]
        refine ⟨inferInstance, ?_⟩
        refine XT.q rfl rfl (Q.build [_, _] (.c 0 1 rfl rfl rfl (.c 1 1 rfl rfl rfl (.n _)))) ?_
        refine XT.st rfl rfl rfl rfl rfl ⟨inferInstance, ?_⟩ XT.stop
        refine XT.done ?_
        exact mtr1 ((b4, v12, v15, k12, k15)) _ _ ⟨O12, O15⟩ (.c rfl (.base 8 rfl rfl)) inferInstance
    · skip
      refine XT.alloc rfl rfl (fun b4 => ⟨inferInstance, ?_⟩) XT.stop
      refine XT.call rfl rfl Try.call34 rfl rfl rfl (cloneB vb hb b.bats (by omega)) (fun v12 s12 R12 => ?_) XT.stop
      obtain ⟨k12, rfl, O12⟩ := R12
      dsimp only [List.cons_append, List.nil_append]
      refine ⟨inferInstance, ?_⟩
      refine XT.call rfl rfl Try.call51 rfl rfl rfl (cloneG vg hg b.gens (by omega)) (fun v15 s15 R15 => ?_) XT.stop
      obtain ⟨k15, rfl, O15⟩ := R15
      dsimp only [List.cons_append, List.nil_append]
      refine ⟨inferInstance, ?_⟩
      refine XT.q rfl rfl (Q.build [_, _] (.c 0 1 rfl rfl rfl (.c 1 1 rfl rfl rfl (.n _)))) ?_
      refine XT.st rfl rfl rfl rfl rfl ⟨inferInstance, ?_⟩ XT.stop
      refine XT.done ?_
      exact mtr1 ((b4, v12, v15, k12, k15)) _ _ ⟨O12, O15⟩ (.c rfl (.base 8 rfl rfl)) inferInstance
theorem spans06 (l : List BSpan) (vl : Value) (hl : PHeap) [il : Arr vl encSpan 2 hl l] (nl : l.length ≤ 1000) : Spec Try.prog 19 #[vl] [] [hl] (fun v hs => ∃ k, hs = [k] ∧ OArr v encSpan 2 113 k l) := by
  have nS : OArr (.slice none 0 0) encSpan 2 113 emp ([] : List BSpan) := OArr.nil (fun _ => rfl)
  refine Spec.intro (fn := Try.f19) (N := 18) Try.func19 rfl Try.ntmps19 rfl fun B => ?_
  refine XK.seq ?_
  refine XK.region rfl ?_
  refine XO.q (Q.assign rfl) ?_
  refine XO.done ?_
  refine XK.seq ?_
  refine XK.region rfl ?_
  refine XO.q (Q.assign rfl) ?_
  refine XO.done ?_
  refine XK.seq ?_
  refine XK.seq ?_
  refine XK.region rfl ?_
  refine XO.q (Q.move rfl) ?_
  refine XO.len rfl fun l7 => ?_
  refine XO.q (Q.move rfl) ?_
  refine XO.done ?_
  refine XK.block ?_
  refine XK.while (X := Nat × Value × PHeap) [3, 5, 8, 9, 10, 11, 12, 13, 14, 15, 16] (fun ⟨i, w, k⟩ => [(3, some (w)), (8, some (.int .i64 (i : Nat)))]) (fun ⟨i, w, k⟩ => [k]) (fun ⟨i, w, k⟩ => i ≤ l.length ∧ OArr w encSpan 2 113 k (l.take i)) (fun ⟨i, w, k⟩ => l.length - i) (0, .slice none 0 0, emp) [emp] rfl ⟨by omega, nS⟩ (.c rfl (.c rfl (.base 0 rfl rfl))) ?_
  rintro ⟨i, w, k⟩ ⟨hi, OS⟩ ih0
  dsimp only [List.cons_append, List.nil_append] at ih0 ⊢
  have el : (l.take i).length = i := by rw [List.length_take]; omega
  refine XK.seq ?_
  refine XK.region rfl ?_
  refine XO.q (Q.lss rfl rfl) ?_
  refine XO.done ?_
  refine XK.seq ?_
  refine XK.if rfl (fun c0 => ?_) (fun c0 => ?_)
  · have _t0 := True.intro
    refine XK.skip ?_
    refine XK.seq ?_
    refine XK.block ?_
    refine XK.seq ?_
    refine XK.region rfl ?_
    refine XO.ix rfl rfl (by omega) (by omega) fun i10 => ?_
    refine XO.q (Q.ldEA [_, _] rfl (by first | assumption | omega) rfl rfl) ?_
    refine XO.alloc fun b5 => ?_
    refine XO.st rfl rfl rfl ?_
    refine XO.done ?_
    refine XK.region rfl ?_
    refine XO.q (Q.move rfl) ?_
    refine XO.q (Q.ldA [_, _] rfl rfl rfl) ?_
    refine XO.lit [_, _] [_, _] [l.getD i default] encSpan (by rfl) (by rfl) rfl (by rfl) (by exact .c 0 2 rfl rfl rfl (.n _)) (fun _ => rfl) (by rfl) rfl (by infer_instance) rfl fun v14 h14 O14 => ?_
    refine XO.append rfl rfl rfl rfl (by first | omega | (simp; omega)) fun v15 h15 O15 => ?_
    refine XO.q (Q.assign rfl) ?_
    refine XO.done ?_
    refine XK.inBlock ?_
    refine XK.region rfl ?_
    refine XO.q (Q.add rfl rfl ⟨by omega, by omega⟩) ?_
    refine XO.q (Q.move rfl) ?_
    refine XO.done ?_
    exact ih0 (i + 1, v15, h15) _ _ ⟨by dsimp only; omega, by dsimp only; rw [take_rec (by omega)]; exact O15⟩ (by first | omega | (dsimp only; omega)) (.c rfl (.c rfl (.base 24 rfl rfl))) inferInstance
  · have _t0 := True.intro
    refine XK.exit rfl ?_
    refine XK.seq ?_
    refine XK.region rfl ?_
    refine XO.q (Q.move rfl) ?_
    refine XO.q (Q.assign rfl) ?_
    refine XO.done ?_
    refine XK.rt [k] Try.func19 Try.results19 (.t rfl .n) ?_
    have hil : i = l.length := by omega
    subst hil
    rw [List.take_length] at OS
    exact ⟨k, rfl, OS⟩
theorem same06 (b c : BBank) (vb vg wb wg : Value) (hb hg jb jg : PHeap) [ib : Arr vb encBat 4 hb b.bats] [ig : Arr vg encGen 5 hg b.gens] [kb : Arr wb encBat 4 jb c.bats] [kg : Arr wg encGen 5 jg c.gens] : Spec Try.prog 26 #[.agg #[vb, vg], .agg #[wb, wg]] [] [hb, hg, jb, jg] (fun v hs => v = .bool (decide (b.bats = c.bats) && decide (b.gens = c.gens)) ∧ hs = []) := by
  refine Spec.intro (fn := Try.f26) (N := 17) Try.func26 rfl Try.ntmps26 rfl fun B => ?_
  refine XK.seq ?_
  refine XK.region rfl ?_
  refine XO.box rfl fun b2 => ?_
  refine XO.box rfl fun b3 => ?_
  refine XO.q (Q.assign rfl) ?_
  refine XO.done ?_
  refine XK.seq ?_
  refine XK.region rfl ?_
  refine XO.q (Q.fieldAddr rfl) ?_
  refine XO.q (Q.ld rfl rfl) ?_
  refine XO.q (Q.fieldAddr rfl) ?_
  refine XO.q (Q.ld rfl rfl) ?_
  refine XO.call Try.call61 rfl rfl rfl (equalB vb wb hb jb b.bats c.bats) fun v9 s9 R9 => ?_
  obtain ⟨rfl, rfl⟩ := R9
  dsimp only [List.cons_append, List.nil_append]
  refine XO.q (Q.move rfl) ?_
  refine XO.q (Quiet.guardT rfl rfl fun g11 p11 => Q.fieldAddr rfl) ?_
  refine XO.q (Quiet.guardT rfl rfl fun g12 p12 => Q.ld (lzv g12 rfl) rfl) ?_
  refine XO.q (Quiet.guardT rfl rfl fun g13 p13 => Q.fieldAddr rfl) ?_
  refine XO.q (Quiet.guardT rfl rfl fun g14 p14 => Q.ld (lzv g14 rfl) rfl) ?_
  refine XO.gcallT rfl rfl Try.call62 rfl (fun g15 => .c (lzv g15 rfl) (.c (lzv g15 rfl) .n)) rfl (fun g15 p15 => equalG vg wg hg jg b.gens c.gens) ?_
  refine XO.q (Q.and rfl (fun hp => lzv hp rfl)) ?_
  refine XO.q (Q.assign rfl) ?_
  refine XO.done ?_
  refine XK.rt [] Try.func26 Try.results26 (.t rfl .n) ?_
  exact ⟨rfl, rfl⟩
theorem alike06 (r q : BRes) (ve vn we wn : Value) (he hn je jn : PHeap) [i1 : Arr ve encI 1 he r.energy] [i2 : Arr vn encI 1 hn r.burnt] [j1 : Arr we encI 1 je q.energy] [j2 : Arr wn encI 1 jn q.burnt] : Spec Try.prog 25 #[resV r ve vn, resV q we wn] [] [he, hn, je, jn] (fun v hs => v = .bool (((decide (r.dark = q.dark) && decide (r.energy = q.energy)) && decide (r.burnt = q.burnt)) && decide (r.served = q.served)) ∧ hs = []) := by
  refine Spec.intro (fn := Try.f25) (N := 31) Try.func25 rfl Try.ntmps25 rfl fun B => ?_
  refine XK.seq ?_
  refine XK.region rfl ?_
  refine XO.box rfl fun b2 => ?_
  refine XO.box rfl fun b3 => ?_
  refine XO.q (Q.assign rfl) ?_
  refine XO.done ?_
  refine XK.seq ?_
  refine XK.region rfl ?_
  refine XO.q (Q.fieldAddr rfl) ?_
  refine XO.q (Q.ld rfl rfl) ?_
  refine XO.q (Q.fieldAddr rfl) ?_
  refine XO.q (Q.ld rfl rfl) ?_
  refine XO.q (Q.eql rfl rfl) ?_
  refine XO.q (Q.move rfl) ?_
  refine XO.q (Quiet.guardT rfl rfl fun g11 p11 => Q.fieldAddr rfl) ?_
  refine XO.q (Quiet.guardT rfl rfl fun g12 p12 => Q.ld (lzv g12 rfl) rfl) ?_
  refine XO.q (Quiet.guardT rfl rfl fun g13 p13 => Q.fieldAddr rfl) ?_
  refine XO.q (Quiet.guardT rfl rfl fun g14 p14 => Q.ld (lzv g14 rfl) rfl) ?_
  refine XO.gcallT rfl rfl Try.call24 rfl (fun g15 => .c (lzv g15 rfl) (.c (lzv g15 rfl) .n)) rfl (fun g15 p15 => equalI ve we he je r.energy q.energy) ?_
  refine XO.q (Q.and rfl (fun hp => lzv hp rfl)) ?_
  refine XO.q (Q.move rfl) ?_
  refine XO.q (Quiet.guardT rfl rfl fun g18 p18 => Q.fieldAddr rfl) ?_
  refine XO.q (Quiet.guardT rfl rfl fun g19 p19 => Q.ld (lzv g19 rfl) rfl) ?_
  refine XO.q (Quiet.guardT rfl rfl fun g20 p20 => Q.fieldAddr rfl) ?_
  refine XO.q (Quiet.guardT rfl rfl fun g21 p21 => Q.ld (lzv g21 rfl) rfl) ?_
  refine XO.gcallT rfl rfl Try.call24 rfl (fun g22 => .c (lzv g22 rfl) (.c (lzv g22 rfl) .n)) rfl (fun g22 p22 => equalI vn wn hn jn r.burnt q.burnt) ?_
  refine XO.q (Q.and rfl (fun hp => lzv hp rfl)) ?_
  refine XO.q (Q.move rfl) ?_
  refine XO.q (Quiet.guardT rfl rfl fun g25 p25 => Q.fieldAddr rfl) ?_
  refine XO.q (Quiet.guardT rfl rfl fun g26 p26 => Q.ld (lzv g26 rfl) rfl) ?_
  refine XO.q (Quiet.guardT rfl rfl fun g27 p27 => Q.fieldAddr rfl) ?_
  refine XO.q (Quiet.guardT rfl rfl fun g28 p28 => Q.ld (lzv g28 rfl) rfl) ?_
  refine XO.q (Quiet.guardT rfl rfl fun g29 p29 => Q.eql (lzv g29 rfl) (lzv g29 rfl)) ?_
  refine XO.q (Q.and rfl (fun hp => lzv hp rfl)) ?_
  refine XO.q (Q.assign rfl) ?_
  refine XO.done ?_
  refine XK.rt [] Try.func25 Try.results25 (.t rfl .n) ?_
  exact ⟨rfl, rfl⟩
theorem sameList (va vb : Value) (ha hb : PHeap) (a b : List Int) [ia : Arr va encI 1 ha a] [ib : Arr vb encI 1 hb b] : Spec Try.prog 75 #[va, vb] [] [ha, hb] (fun v hs => v = .bool (decide (a = b)) ∧ hs = []) := by
  refine Spec.intro (fn := Try.f75) (N := 8) Try.func75 rfl Try.ntmps75 rfl fun B => ?_
  refine XK.seq ?_
  refine XK.region rfl ?_
  refine XO.q (Q.assign rfl) ?_
  refine XO.done ?_
  refine XK.seq ?_
  refine XK.region rfl ?_
  refine XO.q (Q.move rfl) ?_
  refine XO.q (Q.move rfl) ?_
  refine XO.call Try.call37 rfl rfl rfl (sameInts va vb ha hb a b) fun v7 s7 R7 => ?_
  obtain ⟨rfl, rfl⟩ := R7
  dsimp only [List.cons_append, List.nil_append]
  refine XO.q (Q.assign rfl) ?_
  refine XO.done ?_
  refine XK.rt [] Try.func75 Try.results75 (.t rfl .n) ?_
  exact ⟨rfl, rfl⟩
theorem sameLists (va vb : Value) (ha hb Ka Kb : PHeap) (us ws : List Value) [ia : Arr va encV 1 ha us] [ib : Arr vb encV 1 hb ws] (a b : List (List Int)) (ra : RowsK us Ka a) (rb : RowsK ws Kb b) : Spec Try.prog 45 #[va, vb] [] [ha, hb, Ka, Kb] (fun v hs => v = .bool (decide (a = b)) ∧ hs = []) := by
  have la := ia.le
  have l1 := ra.1
  have l2 := rb.1
  refine Spec.intro (fn := Try.f45) (N := 27) Try.func45 rfl Try.ntmps45 rfl fun B => ?_
  refine XK.seq ?_
  refine XK.region rfl ?_
  refine XO.q (Q.assign rfl) ?_
  refine XO.done ?_
  refine XK.seq ?_
  refine XK.seq ?_
  refine XK.region rfl ?_
  refine XO.q (Q.move rfl) ?_
  refine XO.len rfl fun l7 => ?_
  refine XO.q (Q.move rfl) ?_
  refine XO.len rfl fun l9 => ?_
  refine XO.q (Q.neq rfl rfl) ?_
  refine XO.done ?_
  refine XK.if rfl (fun c0 => ?_) (fun c0 => ?_)
  · have _t0 := True.intro
    refine XK.seq ?_
    refine XK.region rfl ?_
    refine XO.q (Q.assign rfl) ?_
    refine XO.done ?_
    refine XK.rt [] Try.func45 Try.results45 (.t rfl .n) ?_
    exact ⟨by rw [decide_eq_false (fun h => c0 (by rw [l1, l2, h]))], rfl⟩
  · have _t0 := True.intro
    refine XK.skip ?_
    refine XK.seq ?_
    refine XK.seq ?_
    refine XK.region rfl ?_
    refine XO.q (Q.assign rfl) ?_
    refine XO.done ?_
    refine XK.block ?_
    refine XK.while (X := Nat) [4, 5, 11, 12, 13, 14, 15, 16, 17, 18, 19, 20, 21, 22, 23, 24, 25, 26] (fun i => [(5, some (.int .i64 (i : Nat)))]) (fun i => []) (fun i => i ≤ us.length ∧ a.take i = b.take i) (fun i => us.length - i) (0) [] rfl ⟨by omega, rfl⟩ (.c rfl (.base 0 rfl rfl)) ?_
    rintro i ⟨hi, ht⟩ ih0
    dsimp only [List.cons_append, List.nil_append] at ih0 ⊢
    refine XK.seq ?_
    refine XK.seq ?_
    refine XK.region rfl ?_
    refine XO.q (Q.move rfl) ?_
    refine XO.q (Q.move rfl) ?_
    refine XO.len rfl fun l13 => ?_
    refine XO.q (Q.lss rfl rfl) ?_
    refine XO.done ?_
    refine XK.if rfl (fun c1 => ?_) (fun c1 => ?_)
    · have _t1 := True.intro
      have aa := ra.2 i (by omega)
      have ab := rb.2 i (by omega)
      refine XK.skip ?_
      refine XK.seq ?_
      refine XK.block ?_
      refine XK.seq ?_
      refine XK.drawn [0, 1, 2, 3, 4, 5, 6, 7, 9] [] [] (.q 0 (.q 1 (.q 2 (.q 3 (.q 4 (.q 5 (.q 6 (.q 7 (.br 8 true (.q 9 .done) .stop))))))))) Try.mixed rfl (by kernel_rfl) ?_
      refine XT.q rfl rfl (Q.move rfl) ?_
      refine XT.q rfl rfl (Q.move rfl) ?_
      refine XT.ix rfl rfl rfl rfl (by omega) (by omega) fun i19 => ?_
      refine XT.q rfl rfl (Q.ldE rfl (by first | assumption | omega) rfl) ?_
      refine XT.q rfl rfl (Q.move rfl) ?_
      refine XT.q rfl rfl (Q.move rfl) ?_
      refine XT.ix rfl rfl rfl rfl (by omega) (by omega) fun i23 => ?_
      refine XT.q rfl rfl (Q.ldE rfl (by first | assumption | omega) rfl) ?_
      refine XT.call rfl rfl Try.call75 rfl rfl rfl (sameList (us.getD i default) (ws.getD i default) Ka Kb (a.getD i default) (b.getD i default)) (fun v25 s25 R25 => ?_) XT.stop
      obtain ⟨rfl, rfl⟩ := R25
      dsimp only [List.cons_append, List.nil_append]
      refine ⟨inferInstance, ?_⟩
      refine XT.q rfl rfl (Q.not rfl) ?_
      refine XT.done ?_
      refine XK.if rfl (fun c2 => ?_) (fun c2 => ?_)
      · have _t2 := True.intro
        refine XK.seq ?_
        refine XK.region rfl ?_
        refine XO.q (Q.assign rfl) ?_
        refine XO.done ?_
        refine XK.rt [] Try.func45 Try.results45 (.t rfl .n) ?_
        exact ⟨by rw [decide_eq_false (fun h => c2 (by rw [h]))], rfl⟩
      · have _t2 := True.intro
        refine XK.skip ?_
        refine XK.inBlock ?_
        refine XK.region rfl ?_
        refine XO.q (Q.move rfl) ?_
        refine XO.q (Q.add rfl rfl ⟨by omega, by omega⟩) ?_
        refine XO.q (Q.assign rfl) ?_
        refine XO.done ?_
        exact ih0 (i + 1) _ _ ⟨by omega, take_step ht (by omega) (by omega) (Decidable.of_not_not c2)⟩ (by first | omega | (dsimp only; omega)) (.c rfl (.base 36 rfl rfl)) inferInstance
    · have _t1 := True.intro
      refine XK.exit rfl ?_
      refine XK.seq ?_
      refine XK.region rfl ?_
      refine XO.q (Q.assign rfl) ?_
      refine XO.done ?_
      refine XK.rt [] Try.func45 Try.results45 (.t rfl .n) ?_
      exact ⟨by rw [decide_eq_true (take_all ht (by omega) (by omega))], rfl⟩
structure Near (b : BBank) (l : List BSpan) (fs : List Int) : Prop where
  nb : b.bats.length ≤ 12
  ng : b.gens.length ≤ 9
  nl : l.length ≤ 70
  nf : fs.length ≤ 9
theorem huge06 (b : BBank) (vb vg : Value) (hb hg : PHeap) [ib : Arr vb encBat 4 hb b.bats] [ig : Arr vg encGen 5 hg b.gens] (l : List BSpan) (vl : Value) (hl : PHeap) [il : Arr vl encSpan 2 hl l] (fs : List Int) (vf : Value) (hf : PHeap) [jf : Arr vf encI 1 hf fs] : Spec Try.prog 12 #[.agg #[vb, vg], vl, vf] [] [hb, hg, hl, hf] (fun v hs => ∃ r, v = .bool r ∧ hs = [] ∧ (r = false → Near b l fs)) := by
  have ll := il.le
  refine Spec.intro (fn := Try.f12) (N := 55) Try.func12 rfl Try.ntmps12 rfl fun B => ?_
  refine XK.seq ?_
  refine XK.region rfl ?_
  refine XO.box rfl fun b3 => ?_
  refine XO.q (Q.assign rfl) ?_
  refine XO.done ?_
  refine XK.seq ?_
  refine XK.seq ?_
  refine XK.region rfl ?_
  refine XO.q (Q.fieldAddr rfl) ?_
  refine XO.q (Q.ld rfl rfl) ?_
  refine XO.len rfl fun l12 => ?_
  refine XO.q (Q.gtr rfl rfl) ?_
  refine XO.q (Q.move rfl) ?_
  refine XO.q (Quiet.guardF rfl rfl fun g15 p15 => Q.fieldAddr rfl) ?_
  refine XO.q (Quiet.guardF rfl rfl fun g16 p16 => Q.ld (lzv g16 rfl) rfl) ?_
  refine XO.q (Quiet.guardF rfl rfl fun g17 p17 => Q.len (lzv g17 rfl)) ?_
  refine XO.q (Quiet.guardF rfl rfl fun g18 p18 => Q.gtr (lzv g18 rfl) rfl) ?_
  refine XO.q (Q.or rfl (fun hp => lzv hp rfl)) ?_
  refine XO.q (Q.move rfl) ?_
  refine XO.q (Quiet.guardF rfl rfl fun g21 p21 => Q.move rfl) ?_
  refine XO.q (Quiet.guardF rfl rfl fun g22 p22 => Q.len (lzv g22 rfl)) ?_
  refine XO.q (Quiet.guardF rfl rfl fun g23 p23 => Q.gtr (lzv g23 rfl) rfl) ?_
  refine XO.q (Q.or rfl (fun hp => lzv hp rfl)) ?_
  refine XO.q (Q.move rfl) ?_
  refine XO.q (Quiet.guardF rfl rfl fun g26 p26 => Q.move rfl) ?_
  refine XO.q (Quiet.guardF rfl rfl fun g27 p27 => Q.len (lzv g27 rfl)) ?_
  refine XO.q (Quiet.guardF rfl rfl fun g28 p28 => Q.gtr (lzv g28 rfl) rfl) ?_
  refine XO.q (Q.or rfl (fun hp => lzv hp rfl)) ?_
  refine XO.done ?_
  refine XK.if rfl (fun c0 => ?_) (fun c0 => ?_)
  · have _t0 := True.intro
    refine XK.seq ?_
    refine XK.region rfl ?_
    refine XO.q (Q.assign rfl) ?_
    refine XO.done ?_
    refine XK.rt [] Try.func12 Try.results12 (.t rfl .n) ?_
    exact ⟨true, rfl, rfl, fun h => by cases h⟩
  · have _t0 := True.intro
    have near : Near b l fs := ⟨by omega, by omega, by omega, by omega⟩
    refine XK.skip ?_
    refine XK.seq ?_
    refine XK.region rfl ?_
    refine XO.q (Q.assign rfl) ?_
    refine XO.done ?_
    refine XK.seq ?_
    refine XK.seq ?_
    refine XK.region rfl ?_
    refine XO.q (Q.move rfl) ?_
    refine XO.len rfl fun l31 => ?_
    refine XO.q (Q.move rfl) ?_
    refine XO.done ?_
    refine XK.block ?_
    refine XK.while (X := Nat × Int) [6, 7, 9, 32, 33, 34, 35, 36, 37, 38, 39, 40, 41, 42, 43, 44, 45, 46, 47, 48] (fun ⟨i, n⟩ => [(7, some (.int .i64 n)), (32, some (.int .i64 (i : Nat)))]) (fun ⟨i, n⟩ => []) (fun ⟨i, n⟩ => i ≤ l.length ∧ 0 ≤ n ∧ n ≤ 3600 * i) (fun ⟨i, n⟩ => l.length - i) (0, 0) [] rfl ⟨by omega, by omega, by omega⟩ (.c rfl (.c rfl (.base 0 rfl rfl))) ?_
    rintro ⟨i, n⟩ ⟨hi, n0, n1⟩ ih0
    dsimp only [List.cons_append, List.nil_append] at ih0 ⊢
    refine XK.seq ?_
    refine XK.region rfl ?_
    refine XO.q (Q.lss rfl rfl) ?_
    refine XO.done ?_
    refine XK.seq ?_
    refine XK.if rfl (fun c1 => ?_) (fun c1 => ?_)
    · have _t1 := True.intro
      refine XK.skip ?_
      refine XK.seq ?_
      refine XK.block ?_
      refine XK.seq ?_
      refine XK.region rfl ?_
      refine XO.ix rfl rfl (by omega) (by omega) fun i34 => ?_
      refine XO.q (Q.ldEA [_, _] rfl (by first | assumption | omega) rfl rfl) ?_
      refine XO.alloc fun b9 => ?_
      refine XO.st rfl rfl rfl ?_
      refine XO.done ?_
      refine XK.seq ?_
      refine XK.seq ?_
      refine XK.region rfl ?_
      refine XO.q (Q.fieldAddr rfl) ?_
      refine XO.q (Q.ld rfl rfl) ?_
      refine XO.q (Q.lss rfl rfl) ?_
      refine XO.q (Q.move rfl) ?_
      refine XO.q (Quiet.guardF rfl rfl fun g40 p40 => Q.fieldAddr rfl) ?_
      refine XO.q (Quiet.guardF rfl rfl fun g41 p41 => Q.ld (lzv g41 rfl) rfl) ?_
      refine XO.q (Quiet.guardF rfl rfl fun g42 p42 => Q.gtr (lzv g42 rfl) rfl) ?_
      refine XO.q (Q.or rfl (fun hp => lzv hp rfl)) ?_
      refine XO.done ?_
      refine XK.if rfl (fun c2 => ?_) (fun c2 => ?_)
      · have _t2 := True.intro
        refine XK.seq ?_
        refine XK.region rfl ?_
        refine XO.q (Q.assign rfl) ?_
        refine XO.done ?_
        refine XK.rt [] Try.func12 Try.results12 (.t rfl .n) ?_
        exact ⟨false, rfl, rfl, fun _ => near⟩
      · have _t2 := True.intro
        refine XK.skip ?_
        refine XK.region rfl ?_
        refine XO.q (Q.move rfl) ?_
        refine XO.q (Q.fieldAddr rfl) ?_
        refine XO.q (Q.ld rfl rfl) ?_
        refine XO.q (Q.add rfl rfl ⟨by omega, by omega⟩) ?_
        refine XO.q (Q.assign rfl) ?_
        refine XO.done ?_
        refine XK.inBlock ?_
        refine XK.region rfl ?_
        refine XO.q (Q.add rfl rfl ⟨by omega, by omega⟩) ?_
        refine XO.q (Q.move rfl) ?_
        refine XO.done ?_
        exact ih0 (i + 1, n + (l.getD i default).seconds) _ _ ⟨by dsimp only; omega, by dsimp only; omega, by dsimp only; omega⟩ (by first | omega | (dsimp only; omega)) (.c rfl (.c rfl (.base 41 rfl rfl))) inferInstance
    · have _t1 := True.intro
      refine XK.exit rfl ?_
      refine XK.seq ?_
      refine XK.region rfl ?_
      refine XO.q (Q.move rfl) ?_
      refine XO.q (Q.gtr rfl rfl) ?_
      refine XO.q (Q.move rfl) ?_
      refine XO.q (Quiet.guardT rfl rfl fun g52 p52 => Q.move rfl) ?_
      refine XO.q (Quiet.guardT rfl rfl fun g53 p53 => Q.leq (lzv g53 rfl) rfl) ?_
      refine XO.q (Q.and rfl (fun hp => lzv hp rfl)) ?_
      refine XO.q (Q.assign rfl) ?_
      refine XO.done ?_
      refine XK.rt [] Try.func12 Try.results12 (.t rfl .n) ?_
      exact ⟨_, rfl, rfl, fun _ => near⟩
end Go.X

set_option linter.unusedSimpArgs false
set_option linter.unusedVariables false
set_option maxRecDepth 20000
namespace Go.X
open Go.Proofs
theorem Lists_walk (xs : List BGen) (ok : ∀ g ∈ xs, GenOk g) (ng : xs.length ≤ 6) (m : Int) (hm0 : 0 ≤ m) (hm1 : m ≤ 9223372036854775807) (v : Value) (h : PHeap) [ix : Arr v encGen 5 h xs]
    (IH : xs ≠ [] → ∀ (m' : Int), 0 ≤ m' → m' ≤ 9223372036854775807 → ∀ (v' : Value) (h' : PHeap) [Arr v' encGen 5 h' xs.tail], Spec Try.prog 55 #[v', .int .i64 m'] [] [h'] (fun v' hs => ∃ ho us K, hs = [ho, K] ∧ OArr v' encV 1 39 ho us ∧ RowsK us K (listsL ((xs.tail).map (·.tries)) m'))) : Spec Try.prog 55 #[v, .int .i64 m] [] [h] (fun v' hs => ∃ ho us K, hs = [ho, K] ∧ OArr v' encV 1 39 ho us ∧ RowsK us K (listsL ((xs).map (·.tries)) m)) := by
  have nV : OArr (.slice none 0 0) encV 1 39 emp ([] : List Value) := OArr.nil (fun _ => rfl)
  have lx := ix.le
  refine Spec.intro (fn := Try.f55) (N := 51) Try.func55 rfl Try.ntmps55 rfl fun B => ?_
  refine XK.seq ?_
  refine XK.region rfl ?_
  refine XO.q (Q.assign rfl) ?_
  refine XO.done ?_
  refine XK.seq ?_
  refine XK.seq ?_
  refine XK.region rfl ?_
  refine XO.q (Q.move rfl) ?_
  refine XO.len rfl fun l11 => ?_
  refine XO.q (Q.eql rfl rfl) ?_
  refine XO.done ?_
  refine XK.if rfl (fun c0 => ?_) (fun c0 => ?_)
  · have _t0 := True.intro
    have hx : xs = [] := List.length_eq_zero_iff.1 (by omega)
    refine XK.seq ?_
    refine XK.region rfl ?_
    refine XO.lit [_] [_] [.slice none 0 0] encV (by rfl) (by rfl) rfl (by rfl) (by exact .c 0 1 rfl rfl rfl (.n _)) (fun _ => rfl) (by rfl) rfl (by infer_instance) rfl fun v13 h13 O13 => ?_
    refine XO.q (Q.assign rfl) ?_
    refine XO.done ?_
    refine XK.rt [h13, emp] Try.func55 Try.results55 (.t rfl .n) ?_
    subst hx
    exact ⟨h13, [.slice none 0 0], emp, rfl, O13, ⟨rfl, fun i hi => by
      have hi0 : i = 0 := by simpa using hi
      subst hi0
      exact Arr.nil (fun _ => rfl)⟩⟩
  · have _t0 := True.intro
    obtain ⟨g, gs, rfl⟩ : ∃ g gs, xs = g :: gs := by
      cases xs with
      | nil => exact absurd rfl c0
      | cons g gs => exact ⟨g, gs, rfl⟩
    have gk := ok g List.mem_cons_self
    have gt := gk.t0
    have gt1 := gk.t1
    have gl : gs.length ≤ 5 := by simp at ng; omega
    have tk : ∀ t ∈ gs.map (·.tries), t ≤ 5 := fun t ht => by
      obtain ⟨q, hq, rfl⟩ := List.mem_map.1 ht
      exact (ok q (List.mem_cons_of_mem _ hq)).t1
    have cap := fun q : Int => listsL_le (gs.map (·.tries)) q tk
    rw [List.length_map] at cap
    have cap5 := capL_le gs.length (by omega)
    have bl := fun k => blocks_len (fun q => listsL (gs.map (·.tries)) (m - q)) 46656 (fun q => by have := cap (m - q); (try dsimp only); omega) k
    refine XK.skip ?_
    refine XK.seq ?_
    refine XK.region rfl ?_
    refine XO.q (Q.assign rfl) ?_
    refine XO.done ?_
    refine XK.seq ?_
    refine XK.seq ?_
    refine XK.region rfl ?_
    refine XO.q (Q.assign rfl) ?_
    refine XO.done ?_
    refine XK.block ?_
    refine XK.while (X := Nat × Value × PHeap × List Value × PHeap) [5, 6, 7, 8, 9, 14, 15, 16, 17, 18, 19, 20, 21, 22, 23, 24, 25, 26, 27, 28, 29, 30, 31, 32, 33, 34, 35, 36, 37, 38, 39, 40, 41, 42, 43, 44, 45, 46, 47, 48, 49] (fun ⟨n, vo, ko, us, K⟩ => [(5, some (vo)), (6, some (.int .i64 (n : Nat)))]) (fun ⟨n, vo, ko, us, K⟩ => [ko, K]) (fun ⟨n, vo, ko, us, K⟩ => (n : Int) ≤ g.tries + 1 ∧ (n : Int) ≤ m + 1 ∧ OArr vo encV 1 39 ko us ∧ RowsK us K (blocks (fun q => listsL (gs.map (·.tries)) (m - q)) n)) (fun ⟨n, vo, ko, us, K⟩ => (min g.tries m + 1).toNat - n) (0, .slice none 0 0, emp, [], emp) [emp, emp] rfl ⟨by omega, by omega, nV, RowsK.nil⟩ (.c rfl (.c rfl (.base 0 rfl rfl))) ?_
    rintro ⟨n, vo, ko, us, K⟩ ⟨hn1, hn2, OO, RO⟩ ih0
    dsimp only [List.cons_append, List.nil_append] at ih0 ⊢
    have rol := RO.1
    refine XK.seq ?_
    refine XK.seq ?_
    refine XK.region rfl ?_
    refine XO.q (Q.move rfl) ?_
    refine XO.q (Q.move rfl) ?_
    refine XO.ix rfl rfl (by omega) (by omega) fun i16 => ?_
    refine XO.q (Q.fieldQ rfl (by first | assumption | omega)) ?_
    refine XO.q (Q.ldE rfl (by first | assumption | omega) rfl) ?_
    rw [show (((g :: gs).getD (Int.toNat 0) default).tries) = g.tries from rfl]
    refine XO.q (Q.leq rfl rfl) ?_
    refine XO.q (Q.move rfl) ?_
    refine XO.q (Quiet.guardT rfl rfl fun g21 p21 => Q.move rfl) ?_
    refine XO.q (Quiet.guardT rfl rfl fun g22 p22 => Q.move rfl) ?_
    refine XO.q (Quiet.guardT rfl rfl fun g23 p23 => Q.leq (lzv g23 rfl) (lzv g23 rfl)) ?_
    refine XO.q (Q.and rfl (fun hp => lzv hp rfl)) ?_
    refine XO.done ?_
    refine XK.if rfl (fun c1 => ?_) (fun c1 => ?_)
    · have _t1 := True.intro
      have bln := bl n
      have cln := cap (m - ((n : Nat) : Int))
      refine XK.skip ?_
      refine XK.seq ?_
      refine XK.block ?_
      refine XK.seq ?_
      refine XK.region rfl ?_
      refine XO.q (Q.move rfl) ?_
      refine XO.cut (i := 1) (j := (g :: gs).length) rfl (.s rfl (by omega)) .n (by omega) (by omega) fun v28 A28 => ?_
      have A28 : Arr v28 encGen 5 h ((g :: gs).tail) := by
        have e : ((g :: gs).drop 1).take ((g :: gs).length - 1) = gs := by simp
        rw [e] at A28; exact A28
      refine XO.q (Q.move rfl) ?_
      refine XO.q (Q.move rfl) ?_
      refine XO.q (Q.sub rfl rfl ⟨by omega, by omega⟩) ?_
      refine XO.call Try.call55 rfl rfl rfl (IH (by simp) (m - ((n : Nat) : Int)) (by omega) (by omega) v28 h) fun v32 s32 R32 => ?_
      obtain ⟨kr, ur, KR, rfl, OR, RR⟩ := R32
      dsimp only [List.cons_append, List.nil_append]
      have RR : RowsK ur KR (listsL (gs.map (·.tries)) (m - ((n : Nat) : Int))) := RR
      have rl := RR.1
      refine XO.q (Q.assign rfl) ?_
      refine XO.done ?_
      refine XK.seq ?_
      refine XK.region rfl ?_
      refine XO.q (Q.assign rfl) ?_
      refine XO.done ?_
      refine XK.block ?_
      refine XK.while (X := Nat × Value × PHeap × List Value × PHeap) [5, 8, 9, 33, 34, 35, 36, 37, 38, 39, 40, 41, 42, 43, 44, 45, 46, 47, 48, 49] (fun ⟨i, vo2, ko2, us2, K2⟩ => [(5, some (vo2)), (8, some (.int .i64 (i : Nat)))]) (fun ⟨i, vo2, ko2, us2, K2⟩ => [ko2, K2]) (fun ⟨i, vo2, ko2, us2, K2⟩ => i ≤ (listsL (gs.map (·.tries)) (m - ((n : Nat) : Int))).length ∧ OArr vo2 encV 1 39 ko2 us2 ∧ RowsK us2 K2 (blocks (fun q => listsL (gs.map (·.tries)) (m - q)) n ++ (block (fun q => listsL (gs.map (·.tries)) (m - q)) n).take i)) (fun ⟨i, vo2, ko2, us2, K2⟩ => (listsL (gs.map (·.tries)) (m - ((n : Nat) : Int))).length - i) (0, vo, ko, us, K) [ko, K] rfl ⟨by omega, OO, by rw [List.take_zero, List.append_nil]; exact RO⟩ (.c rfl (.c rfl (.base 0 rfl rfl))) ?_
      rintro ⟨i, vo2, ko2, us2, K2⟩ ⟨hi, OO2, RO2⟩ ih1
      dsimp only [List.cons_append, List.nil_append] at ih1 ⊢
      have rol2 := RO2.1
      have btl : ((block (fun q => listsL (gs.map (·.tries)) (m - q)) n).take i).length = i := by rw [List.length_take, block, List.length_map]; omega
      rw [List.length_append, btl] at rol2
      refine XK.seq ?_
      refine XK.seq ?_
      refine XK.region rfl ?_
      refine XO.q (Q.move rfl) ?_
      refine XO.q (Q.move rfl) ?_
      refine XO.len rfl fun l35 => ?_
      refine XO.q (Q.lss rfl rfl) ?_
      refine XO.done ?_
      refine XK.if rfl (fun c2 => ?_) (fun c2 => ?_)
      · have _t2 := True.intro
        have ari := RR.2 i (by omega)
        have ari : Arr (ur.getD i default) encI 1 KR ((listsL (gs.map (·.tries)) (m - ((n : Nat) : Int))).getD i default) := ari
        have arl := listsL_each (gs.map (·.tries)) (m - ((n : Nat) : Int)) _ (getD_memB (show i < (listsL (gs.map (·.tries)) (m - ((n : Nat) : Int))).length by omega))
        rw [List.length_map] at arl
        refine XK.skip ?_
        refine XK.seq ?_
        refine XK.block ?_
        refine XK.seq ?_
        refine XK.region rfl ?_
        refine XO.q (Q.move rfl) ?_
        refine XO.lit [_] [_] [((n : Nat) : Int)] encI (by rfl) (by rfl) rfl (by rfl) (by exact .c 0 1 rfl rfl rfl (.n _)) (fun _ => rfl) (by rfl) rfl (by infer_instance) rfl fun v40 h40 O40 => ?_
        refine XO.q (Q.assign rfl) ?_
        refine XO.done ?_
        refine XK.region rfl ?_
        refine XO.q (Q.move rfl) ?_
        refine XO.q (Q.move rfl) ?_
        refine XO.q (Q.move rfl) ?_
        refine XO.q (Q.move rfl) ?_
        refine XO.ix rfl rfl (by omega) (by omega) fun i45 => ?_
        refine XO.q (Q.ldE rfl (by first | assumption | omega) rfl) ?_
        refine XO.append rfl rfl rfl rfl (by simp only [List.length_cons, List.length_nil]; omega) fun v47 h47 O47 => ?_
        refine XO.cat K2 h47 fun l1 l2 => ?_
        have AR : Arr v47 encI 1 (cat K2 h47) (((n : Nat) : Int) :: (listsL (gs.map (·.tries)) (m - ((n : Nat) : Int))).getD i default) := Arr.le_heap (OArr.arr (s := O47)) l2
        refine XO.lit [_] [_] [v47] encV (by rfl) (by rfl) rfl (by rfl) (by exact .c 0 1 rfl rfl rfl (.n _)) (fun _ => rfl) (by rfl) rfl (by infer_instance) rfl fun v48 h48 O48 => ?_
        refine XO.append rfl rfl rfl rfl (by simp only [List.length_cons, List.length_nil]; omega) fun v49 h49 O49 => ?_
        refine XO.q (Q.assign rfl) ?_
        refine XO.done ?_
        refine XK.inBlock ?_
        refine XK.region rfl ?_
        refine XO.q (Q.move rfl) ?_
        refine XO.q (Q.add rfl rfl ⟨by omega, by omega⟩) ?_
        refine XO.q (Q.assign rfl) ?_
        refine XO.done ?_
        exact ih1 (i + 1, v49, h49, us2 ++ [v47], cat K2 h47) _ _ ⟨by dsimp only; omega, O49, by dsimp only; rw [block_part _ _ _ (by omega), ← List.append_assoc]; exact (RO2.mono l1).snoc AR⟩ (by first | omega | (dsimp only; omega)) (.c rfl (.c rfl (.base 42 rfl rfl))) inferInstance
      · have _t2 := True.intro
        have hin : i = (listsL (gs.map (·.tries)) (m - ((n : Nat) : Int))).length := by omega
        subst hin
        refine XK.exit rfl ?_
        refine XK.inBlock ?_
        refine XK.region rfl ?_
        refine XO.q (Q.move rfl) ?_
        refine XO.q (Q.add rfl rfl ⟨by omega, by omega⟩) ?_
        refine XO.q (Q.assign rfl) ?_
        refine XO.done ?_
        exact ih0 (n + 1, vo2, ko2, us2, K2) _ _ ⟨by dsimp only; omega, by dsimp only; omega, OO2, by dsimp only; rw [blocks]; have bAll : (block (fun q => listsL (gs.map (·.tries)) (m - q)) n).take (listsL (gs.map (·.tries)) (m - ((n : Nat) : Int))).length = block (fun q => listsL (gs.map (·.tries)) (m - q)) n := block_all (fun q => listsL (gs.map (·.tries)) (m - q)) n; rw [bAll] at RO2; exact RO2⟩ (by first | omega | (dsimp only; omega)) (.c rfl (.c rfl (.base 91 rfl rfl))) inferInstance
    · have _t1 := True.intro
      have hnm : n = (min g.tries m + 1).toNat := by omega
      refine XK.exit rfl ?_
      refine XK.seq ?_
      refine XK.region rfl ?_
      refine XO.q (Q.move rfl) ?_
      refine XO.q (Q.assign rfl) ?_
      refine XO.done ?_
      refine XK.rt [ko, K] Try.func55 Try.results55 (.t rfl .n) ?_
      rw [hnm] at RO
      exact ⟨ko, us, K, rfl, OO, RO⟩
theorem Lists_spec : ∀ (xs : List BGen) (ok : ∀ g ∈ xs, GenOk g) (ng : xs.length ≤ 6) (m : Int) (hm0 : 0 ≤ m) (hm1 : m ≤ 9223372036854775807) (v : Value) (h : PHeap) [ix : Arr v encGen 5 h xs], Spec Try.prog 55 #[v, .int .i64 m] [] [h] (fun v' hs => ∃ ho us K, hs = [ho, K] ∧ OArr v' encV 1 39 ho us ∧ RowsK us K (listsL ((xs).map (·.tries)) m))
  | [], ok, ng, m, hm0, hm1, v, h, ix => Lists_walk [] ok ng m hm0 hm1 v h (fun hx => absurd rfl hx)
  | g :: gs, ok, ng, m, hm0, hm1, v, h, ix => Lists_walk (g :: gs) ok ng m hm0 hm1 v h (fun _ m' h0 h1 v' h' _ => Lists_spec gs (fun x hx => ok x (List.mem_cons_of_mem _ hx)) (by simp at ng; omega) m' h0 h1 v' h')
end Go.X

set_option linter.unusedSimpArgs false
set_option linter.unusedVariables false
set_option maxRecDepth 20000
namespace Go.X
open Go.Proofs
theorem Rsearch_spec (b : BBank) (vb vg : Value) (hb hg : PHeap) [ib : Arr vb encBat 4 hb b.bats] [ig : Arr vg encGen 5 hg b.gens] (l : List BSpan) (vl : Value) (hl : PHeap) [il : Arr vl encSpan 2 hl l] (most : Int) : Spec Try.prog 54 #[.agg #[vb, vg], vl, .int .i64 most] [] [hb, hg, hl] (fun v hs => ∃ vp kp, v = .tuple #[vp, .int .i64 (searchP b l most)] ∧ hs = [kp] ∧ OArr vp encI 1 3 kp (if searchP b l most = 0 then powers l else [])) := by
  have lg := ig.le
  have nI : OArr (.slice none 0 0) encI 1 3 emp ([] : List Int) := OArr.nil (fun _ => rfl)
  refine Spec.intro (fn := Try.f54) (N := 49) Try.func54 rfl Try.ntmps54 rfl fun B => ?_
  refine XK.seq ?_
  refine XK.region rfl ?_
  refine XO.box rfl fun b3 => ?_
  refine XO.q (Q.assign rfl) ?_
  refine XO.q (Q.assign rfl) ?_
  refine XO.done ?_
  refine XK.seq ?_
  refine XK.seq ?_
  refine XK.region rfl ?_
  refine XO.q (Q.ldA [_, _] rfl rfl rfl) ?_
  refine XO.call Try.call39 rfl rfl rfl (RCheck_spec b vb vg hb hg) fun v14 s14 R14 => ?_
  obtain ⟨rfl, rfl⟩ := R14
  dsimp only [List.cons_append, List.nil_append]
  refine XO.q (Q.assign rfl) ?_
  refine XO.done ?_
  refine XK.seq ?_
  refine XK.region rfl ?_
  refine XO.q (Q.move rfl) ?_
  refine XO.q (Q.neq rfl rfl) ?_
  refine XO.done ?_
  refine XK.if rfl (fun c0 => ?_) (fun c0 => ?_)
  · have _t0 := True.intro
    refine XK.seq ?_
    refine XK.region rfl ?_
    refine XO.q (Q.move rfl) ?_
    refine XO.q (Q.assign rfl) ?_
    refine XO.q (Q.assign rfl) ?_
    refine XO.done ?_
    refine XK.rt [emp] Try.func54 Try.results54 (.t rfl (.t rfl .n)) ?_
    have e : searchP b l most = bcheck b := by rw [searchP, if_pos c0]
    rw [if_neg (by rw [e]; exact c0), e]
    exact ⟨.slice none 0 0, emp, rfl, rfl, nI⟩
  · have _t0 := True.intro
    have bk := bcheck_iff.1 (Decidable.of_not_not c0)
    refine XK.skip ?_
    refine XK.seq ?_
    refine XK.region rfl ?_
    refine XO.q (Q.move rfl) ?_
    refine XO.call Try.call80 rfl rfl rfl (Seconds_spec l vl hl) fun v20 s20 R20 => ?_
    obtain ⟨vp, kp, rfl, rfl, OP⟩ := R20
    dsimp only [List.cons_append, List.nil_append]
    refine XO.q (Q.move rfl) ?_
    refine XO.q (Q.extract rfl rfl) ?_
    refine XO.q (Q.extract rfl rfl) ?_
    refine XO.q (Q.assign rfl) ?_
    refine XO.q (Q.assign rfl) ?_
    refine XO.done ?_
    refine XK.seq ?_
    refine XK.seq ?_
    refine XK.region rfl ?_
    refine XO.q (Q.move rfl) ?_
    refine XO.q (Q.neq rfl rfl) ?_
    refine XO.done ?_
    refine XK.if rfl (fun c1 => ?_) (fun c1 => ?_)
    · have _t1 := True.intro
      refine XK.seq ?_
      refine XK.region rfl ?_
      refine XO.q (Q.move rfl) ?_
      refine XO.q (Q.assign rfl) ?_
      refine XO.q (Q.assign rfl) ?_
      refine XO.done ?_
      refine XK.rt [emp] Try.func54 Try.results54 (.t rfl (.t rfl .n)) ?_
      have e : searchP b l most = (loadedP l).2 := by rw [searchP, if_neg c0, if_pos c1]
      rw [if_neg (by rw [e]; exact c1), e]
      exact ⟨.slice none 0 0, emp, rfl, rfl, nI⟩
    · have _t1 := True.intro
      have e0 := Decidable.of_not_not c1
      rw [if_pos e0] at OP
      have lk := loadedP_iff.1 e0
      have lo := loaded_bound lk
      have ll := loaded_len lk
      have cb := fun i hi => casesTo_bound bk lo.1 lo.2 i hi
      refine XK.skip ?_
      refine XK.seq ?_
      refine XK.seq ?_
      refine XK.region rfl ?_
      refine XO.q (Q.move rfl) ?_
      refine XO.q (Q.lss rfl rfl) ?_
      refine XO.done ?_
      refine XK.if rfl (fun c2 => ?_) (fun c2 => ?_)
      · have _t2 := True.intro
        refine XK.seq ?_
        refine XK.region rfl ?_
        refine XO.q (Q.assign rfl) ?_
        refine XO.q (Q.assign rfl) ?_
        refine XO.done ?_
        refine XK.rt [emp] Try.func54 Try.results54 (.t rfl (.t rfl .n)) ?_
        have e : searchP b l most = 1 := by rw [searchP, if_neg c0, if_neg c1, if_pos c2]
        rw [if_neg (by rw [e]; decide), e]
        exact ⟨.slice none 0 0, emp, rfl, rfl, nI⟩
      · have _t2 := True.intro
        refine XK.skip ?_
        refine XK.seq ?_
        refine XK.region rfl ?_
        refine XO.q (Q.move rfl) ?_
        refine XO.len rfl fun l29 => ?_
        rw [ll]
        refine XO.q (Q.assign rfl) ?_
        refine XO.done ?_
        refine XK.seq ?_
        refine XK.seq ?_
        refine XK.region rfl ?_
        refine XO.q (Q.assign rfl) ?_
        refine XO.done ?_
        refine XK.block ?_
        refine XK.while (X := Nat) [11, 12, 30, 31, 32, 33, 34, 35, 36, 37, 38, 39, 40, 41, 42, 43, 44, 45] (fun i => [(11, some (.int .i64 (casesTo b (loadedP l).1 i))), (12, some (.int .i64 (i : Nat)))]) (fun i => []) (fun i => i ≤ b.gens.length) (fun i => b.gens.length - i) (0) [] rfl (by omega) (.c rfl (.c rfl (.base 0 rfl rfl))) ?_
        rintro i hi ih0
        dsimp only [List.cons_append, List.nil_append] at ih0 ⊢
        refine XK.seq ?_
        refine XK.seq ?_
        refine XK.region rfl ?_
        refine XO.q (Q.move rfl) ?_
        refine XO.q (Q.fieldAddr rfl) ?_
        refine XO.q (Q.ld rfl rfl) ?_
        refine XO.len rfl fun l33 => ?_
        refine XO.q (Q.lss rfl rfl) ?_
        refine XO.done ?_
        refine XK.if rfl (fun c3 => ?_) (fun c3 => ?_)
        · have _t3 := True.intro
          have ci := cb i (by omega)
          have gk := bk.gen _ (getD_memB (show i < b.gens.length by omega))
          have g0 := gk.t0
          have g1 := gk.t1
          have mu := mulLe (a := casesTo b (loadedP l).1 i) (b := (b.gens.getD i default).tries + 1) (m := 933120000) (n := 6) ci.1 ci.2 (by omega) (by omega)
          refine XK.skip ?_
          refine XK.seq ?_
          refine XK.block ?_
          refine XK.region rfl ?_
          refine XO.q (Q.move rfl) ?_
          refine XO.q (Q.fieldAddr rfl) ?_
          refine XO.q (Q.ld rfl rfl) ?_
          refine XO.q (Q.move rfl) ?_
          refine XO.ix rfl rfl (by omega) (by omega) fun i41 => ?_
          refine XO.q (Q.fieldQ rfl (by first | assumption | omega)) ?_
          refine XO.q (Q.ldE rfl (by first | assumption | omega) rfl) ?_
          refine XO.q (Q.add rfl rfl ⟨by omega, by omega⟩) ?_
          refine XO.q (Q.mul rfl rfl ⟨by omega, by omega⟩) ?_
          refine XO.q (Q.assign rfl) ?_
          refine XO.done ?_
          refine XK.inBlock ?_
          refine XK.region rfl ?_
          refine XO.q (Q.move rfl) ?_
          refine XO.q (Q.add rfl rfl ⟨by omega, by omega⟩) ?_
          refine XO.q (Q.assign rfl) ?_
          refine XO.done ?_
          exact ih0 (i + 1) _ _ (by omega) (by first | omega | (dsimp only; omega)) (.c rfl (.c rfl (.base 38 rfl rfl))) inferInstance
        · have _t3 := True.intro
          refine XK.exit rfl ?_
          refine XK.seq ?_
          refine XK.seq ?_
          refine XK.region rfl ?_
          refine XO.q (Q.move rfl) ?_
          refine XO.q (Q.gtr rfl rfl) ?_
          refine XO.done ?_
          refine XK.if rfl (fun c4 => ?_) (fun c4 => ?_)
          · have _t4 := True.intro
            refine XK.seq ?_
            refine XK.region rfl ?_
            refine XO.q (Q.assign rfl) ?_
            refine XO.q (Q.assign rfl) ?_
            refine XO.done ?_
            refine XK.rt [emp] Try.func54 Try.results54 (.t rfl (.t rfl .n)) ?_
            have hil : i = b.gens.length := by omega
            subst hil
            have e : searchP b l most = 8 := by rw [searchP, if_neg c0, if_neg c1, if_neg c2, if_pos c4]
            rw [if_neg (by rw [e]; decide), e]
            exact ⟨.slice none 0 0, emp, rfl, rfl, nI⟩
          · have _t4 := True.intro
            refine XK.skip ?_
            refine XK.seq ?_
            refine XK.region rfl ?_
            refine XO.q (Q.move rfl) ?_
            refine XO.q (Q.assign rfl) ?_
            refine XO.q (Q.assign rfl) ?_
            refine XO.done ?_
            refine XK.rt [kp] Try.func54 Try.results54 (.t rfl (.t rfl .n)) ?_
            have hil : i = b.gens.length := by omega
            subst hil
            have e : searchP b l most = 0 := by rw [searchP, if_neg c0, if_neg c1, if_neg c2, if_neg c4]
            rw [if_pos e, e]
            exact ⟨vp, kp, rfl, rfl, OP⟩
set_option maxHeartbeats 1000000 in
theorem RWorst_spec (b : BBank) (vb vg : Value) (hb hg : PHeap) [ib : Arr vb encBat 4 hb b.bats] [ig : Arr vg encGen 5 hg b.gens] (l : List BSpan) (vl : Value) (hl : PHeap) [il : Arr vl encSpan 2 hl l] (most : Int) (hm1 : most ≤ 9223372036854775807) : Spec Try.prog 18 #[.agg #[vb, vg], vl, .int .i64 most] [] [hb, hg, hl]
    (fun v hs => ∃ vw ve vn K ke kn, v = .tuple #[vw, resV (if searchP b l most = 0 then worstP b (powers l) most else ([], ⟨0, [], [], 0⟩)).2 ve vn, .int .i64 (searchP b l most)] ∧ hs = [K, ke, kn] ∧ One vw ∧ Arr vw encI 1 K (if searchP b l most = 0 then worstP b (powers l) most else ([], ⟨0, [], [], 0⟩)).1 ∧ OArr ve encI 1 3 ke (if searchP b l most = 0 then worstP b (powers l) most else ([], ⟨0, [], [], 0⟩)).2.energy ∧ OArr vn encI 1 3 kn (if searchP b l most = 0 then worstP b (powers l) most else ([], ⟨0, [], [], 0⟩)).2.burnt) := by
  have nI : OArr (.slice none 0 0) encI 1 3 emp ([] : List Int) := OArr.nil (fun _ => rfl)
  refine Spec.intro (fn := Try.f18) (N := 75) Try.func18 rfl Try.ntmps18 rfl fun B => ?_
  refine XK.seq ?_
  refine XK.region rfl ?_
  refine XO.box rfl fun b3 => ?_
  refine XO.q (Q.assign rfl) ?_
  refine XO.alloc fun b7 => ?_
  refine XO.q (Q.assign rfl) ?_
  refine XO.done ?_
  refine XK.seq ?_
  refine XK.region rfl ?_
  refine XO.q (Q.ldA [_, _] rfl rfl rfl) ?_
  refine XO.q (Q.move rfl) ?_
  refine XO.q (Q.move rfl) ?_
  refine XO.call Try.call54 rfl rfl rfl (Rsearch_spec b vb vg hb hg l vl hl most) fun v21 s21 R21 => ?_
  obtain ⟨vp, kp, rfl, rfl, OP⟩ := R21
  dsimp only [List.cons_append, List.nil_append]
  refine XO.q (Q.move rfl) ?_
  refine XO.q (Q.extract rfl rfl) ?_
  refine XO.q (Q.extract rfl rfl) ?_
  refine XO.q (Q.assign rfl) ?_
  refine XO.q (Q.assign rfl) ?_
  refine XO.done ?_
  refine XK.seq ?_
  refine XK.seq ?_
  refine XK.region rfl ?_
  refine XO.q (Q.move rfl) ?_
  refine XO.q (Q.neq rfl rfl) ?_
  refine XO.done ?_
  refine XK.if rfl (fun c0 => ?_) (fun c0 => ?_)
  · have _t0 := True.intro
    refine XK.seq ?_
    refine XK.region rfl ?_
    refine XO.q (Q.build [_, _, _, _] (.n _)) ?_
    refine XO.q (Q.move rfl) ?_
    refine XO.q (Q.assign rfl) ?_
    refine XO.st rfl rfl rfl ?_
    refine XO.q (Q.assign rfl) ?_
    refine XO.done ?_
    refine XK.rt [emp, emp, emp] Try.func18 Try.results18 (.t rfl (.cell [_, _, _, _] rfl rfl rfl (.t rfl .n))) ?_
    rw [if_neg c0]
    exact ⟨.slice none 0 0, .slice none 0 0, .slice none 0 0, emp, emp, emp, rfl, rfl, inferInstance, OArr.arr (s := nI), nI, nI⟩
  · have _t0 := True.intro
    have e0 := Decidable.of_not_not c0
    have sk := searchP_iff.1 e0
    rw [if_pos e0] at OP
    have wk := pwOk sk.ol
    refine XK.skip ?_
    refine XK.seq ?_
    refine XK.region rfl ?_
    refine XO.q (Q.fieldAddr rfl) ?_
    refine XO.q (Q.ld rfl rfl) ?_
    refine XO.q (Q.move rfl) ?_
    refine XO.call Try.call55 rfl rfl rfl (Lists_spec b.gens sk.ob.gen sk.ob.ng most sk.m0 hm1 vg hg) fun v31 s31 R31 => ?_
    obtain ⟨ho, us, K, rfl, OO, RR⟩ := R31
    dsimp only [List.cons_append, List.nil_append]
    have RR : RowsK us K (listsP b most) := RR
    have rl := RR.1
    refine XO.q (Q.assign rfl) ?_
    refine XO.done ?_
    refine XK.seq ?_
    refine XK.region rfl ?_
    refine XO.q (Q.build [_, _, _, _] (.n _)) ?_
    refine XO.alloc fun b13 => ?_
    refine XO.q (Q.assign rfl) ?_
    refine XO.st rfl rfl rfl ?_
    refine XO.done ?_
    refine XK.seq ?_
    refine XK.seq ?_
    refine XK.region rfl ?_
    refine XO.q (Q.assign rfl) ?_
    refine XO.done ?_
    refine XK.block ?_
    refine XK.while (X := Nat × Nat × Value × Value × PHeap × PHeap × (List Int × BRes)) [12, 14, 15, 16, 33, 34, 35, 36, 37, 38, 39, 40, 41, 42, 43, 44, 45, 46, 47, 48, 49, 50, 51, 52, 53, 54, 55, 56, 57, 58, 59, 60, 61, 62, 63, 64, 65, 66, 67, 68, 69] (fun ⟨i, k, ve, vn, ke, kn, w⟩ => [(12, some (.int .i64 (k : Nat))), (14, some (.int .i64 (i : Nat)))]) (fun ⟨i, k, ve, vn, ke, kn, w⟩ => [blk b13 [.int .i64 w.2.dark, ve, vn, .int .i64 w.2.served] 45, ke, kn]) (fun ⟨i, k, ve, vn, ke, kn, w⟩ => i ≤ (listsP b most).length ∧ w = (worstTo b (powers l) (listsP b most) (i)) ∧ (0 < i → k < i ∧ w.1 = (listsP b most).getD k default) ∧ OArr ve encI 1 3 ke w.2.energy ∧ OArr vn encI 1 3 kn w.2.burnt) (fun ⟨i, k, ve, vn, ke, kn, w⟩ => (listsP b most).length - i) (0, 0, .slice none 0 0, .slice none 0 0, emp, emp, ([], ⟨0, [], [], 0⟩)) [blk b13 [.int .i64 0, .slice none 0 0, .slice none 0 0, .int .i64 0] 45, emp, emp] rfl ⟨by omega, rfl, fun h => by omega, nI, nI⟩ (.c rfl (.c rfl (.base 0 rfl rfl))) ?_
    rintro ⟨i, k, ve, vn, ke, kn, w⟩ ⟨hi, hw, hk, OE, ON⟩ ih0
    dsimp only [List.cons_append, List.nil_append] at ih0 ⊢
    refine XK.seq ?_
    refine XK.seq ?_
    refine XK.region rfl ?_
    refine XO.q (Q.move rfl) ?_
    refine XO.q (Q.move rfl) ?_
    refine XO.len rfl fun l35 => ?_
    refine XO.q (Q.lss rfl rfl) ?_
    refine XO.done ?_
    refine XK.if rfl (fun c1 => ?_) (fun c1 => ?_)
    · have _t1 := True.intro
      have ar := RR.2 i (by omega)
      have fk := (lists_in sk.ob sk.m0 (k := i) (by omega)).1
      refine XK.skip ?_
      refine XK.seq ?_
      refine XK.block ?_
      refine XK.seq ?_
      refine XK.drawn [0, 1, 2, 3, 4, 5, 7, 8, 9, 12] [b3] [ho] (.q 0 (.q 1 (.q 2 (.q 3 (.q 4 (.q 5 (.br 6 true (.q 7 (.q 8 (.q 9 (.br 10 true (.br 11 true (.q 12 .done) .stop) .stop)))) (.br 10 true (.br 6 true (.q 7 (.q 8 (.q 9 (.br 11 true (.q 12 .done) .stop)))) .stop) .stop)))))))) Try.mixed rfl (by kernel_rfl) ?_
      refine XT.q rfl rfl (Q.ldA [_, _] rfl rfl rfl) ?_
      refine XT.q rfl rfl (Q.move rfl) ?_
      refine XT.q rfl rfl (Q.move rfl) ?_
      refine XT.q rfl rfl (Q.move rfl) ?_
      refine XT.ix rfl rfl rfl rfl (by omega) (by omega) fun i44 => ?_
      refine XT.q rfl rfl (Q.ldE rfl (by first | assumption | omega) rfl) ?_
      refine XT.call rfl rfl Try.call56 rfl rfl rfl (play_off b vb vg hb hg (powers l) vp kp ((listsP b most).getD i default) (us.getD i default) K sk.ob fk wk) (fun v46 s46 R46 => ?_) ?_
      · skip
        obtain ⟨ve2, vn2, vo2, ke2, kn2, ko2, us2, K2, rfl, rfl, OE2, ON2, OO2, RR2⟩ := R46
        dsimp only [List.cons_append, List.nil_append]
        refine ⟨inferInstance, ?_⟩
        have e1 := worstTo_succ b (powers l) (listsP b most) i
        obtain ⟨r, er⟩ : ∃ r, r = (runP b (powers l) ((listsP b most).getD i default)) := ⟨_, rfl⟩
        rw [← er] at OE2 ON2 e1 ⊢
        rw [← hw] at e1
        refine XT.q rfl rfl (Q.move rfl) ?_
        refine XT.q rfl rfl (Q.extract rfl rfl) ?_
        refine XT.q rfl rfl (Q.extract rfl rfl) ?_
        refine XT.alloc rfl rfl (fun b15 => ⟨inferInstance, ?_⟩) XT.stop
        refine XT.st rfl rfl rfl rfl rfl ⟨inferInstance, ?_⟩ XT.stop
        refine XT.q rfl rfl (Q.assign rfl) ?_
        refine XT.done ?_
        refine XK.seq ?_
        refine XK.region rfl ?_
        refine XO.q (Q.move rfl) ?_
        refine XO.q (Q.eql rfl rfl) ?_
        refine XO.q (Q.move rfl) ?_
        refine XO.q (Quiet.guardF rfl rfl fun g52 p52 => Q.fieldAddr rfl) ?_
        refine XO.q (Quiet.guardF rfl rfl fun g53 p53 => Q.ld (lzv g53 rfl) rfl) ?_
        refine XO.q (Quiet.guardF rfl rfl fun g54 p54 => Q.geq (lzv g54 rfl) rfl) ?_
        refine XO.q (Quiet.guardF rfl rfl fun g55 p55 => Q.move (lzv g55 rfl)) ?_
        refine XO.q (Quiet.guard2 rfl rfl fun g56a g56b => have p56a := bpF g56a; have p56b := bpT g56b; Q.fieldAddr rfl) ?_
        refine XO.q (Quiet.guard2 rfl rfl fun g57a g57b => have p57a := bpF g57a; have p57b := bpT g57b; Q.ld (lzv g57b (lzv g57a rfl)) rfl) ?_
        refine XO.q (Quiet.guard2 rfl rfl fun g58a g58b => have p58a := bpF g58a; have p58b := bpT g58b; Q.lss (lzv g58b (lzv g58a rfl)) rfl) ?_
        refine XO.q (Quiet.guard2 rfl rfl fun g59a g59b => have p59a := bpF g59a; have p59b := bpT g59b; Q.move (lzv g59b (lzv g59a rfl))) ?_
        refine XO.q (Quiet.guard3 rfl rfl fun g60a g60b g60c => have p60a := bpF g60a; have p60b := bpT g60b; have p60c := bpF g60c; Q.fieldAddr rfl) ?_
        refine XO.q (Quiet.guard3 rfl rfl fun g61a g61b g61c => have p61a := bpF g61a; have p61b := bpT g61b; have p61c := bpF g61c; Q.ld (lzv g61c (lzv g61b (lzv g61a rfl))) rfl) ?_
        refine XO.q (Quiet.guard3 rfl rfl fun g62a g62b g62c => have p62a := bpF g62a; have p62b := bpT g62b; have p62c := bpF g62c; Q.fieldAddr rfl) ?_
        refine XO.q (Quiet.guard3 rfl rfl fun g63a g63b g63c => have p63a := bpF g63a; have p63b := bpT g63b; have p63c := bpF g63c; Q.ld (lzv g63c (lzv g63b (lzv g63a rfl))) rfl) ?_
        refine XO.q (Quiet.guard3 rfl rfl fun g64a g64b g64c => have p64a := bpF g64a; have p64b := bpT g64b; have p64c := bpF g64c; Q.lss (lzv g64c (lzv g64b (lzv g64a rfl))) (lzv g64c (lzv g64b (lzv g64a rfl)))) ?_
        refine XO.q (Quiet.guard2 rfl rfl fun g65a g65b => have p65a := bpF g65a; have p65b := bpT g65b; Q.or (lzv g65b (lzv g65a rfl)) (fun hp => (lzv hp (lzv g65b (lzv g65a rfl))))) ?_
        refine XO.q (Quiet.guardF rfl rfl fun g66 p66 => Q.and (lzv g66 rfl) (fun hp => (lzv hp (lzv g66 rfl)))) ?_
        refine XO.q (Q.or rfl (fun hp => lzv hp rfl)) ?_
        refine XO.done ?_
        refine XK.if rfl (fun c2 => ?_) (fun c2 => ?_)
        · have _t2 := True.intro
          refine XK.seq ?_
          refine XK.region rfl ?_
          refine XO.q (Q.move rfl) ?_
          refine XO.q (Q.assign rfl) ?_
          refine XO.done ?_
          refine XK.region rfl ?_
          refine XO.q (Q.ldA [_, _, _, _] rfl rfl rfl) ?_
          refine XO.st rfl rfl rfl ?_
          refine XO.done ?_
          refine XK.inBlock ?_
          refine XK.region rfl ?_
          refine XO.q (Q.move rfl) ?_
          refine XO.q (Q.add rfl rfl ⟨by omega, by omega⟩) ?_
          refine XO.q (Q.assign rfl) ?_
          refine XO.done ?_
          have e2 : (worstTo b (powers l) (listsP b most) (i + 1)) = (((listsP b most).getD i default), r) := by rw [e1, if_pos (better_ref.1 c2)]
          exact ih0 (i + 1, i, ve2, vn2, ke2, kn2, (((listsP b most).getD i default), r)) _ _ ⟨by dsimp only; omega, e2.symm, fun _ => ⟨by dsimp only; omega, rfl⟩, OE2, ON2⟩ (by first | omega | (dsimp only; omega)) (.c rfl (.c rfl (.base 84 rfl rfl))) inferInstance
        · have _t2 := True.intro
          refine XK.skip ?_
          refine XK.inBlock ?_
          refine XK.region rfl ?_
          refine XO.q (Q.move rfl) ?_
          refine XO.q (Q.add rfl rfl ⟨by omega, by omega⟩) ?_
          refine XO.q (Q.assign rfl) ?_
          refine XO.done ?_
          have e2 : (worstTo b (powers l) (listsP b most) (i + 1)) = w := by rw [e1, if_neg (fun h => c2 (better_ref.2 h))]
          exact ih0 (i + 1, k, ve, vn, ke, kn, w) _ _ ⟨by dsimp only; omega, e2.symm, fun _ => (by have := hk (by omega); exact ⟨by have := this.1; dsimp only; omega, this.2⟩), OE, ON⟩ (by first | omega | (dsimp only; omega)) (.c rfl (.c rfl (.base 81 rfl rfl))) inferInstance
      · skip
        refine XT.alloc rfl rfl (fun b15 => ⟨inferInstance, ?_⟩) XT.stop
        refine XT.call rfl rfl Try.call56 rfl rfl rfl (play_off b vb vg hb hg (powers l) vp kp ((listsP b most).getD i default) (us.getD i default) K sk.ob fk wk) (fun v46 s46 R46 => ?_) XT.stop
        obtain ⟨ve2, vn2, vo2, ke2, kn2, ko2, us2, K2, rfl, rfl, OE2, ON2, OO2, RR2⟩ := R46
        dsimp only [List.cons_append, List.nil_append]
        refine ⟨inferInstance, ?_⟩
        have e1 := worstTo_succ b (powers l) (listsP b most) i
        obtain ⟨r, er⟩ : ∃ r, r = (runP b (powers l) ((listsP b most).getD i default)) := ⟨_, rfl⟩
        rw [← er] at OE2 ON2 e1 ⊢
        rw [← hw] at e1
        refine XT.q rfl rfl (Q.move rfl) ?_
        refine XT.q rfl rfl (Q.extract rfl rfl) ?_
        refine XT.q rfl rfl (Q.extract rfl rfl) ?_
        refine XT.st rfl rfl rfl rfl rfl ⟨inferInstance, ?_⟩ XT.stop
        refine XT.q rfl rfl (Q.assign rfl) ?_
        refine XT.done ?_
        refine XK.seq ?_
        refine XK.region rfl ?_
        refine XO.q (Q.move rfl) ?_
        refine XO.q (Q.eql rfl rfl) ?_
        refine XO.q (Q.move rfl) ?_
        refine XO.q (Quiet.guardF rfl rfl fun g52 p52 => Q.fieldAddr rfl) ?_
        refine XO.q (Quiet.guardF rfl rfl fun g53 p53 => Q.ld (lzv g53 rfl) rfl) ?_
        refine XO.q (Quiet.guardF rfl rfl fun g54 p54 => Q.geq (lzv g54 rfl) rfl) ?_
        refine XO.q (Quiet.guardF rfl rfl fun g55 p55 => Q.move (lzv g55 rfl)) ?_
        refine XO.q (Quiet.guard2 rfl rfl fun g56a g56b => have p56a := bpF g56a; have p56b := bpT g56b; Q.fieldAddr rfl) ?_
        refine XO.q (Quiet.guard2 rfl rfl fun g57a g57b => have p57a := bpF g57a; have p57b := bpT g57b; Q.ld (lzv g57b (lzv g57a rfl)) rfl) ?_
        refine XO.q (Quiet.guard2 rfl rfl fun g58a g58b => have p58a := bpF g58a; have p58b := bpT g58b; Q.lss (lzv g58b (lzv g58a rfl)) rfl) ?_
        refine XO.q (Quiet.guard2 rfl rfl fun g59a g59b => have p59a := bpF g59a; have p59b := bpT g59b; Q.move (lzv g59b (lzv g59a rfl))) ?_
        refine XO.q (Quiet.guard3 rfl rfl fun g60a g60b g60c => have p60a := bpF g60a; have p60b := bpT g60b; have p60c := bpF g60c; Q.fieldAddr rfl) ?_
        refine XO.q (Quiet.guard3 rfl rfl fun g61a g61b g61c => have p61a := bpF g61a; have p61b := bpT g61b; have p61c := bpF g61c; Q.ld (lzv g61c (lzv g61b (lzv g61a rfl))) rfl) ?_
        refine XO.q (Quiet.guard3 rfl rfl fun g62a g62b g62c => have p62a := bpF g62a; have p62b := bpT g62b; have p62c := bpF g62c; Q.fieldAddr rfl) ?_
        refine XO.q (Quiet.guard3 rfl rfl fun g63a g63b g63c => have p63a := bpF g63a; have p63b := bpT g63b; have p63c := bpF g63c; Q.ld (lzv g63c (lzv g63b (lzv g63a rfl))) rfl) ?_
        refine XO.q (Quiet.guard3 rfl rfl fun g64a g64b g64c => have p64a := bpF g64a; have p64b := bpT g64b; have p64c := bpF g64c; Q.lss (lzv g64c (lzv g64b (lzv g64a rfl))) (lzv g64c (lzv g64b (lzv g64a rfl)))) ?_
        refine XO.q (Quiet.guard2 rfl rfl fun g65a g65b => have p65a := bpF g65a; have p65b := bpT g65b; Q.or (lzv g65b (lzv g65a rfl)) (fun hp => (lzv hp (lzv g65b (lzv g65a rfl))))) ?_
        refine XO.q (Quiet.guardF rfl rfl fun g66 p66 => Q.and (lzv g66 rfl) (fun hp => (lzv hp (lzv g66 rfl)))) ?_
        refine XO.q (Q.or rfl (fun hp => lzv hp rfl)) ?_
        refine XO.done ?_
        refine XK.if rfl (fun c3 => ?_) (fun c3 => ?_)
        · have _t3 := True.intro
          refine XK.seq ?_
          refine XK.region rfl ?_
          refine XO.q (Q.move rfl) ?_
          refine XO.q (Q.assign rfl) ?_
          refine XO.done ?_
          refine XK.region rfl ?_
          refine XO.q (Q.ldA [_, _, _, _] rfl rfl rfl) ?_
          refine XO.st rfl rfl rfl ?_
          refine XO.done ?_
          refine XK.inBlock ?_
          refine XK.region rfl ?_
          refine XO.q (Q.move rfl) ?_
          refine XO.q (Q.add rfl rfl ⟨by omega, by omega⟩) ?_
          refine XO.q (Q.assign rfl) ?_
          refine XO.done ?_
          have e2 : (worstTo b (powers l) (listsP b most) (i + 1)) = (((listsP b most).getD i default), r) := by rw [e1, if_pos (better_ref.1 c3)]
          exact ih0 (i + 1, i, ve2, vn2, ke2, kn2, (((listsP b most).getD i default), r)) _ _ ⟨by dsimp only; omega, e2.symm, fun _ => ⟨by dsimp only; omega, rfl⟩, OE2, ON2⟩ (by first | omega | (dsimp only; omega)) (.c rfl (.c rfl (.base 84 rfl rfl))) inferInstance
        · have _t3 := True.intro
          refine XK.skip ?_
          refine XK.inBlock ?_
          refine XK.region rfl ?_
          refine XO.q (Q.move rfl) ?_
          refine XO.q (Q.add rfl rfl ⟨by omega, by omega⟩) ?_
          refine XO.q (Q.assign rfl) ?_
          refine XO.done ?_
          have e2 : (worstTo b (powers l) (listsP b most) (i + 1)) = w := by rw [e1, if_neg (fun h => c3 (better_ref.2 h))]
          exact ih0 (i + 1, k, ve, vn, ke, kn, w) _ _ ⟨by dsimp only; omega, e2.symm, fun _ => (by have := hk (by omega); exact ⟨by have := this.1; dsimp only; omega, this.2⟩), OE, ON⟩ (by first | omega | (dsimp only; omega)) (.c rfl (.c rfl (.base 81 rfl rfl))) inferInstance
    · have _t1 := True.intro
      have hil : i = (listsP b most).length := by omega
      subst hil
      have hk1 := hk (listsP_ne sk.ob sk.m0)
      have ak := RR.2 k (by omega)
      refine XK.exit rfl ?_
      refine XK.seq ?_
      refine XK.drawn [0, 1, 2, 3, 4, 5, 7] [b13] [ho] (.q 0 (.q 1 (.q 2 (.q 3 (.q 4 (.q 5 (.br 6 true (.q 7 .done) .stop))))))) Try.mixed rfl (by kernel_rfl) ?_
      refine XT.q rfl rfl (Q.move rfl) ?_
      refine XT.q rfl rfl (Q.move rfl) ?_
      refine XT.ix rfl rfl rfl rfl (by omega) (by omega) fun i72 => ?_
      refine XT.q rfl rfl (Q.ldE rfl (by first | assumption | omega) rfl) ?_
      refine XT.q rfl rfl (Q.ldA [_, _, _, _] rfl rfl rfl) ?_
      refine XT.q rfl rfl (Q.assign rfl) ?_
      refine XT.st rfl rfl rfl rfl rfl ⟨inferInstance, ?_⟩ XT.stop
      refine XT.q rfl rfl (Q.assign rfl) ?_
      refine XT.done ?_
      refine XK.rt [K, ke, kn] Try.func18 Try.results18 (.t rfl (.cell [_, _, _, _] rfl rfl rfl (.t rfl .n))) ?_
      rw [if_pos e0, e0]
      have ew : w = worstP b (powers l) most := hw
      rw [← ew]
      exact ⟨us.getD k default, ve, vn, K, ke, kn, rfl, rfl, inferInstance, by rw [hk1.2]; exact ak, OE, ON⟩
theorem RLeast_spec (b : BBank) (vb vg : Value) (hb hg : PHeap) [ib : Arr vb encBat 4 hb b.bats] [ig : Arr vg encGen 5 hg b.gens] (l : List BSpan) (vl : Value) (hl : PHeap) [il : Arr vl encSpan 2 hl l] (most : Int) (hm1 : most ≤ 9223372036854775807) : Spec Try.prog 21 #[.agg #[vb, vg], vl, .int .i64 most] [] [hb, hg, hl] (fun v hs => v = .tuple #[.int .i64 (if searchP b l most = 0 then leastP b (powers l) most else 0), .int .i64 (searchP b l most)] ∧ hs = []) := by
  refine Spec.intro (fn := Try.f21) (N := 50) Try.func21 rfl Try.ntmps21 rfl fun B => ?_
  refine XK.seq ?_
  refine XK.region rfl ?_
  refine XO.box rfl fun b3 => ?_
  refine XO.q (Q.assign rfl) ?_
  refine XO.q (Q.assign rfl) ?_
  refine XO.done ?_
  refine XK.seq ?_
  refine XK.region rfl ?_
  refine XO.q (Q.ldA [_, _] rfl rfl rfl) ?_
  refine XO.q (Q.move rfl) ?_
  refine XO.q (Q.move rfl) ?_
  refine XO.call Try.call54 rfl rfl rfl (Rsearch_spec b vb vg hb hg l vl hl most) fun v19 s19 R19 => ?_
  obtain ⟨vp, kp, rfl, rfl, OP⟩ := R19
  dsimp only [List.cons_append, List.nil_append]
  refine XO.q (Q.move rfl) ?_
  refine XO.q (Q.extract rfl rfl) ?_
  refine XO.q (Q.extract rfl rfl) ?_
  refine XO.q (Q.assign rfl) ?_
  refine XO.q (Q.assign rfl) ?_
  refine XO.done ?_
  refine XK.seq ?_
  refine XK.seq ?_
  refine XK.region rfl ?_
  refine XO.q (Q.move rfl) ?_
  refine XO.q (Q.neq rfl rfl) ?_
  refine XO.done ?_
  refine XK.if rfl (fun c0 => ?_) (fun c0 => ?_)
  · have _t0 := True.intro
    refine XK.seq ?_
    refine XK.region rfl ?_
    refine XO.q (Q.move rfl) ?_
    refine XO.q (Q.assign rfl) ?_
    refine XO.q (Q.assign rfl) ?_
    refine XO.done ?_
    refine XK.rt [] Try.func21 Try.results21 (.t rfl (.t rfl .n)) ?_
    exact ⟨by rw [if_neg c0], rfl⟩
  · have _t0 := True.intro
    have e0 := Decidable.of_not_not c0
    have sk := searchP_iff.1 e0
    rw [if_pos e0] at OP
    have wk := pwOk sk.ol
    refine XK.skip ?_
    refine XK.seq ?_
    refine XK.region rfl ?_
    refine XO.q (Q.fieldAddr rfl) ?_
    refine XO.q (Q.ld rfl rfl) ?_
    refine XO.q (Q.move rfl) ?_
    refine XO.call Try.call55 rfl rfl rfl (Lists_spec b.gens sk.ob.gen sk.ob.ng most sk.m0 hm1 vg hg) fun v28 s28 R28 => ?_
    obtain ⟨ho, us, K, rfl, OO, RR⟩ := R28
    dsimp only [List.cons_append, List.nil_append]
    have RR : RowsK us K (listsP b most) := RR
    have rl := RR.1
    refine XO.q (Q.assign rfl) ?_
    refine XO.done ?_
    refine XK.seq ?_
    refine XK.region rfl ?_
    refine XO.q (Q.assign rfl) ?_
    refine XO.done ?_
    refine XK.seq ?_
    refine XK.seq ?_
    refine XK.region rfl ?_
    refine XO.q (Q.assign rfl) ?_
    refine XO.done ?_
    refine XK.block ?_
    refine XK.while (X := Nat) [11, 12, 13, 14, 29, 30, 31, 32, 33, 34, 35, 36, 37, 38, 39, 40, 41, 42, 43, 44, 45, 46, 47, 48] (fun i => [(11, some (.int .i64 (leastTo b (powers l) (listsP b most) (i)))), (12, some (.int .i64 (i : Nat)))]) (fun i => []) (fun i => i ≤ (listsP b most).length) (fun i => (listsP b most).length - i) (0) [] rfl (by omega) (.c rfl (.c rfl (.base 0 rfl rfl))) ?_
    rintro i hi ih0
    dsimp only [List.cons_append, List.nil_append] at ih0 ⊢
    refine XK.seq ?_
    refine XK.seq ?_
    refine XK.region rfl ?_
    refine XO.q (Q.move rfl) ?_
    refine XO.q (Q.move rfl) ?_
    refine XO.len rfl fun l31 => ?_
    refine XO.q (Q.lss rfl rfl) ?_
    refine XO.done ?_
    refine XK.if rfl (fun c1 => ?_) (fun c1 => ?_)
    · have _t1 := True.intro
      have ar := RR.2 i (by omega)
      have fk := (lists_in sk.ob sk.m0 (k := i) (by omega)).1
      refine XK.skip ?_
      refine XK.seq ?_
      refine XK.block ?_
      refine XK.seq ?_
      refine XK.drawn [0, 1, 2, 3, 4, 5, 7, 8, 9, 12] [b3] [ho] (.q 0 (.q 1 (.q 2 (.q 3 (.q 4 (.q 5 (.br 6 true (.q 7 (.q 8 (.q 9 (.br 10 true (.br 11 true (.q 12 .done) .stop) .stop)))) (.br 10 true (.br 6 true (.q 7 (.q 8 (.q 9 (.br 11 true (.q 12 .done) .stop)))) .stop) .stop)))))))) Try.mixed rfl (by kernel_rfl) ?_
      refine XT.q rfl rfl (Q.ldA [_, _] rfl rfl rfl) ?_
      refine XT.q rfl rfl (Q.move rfl) ?_
      refine XT.q rfl rfl (Q.move rfl) ?_
      refine XT.q rfl rfl (Q.move rfl) ?_
      refine XT.ix rfl rfl rfl rfl (by omega) (by omega) fun i40 => ?_
      refine XT.q rfl rfl (Q.ldE rfl (by first | assumption | omega) rfl) ?_
      refine XT.call rfl rfl Try.call56 rfl rfl rfl (play_on b vb vg hb hg (powers l) vp kp ((listsP b most).getD i default) (us.getD i default) K sk.ob fk wk) (fun v42 s42 R42 => ?_) ?_
      · skip
        obtain ⟨ve, vn, vo, sv, rfl, rfl, oe, on, oo⟩ := R42
        dsimp only [List.cons_append, List.nil_append]
        refine ⟨inferInstance, ?_⟩
        refine XT.q rfl rfl (Q.move rfl) ?_
        refine XT.q rfl rfl (Q.extract rfl rfl) ?_
        refine XT.q rfl rfl (Q.extract rfl rfl) ?_
        refine XT.alloc rfl rfl (fun b13 => ⟨inferInstance, ?_⟩) XT.stop
        refine XT.st rfl rfl rfl rfl rfl ⟨inferInstance, ?_⟩ XT.stop
        refine XT.q rfl rfl (Q.assign rfl) ?_
        refine XT.done ?_
        refine XK.region rfl ?_
        refine XO.q (Q.move rfl) ?_
        refine XO.q (Q.fieldAddr rfl) ?_
        refine XO.q (Q.ld rfl rfl) ?_
        refine XO.q (Q.max rfl rfl) ?_
        refine XO.q (Q.assign rfl) ?_
        refine XO.done ?_
        refine XK.inBlock ?_
        refine XK.region rfl ?_
        refine XO.q (Q.move rfl) ?_
        refine XO.q (Q.add rfl rfl ⟨by omega, by omega⟩) ?_
        refine XO.q (Q.assign rfl) ?_
        refine XO.done ?_
        exact ih0 (i + 1) _ _ (by omega) (by first | omega | (dsimp only; omega)) (.c rfl (.c rfl (.base 50 rfl rfl))) inferInstance
      · skip
        refine XT.alloc rfl rfl (fun b13 => ⟨inferInstance, ?_⟩) XT.stop
        refine XT.call rfl rfl Try.call56 rfl rfl rfl (play_on b vb vg hb hg (powers l) vp kp ((listsP b most).getD i default) (us.getD i default) K sk.ob fk wk) (fun v42 s42 R42 => ?_) XT.stop
        obtain ⟨ve, vn, vo, sv, rfl, rfl, oe, on, oo⟩ := R42
        dsimp only [List.cons_append, List.nil_append]
        refine ⟨inferInstance, ?_⟩
        refine XT.q rfl rfl (Q.move rfl) ?_
        refine XT.q rfl rfl (Q.extract rfl rfl) ?_
        refine XT.q rfl rfl (Q.extract rfl rfl) ?_
        refine XT.st rfl rfl rfl rfl rfl ⟨inferInstance, ?_⟩ XT.stop
        refine XT.q rfl rfl (Q.assign rfl) ?_
        refine XT.done ?_
        refine XK.region rfl ?_
        refine XO.q (Q.move rfl) ?_
        refine XO.q (Q.fieldAddr rfl) ?_
        refine XO.q (Q.ld rfl rfl) ?_
        refine XO.q (Q.max rfl rfl) ?_
        refine XO.q (Q.assign rfl) ?_
        refine XO.done ?_
        refine XK.inBlock ?_
        refine XK.region rfl ?_
        refine XO.q (Q.move rfl) ?_
        refine XO.q (Q.add rfl rfl ⟨by omega, by omega⟩) ?_
        refine XO.q (Q.assign rfl) ?_
        refine XO.done ?_
        exact ih0 (i + 1) _ _ (by omega) (by first | omega | (dsimp only; omega)) (.c rfl (.c rfl (.base 50 rfl rfl))) inferInstance
    · have _t1 := True.intro
      have hil : i = (listsP b most).length := by omega
      subst hil
      refine XK.exit rfl ?_
      refine XK.seq ?_
      refine XK.region rfl ?_
      refine XO.q (Q.move rfl) ?_
      refine XO.q (Q.assign rfl) ?_
      refine XO.q (Q.assign rfl) ?_
      refine XO.done ?_
      refine XK.rt [] Try.func21 Try.results21 (.t rfl (.t rfl .n)) ?_
      exact ⟨by rw [if_pos e0, e0]; rfl, rfl⟩
theorem RHold_spec (b : BBank) (vb vg : Value) (hb hg : PHeap) [ib : Arr vb encBat 4 hb b.bats] [ig : Arr vg encGen 5 hg b.gens] (power most : Int) (hm1 : most ≤ 9223372036854775807) : Spec Try.prog 23 #[.agg #[vb, vg], .int .i64 power, .int .i64 most] [] [hb, hg] (fun v hs => v = .tuple #[.int .i64 (holdP b power most).1, .int .i64 (holdP b power most).2] ∧ hs = []) := by
  refine Spec.intro (fn := Try.f23) (N := 40) Try.func23 rfl Try.ntmps23 rfl fun B => ?_
  refine XK.seq ?_
  refine XK.region rfl ?_
  refine XO.box rfl fun b3 => ?_
  refine XO.q (Q.assign rfl) ?_
  refine XO.q (Q.assign rfl) ?_
  refine XO.done ?_
  refine XK.seq ?_
  refine XK.seq ?_
  refine XK.region rfl ?_
  refine XO.q (Q.ldA [_, _] rfl rfl rfl) ?_
  refine XO.call Try.call39 rfl rfl rfl (RCheck_spec b vb vg hb hg) fun v13 s13 R13 => ?_
  obtain ⟨rfl, rfl⟩ := R13
  dsimp only [List.cons_append, List.nil_append]
  refine XO.q (Q.assign rfl) ?_
  refine XO.done ?_
  refine XK.seq ?_
  refine XK.region rfl ?_
  refine XO.q (Q.move rfl) ?_
  refine XO.q (Q.neq rfl rfl) ?_
  refine XO.done ?_
  refine XK.if rfl (fun c0 => ?_) (fun c0 => ?_)
  · have _t0 := True.intro
    refine XK.seq ?_
    refine XK.region rfl ?_
    refine XO.q (Q.move rfl) ?_
    refine XO.q (Q.assign rfl) ?_
    refine XO.q (Q.assign rfl) ?_
    refine XO.done ?_
    refine XK.rt [] Try.func23 Try.results23 (.t rfl (.t rfl .n)) ?_
    exact ⟨by rw [holdP, if_pos c0], rfl⟩
  · have _t0 := True.intro
    refine XK.skip ?_
    refine XK.seq ?_
    refine XK.seq ?_
    refine XK.region rfl ?_
    refine XO.q (Q.move rfl) ?_
    refine XO.call Try.call60 rfl rfl rfl (in06 power 1000000) fun v18 s18 R18 => ?_
    obtain ⟨rfl, rfl⟩ := R18
    dsimp only [List.cons_append, List.nil_append]
    refine XO.q (Q.not rfl) ?_
    refine XO.done ?_
    refine XK.if rfl (fun c1 => ?_) (fun c1 => ?_)
    · have _t1 := True.intro
      refine XK.seq ?_
      refine XK.region rfl ?_
      refine XO.q (Q.assign rfl) ?_
      refine XO.q (Q.assign rfl) ?_
      refine XO.done ?_
      refine XK.rt [] Try.func23 Try.results23 (.t rfl (.t rfl .n)) ?_
      exact ⟨by rw [holdP, if_neg c0, if_pos (by rw [in_same]; exact c1)], rfl⟩
    · have _t1 := True.intro
      refine XK.skip ?_
      refine XK.seq ?_
      refine XK.region rfl ?_
      refine XO.q (Q.ldA [_, _] rfl rfl rfl) ?_
      refine XO.q (Q.move rfl) ?_
      refine XO.q (Q.build [_, _] (.c 0 1 rfl rfl rfl (.c 1 1 rfl rfl rfl (.n _)))) ?_
      refine XO.q (Q.move rfl) ?_
      refine XO.q (Q.build [_, _] (.c 0 1 rfl rfl rfl (.c 1 1 rfl rfl rfl (.n _)))) ?_
      refine XO.lit [_, _, _, _] [_, _, _, _] (refLoad power) encSpan (by rfl) (by rfl) rfl (by rfl) (by exact .c 0 2 rfl rfl rfl (.c 2 2 rfl rfl rfl (.n _))) (fun _ => rfl) (by rfl) rfl (by infer_instance) rfl fun v26 h26 O26 => ?_
      refine XO.q (Q.move rfl) ?_
      refine XO.call Try.call18 rfl rfl rfl (RWorst_spec b vb vg hb hg (refLoad power) v26 h26 most hm1) fun v28 s28 R28 => ?_
      obtain ⟨vw, ve, vn, K, ke, kn, rfl, rfl, ow, AW, OE, ON⟩ := R28
      dsimp only [List.cons_append, List.nil_append]
      have pr := inR_iff.1 (Decidable.of_not_not c1)
      rw [refLoad_search pr.1 pr.2, refLoad_powers]
      obtain ⟨w, ew⟩ : ∃ w, w = (if searchP b (holdLoad power) most = 0 then (worstP b (powers (holdLoad power)) most) else ([], ⟨0, [], [], 0⟩)) := ⟨_, rfl⟩
      rw [← ew]
      refine XO.q (Q.move rfl) ?_
      refine XO.q (Q.extract rfl rfl) ?_
      refine XO.q (Q.extract rfl rfl) ?_
      refine XO.q (Q.extract rfl rfl) ?_
      refine XO.alloc fun b10 => ?_
      refine XO.q (Q.assign rfl) ?_
      refine XO.st rfl rfl rfl ?_
      refine XO.q (Q.assign rfl) ?_
      refine XO.done ?_
      refine XK.seq ?_
      refine XK.seq ?_
      refine XK.region rfl ?_
      refine XO.q (Q.move rfl) ?_
      refine XO.q (Q.neq rfl rfl) ?_
      refine XO.done ?_
      refine XK.if rfl (fun c2 => ?_) (fun c2 => ?_)
      · have _t2 := True.intro
        refine XK.seq ?_
        refine XK.region rfl ?_
        refine XO.q (Q.move rfl) ?_
        refine XO.q (Q.assign rfl) ?_
        refine XO.q (Q.assign rfl) ?_
        refine XO.done ?_
        refine XK.rt [] Try.func23 Try.results23 (.t rfl (.t rfl .n)) ?_
        exact ⟨by rw [holdP, if_neg c0, if_neg (by rw [in_same]; exact c1), if_pos c2], rfl⟩
      · have _t2 := True.intro
        have e0 := Decidable.of_not_not c2
        rw [if_pos e0] at ew
        subst ew
        refine XK.skip ?_
        refine XK.seq ?_
        refine XK.seq ?_
        refine XK.region rfl ?_
        refine XO.q (Q.fieldAddr rfl) ?_
        refine XO.q (Q.ld rfl rfl) ?_
        refine XO.q (Q.lss rfl rfl) ?_
        refine XO.done ?_
        refine XK.if rfl (fun c3 => ?_) (fun c3 => ?_)
        · have _t3 := True.intro
          refine XK.seq ?_
          refine XK.region rfl ?_
          refine XO.q (Q.assign rfl) ?_
          refine XO.q (Q.assign rfl) ?_
          refine XO.done ?_
          refine XK.rt [] Try.func23 Try.results23 (.t rfl (.t rfl .n)) ?_
          exact ⟨by rw [holdP, if_neg c0, if_neg (by rw [in_same]; exact c1), if_neg c2, if_pos c3], rfl⟩
        · have _t3 := True.intro
          refine XK.skip ?_
          refine XK.seq ?_
          refine XK.region rfl ?_
          refine XO.q (Q.fieldAddr rfl) ?_
          refine XO.q (Q.ld rfl rfl) ?_
          refine XO.q (Q.assign rfl) ?_
          refine XO.q (Q.assign rfl) ?_
          refine XO.done ?_
          refine XK.rt [] Try.func23 Try.results23 (.t rfl (.t rfl .n)) ?_
          exact ⟨by rw [holdP, if_neg c0, if_neg (by rw [in_same]; exact c1), if_neg c2, if_neg c3], rfl⟩
theorem heavy06 (b : BBank) (vb vg : Value) (hb hg : PHeap) [ib : Arr vb encBat 4 hb b.bats] [ig : Arr vg encGen 5 hg b.gens] (l : List BSpan) (vl : Value) (hl : PHeap) [il : Arr vl encSpan 2 hl l] : Spec Try.prog 13 #[.agg #[vb, vg], vl] [] [hb, hg, hl] (fun v hs => v = .bool (heavyP b l) ∧ hs = []) := by
  have lg := ig.le
  have ll := il.le
  refine Spec.intro (fn := Try.f13) (N := 65) Try.func13 rfl Try.ntmps13 rfl fun B => ?_
  refine XK.seq ?_
  refine XK.region rfl ?_
  refine XO.box rfl fun b2 => ?_
  refine XO.q (Q.assign rfl) ?_
  refine XO.done ?_
  refine XK.seq ?_
  refine XK.region rfl ?_
  refine XO.q (Q.assign rfl) ?_
  refine XO.q (Q.assign rfl) ?_
  refine XO.done ?_
  refine XK.seq ?_
  refine XK.seq ?_
  refine XK.region rfl ?_
  refine XO.q (Q.fieldAddr rfl) ?_
  refine XO.q (Q.ld rfl rfl) ?_
  refine XO.len rfl fun l13 => ?_
  refine XO.q (Q.move rfl) ?_
  refine XO.done ?_
  refine XK.block ?_
  refine XK.while (X := Nat) [4, 5, 8, 14, 15, 16, 17, 18, 19, 20, 21, 22, 23, 24, 25, 26, 27, 28, 29, 30, 31] (fun i => [(5, some (.int .i64 (casesW b i))), (14, some (.int .i64 (i : Nat)))]) (fun i => []) (fun i => i ≤ b.gens.length ∧ (b.gens.take i).any badG = false) (fun i => b.gens.length - i) (0) [] rfl ⟨by omega, rfl⟩ (.c rfl (.c rfl (.base 0 rfl rfl))) ?_
  rintro i ⟨hi, ha⟩ ih0
  dsimp only [List.cons_append, List.nil_append] at ih0 ⊢
  refine XK.seq ?_
  refine XK.region rfl ?_
  refine XO.q (Q.lss rfl rfl) ?_
  refine XO.done ?_
  refine XK.seq ?_
  refine XK.if rfl (fun c0 => ?_) (fun c0 => ?_)
  · have _t0 := True.intro
    refine XK.skip ?_
    refine XK.seq ?_
    refine XK.block ?_
    refine XK.seq ?_
    refine XK.region rfl ?_
    refine XO.ix rfl rfl (by omega) (by omega) fun i16 => ?_
    refine XO.q (Q.ldEA [_, _, _, _, _] rfl (by first | assumption | omega) rfl rfl) ?_
    refine XO.alloc fun b8 => ?_
    refine XO.st rfl rfl rfl ?_
    refine XO.done ?_
    refine XK.seq ?_
    refine XK.seq ?_
    refine XK.region rfl ?_
    refine XO.q (Q.fieldAddr rfl) ?_
    refine XO.q (Q.ld rfl rfl) ?_
    refine XO.q (Q.lss rfl rfl) ?_
    refine XO.q (Q.move rfl) ?_
    refine XO.q (Quiet.guardF rfl rfl fun g22 p22 => Q.fieldAddr rfl) ?_
    refine XO.q (Quiet.guardF rfl rfl fun g23 p23 => Q.ld (lzv g23 rfl) rfl) ?_
    refine XO.q (Quiet.guardF rfl rfl fun g24 p24 => Q.gtr (lzv g24 rfl) rfl) ?_
    refine XO.q (Q.or rfl (fun hp => lzv hp rfl)) ?_
    refine XO.done ?_
    refine XK.if rfl (fun c1 => ?_) (fun c1 => ?_)
    · have _t1 := True.intro
      refine XK.seq ?_
      refine XK.region rfl ?_
      refine XO.q (Q.assign rfl) ?_
      refine XO.done ?_
      refine XK.rt [] Try.func13 Try.results13 (.t rfl .n) ?_
      exact ⟨by rw [heavyP, if_pos (List.any_eq_true.2 ⟨_, getD_memB (show i < b.gens.length by omega), by unfold badG; simpa using c1⟩)], rfl⟩
    · have _t1 := True.intro
      refine XK.skip ?_
      refine XK.region rfl ?_
      refine XO.q (Q.move rfl) ?_
      refine XO.q (Q.fieldAddr rfl) ?_
      refine XO.q (Q.ld rfl rfl) ?_
      refine XO.q (Q.addW rfl rfl) ?_
      refine XO.q (Q.mulW rfl rfl) ?_
      refine XO.q (Q.assign rfl) ?_
      refine XO.done ?_
      refine XK.inBlock ?_
      refine XK.region rfl ?_
      refine XO.q (Q.add rfl rfl ⟨by omega, by omega⟩) ?_
      refine XO.q (Q.move rfl) ?_
      refine XO.done ?_
      exact ih0 (i + 1) _ _ ⟨by omega, any_snoc ha (by omega) (by unfold badG; simpa using c1)⟩ (by first | omega | (dsimp only; omega)) (.c rfl (.c rfl (.base 43 rfl rfl))) inferInstance
  · have _t0 := True.intro
    have hil : i = b.gens.length := by omega
    subst hil
    rw [List.take_length] at ha
    clear ih0
    refine XK.exit rfl ?_
    refine XK.seq ?_
    refine XK.seq ?_
    refine XK.region rfl ?_
    refine XO.q (Q.move rfl) ?_
    refine XO.len rfl fun l33 => ?_
    refine XO.q (Q.move rfl) ?_
    refine XO.done ?_
    refine XK.block ?_
    refine XK.while (X := Nat) [4, 6, 10, 34, 35, 36, 37, 38, 39, 40, 41, 42, 43, 44, 45, 46, 47, 48, 49, 50] (fun i => [(6, some (.int .i64 (secsW l i))), (34, some (.int .i64 (i : Nat)))]) (fun i => []) (fun i => i ≤ l.length ∧ (l.take i).any badS = false) (fun i => l.length - i) (0) [] rfl ⟨by omega, rfl⟩ (.c rfl (.c rfl (.base 0 rfl rfl))) ?_
    rintro i ⟨hi, hs⟩ ih1
    dsimp only [List.cons_append, List.nil_append] at ih1 ⊢
    refine XK.seq ?_
    refine XK.region rfl ?_
    refine XO.q (Q.lss rfl rfl) ?_
    refine XO.done ?_
    refine XK.seq ?_
    refine XK.if rfl (fun c2 => ?_) (fun c2 => ?_)
    · have _t2 := True.intro
      refine XK.skip ?_
      refine XK.seq ?_
      refine XK.block ?_
      refine XK.seq ?_
      refine XK.region rfl ?_
      refine XO.ix rfl rfl (by omega) (by omega) fun i36 => ?_
      refine XO.q (Q.ldEA [_, _] rfl (by first | assumption | omega) rfl rfl) ?_
      refine XO.alloc fun b10 => ?_
      refine XO.st rfl rfl rfl ?_
      refine XO.done ?_
      refine XK.seq ?_
      refine XK.seq ?_
      refine XK.region rfl ?_
      refine XO.q (Q.fieldAddr rfl) ?_
      refine XO.q (Q.ld rfl rfl) ?_
      refine XO.q (Q.lss rfl rfl) ?_
      refine XO.q (Q.move rfl) ?_
      refine XO.q (Quiet.guardF rfl rfl fun g42 p42 => Q.fieldAddr rfl) ?_
      refine XO.q (Quiet.guardF rfl rfl fun g43 p43 => Q.ld (lzv g43 rfl) rfl) ?_
      refine XO.q (Quiet.guardF rfl rfl fun g44 p44 => Q.gtr (lzv g44 rfl) rfl) ?_
      refine XO.q (Q.or rfl (fun hp => lzv hp rfl)) ?_
      refine XO.done ?_
      refine XK.if rfl (fun c3 => ?_) (fun c3 => ?_)
      · have _t3 := True.intro
        refine XK.seq ?_
        refine XK.region rfl ?_
        refine XO.q (Q.assign rfl) ?_
        refine XO.done ?_
        refine XK.rt [] Try.func13 Try.results13 (.t rfl .n) ?_
        exact ⟨by rw [heavyP, if_neg (by rw [ha]; decide), if_pos (List.any_eq_true.2 ⟨_, getD_memB (show i < l.length by omega), by unfold badS; simpa using c3⟩)], rfl⟩
      · have _t3 := True.intro
        refine XK.skip ?_
        refine XK.region rfl ?_
        refine XO.q (Q.move rfl) ?_
        refine XO.q (Q.fieldAddr rfl) ?_
        refine XO.q (Q.ld rfl rfl) ?_
        refine XO.q (Q.addW rfl rfl) ?_
        refine XO.q (Q.assign rfl) ?_
        refine XO.done ?_
        refine XK.inBlock ?_
        refine XK.region rfl ?_
        refine XO.q (Q.add rfl rfl ⟨by omega, by omega⟩) ?_
        refine XO.q (Q.move rfl) ?_
        refine XO.done ?_
        exact ih1 (i + 1) _ _ ⟨by omega, any_snoc hs (by omega) (by unfold badS; simpa using c3)⟩ (by first | omega | (dsimp only; omega)) (.c rfl (.c rfl (.base 41 rfl rfl))) inferInstance
    · have _t2 := True.intro
      have hil : i = l.length := by omega
      subst hil
      rw [List.take_length] at hs
      refine XK.exit rfl ?_
      refine XK.seq ?_
      refine XK.region rfl ?_
      refine XO.q (Q.move rfl) ?_
      refine XO.q (Q.gtr rfl rfl) ?_
      refine XO.q (Q.move rfl) ?_
      refine XO.q (Quiet.guardT rfl rfl fun g54 p54 => Q.move rfl) ?_
      refine XO.q (Quiet.guardT rfl rfl fun g55 p55 => Q.leq (lzv g55 rfl) rfl) ?_
      refine XO.q (Q.and rfl (fun hp => lzv hp rfl)) ?_
      refine XO.q (Q.move rfl) ?_
      refine XO.q (Quiet.guardF rfl rfl fun g58 p58 => Q.move rfl) ?_
      refine XO.q (Quiet.guardF rfl rfl fun g59 p59 => Q.gtr (lzv g59 rfl) rfl) ?_
      refine XO.q (Quiet.guardF rfl rfl fun g60 p60 => Q.move (lzv g60 rfl)) ?_
      refine XO.q (Quiet.guard2 rfl rfl fun g61a g61b => have p61a := bpF g61a; have p61b := bpT g61b; Q.move rfl) ?_
      refine XO.q (Quiet.guard2 rfl rfl fun g62a g62b => have p62a := bpF g62a; have p62b := bpT g62b; Q.leq (lzv g62b (lzv g62a rfl)) rfl) ?_
      refine XO.q (Quiet.guardF rfl rfl fun g63 p63 => Q.and (lzv g63 rfl) (fun hp => (lzv hp (lzv g63 rfl)))) ?_
      refine XO.q (Q.or rfl (fun hp => lzv hp rfl)) ?_
      refine XO.q (Q.assign rfl) ?_
      refine XO.done ?_
      refine XK.rt [] Try.func13 Try.results13 (.t rfl .n) ?_
      exact ⟨by rw [heavyP, if_neg (by rw [ha]; decide), if_neg (by rw [hs]; decide)], rfl⟩
end Go.X

set_option linter.unusedSimpArgs false
set_option linter.unusedVariables false
set_option maxRecDepth 20000
namespace Go.X
open Go.Proofs
set_option maxHeartbeats 2000000 in
set_option synthInstance.maxSize 1000 in
theorem BankWorst_spec (b : BBank) (vb vg : Value) (hb hg : PHeap) [ib : Arr vb encBat 4 hb b.bats] [ig : Arr vg encGen 5 hg b.gens] (l : List BSpan) (vl : Value) (hl : PHeap) [il : Arr vl encSpan 2 hl l] (power most : Int) (hm1 : most ≤ 9223372036854775807) : Spec Try.prog 3 #[.agg #[vb, vg], vl, .int .i64 power, .int .i64 most] [] [hb, hg, hl] (fun v hs => v = .bool true ∧ hs = []) := by
  have nf : Arr (.slice none 0 0) encI 1 hl ([] : List Int) := Arr.nil (fun _ => rfl)
  refine Spec.intro (fn := Try.f3) (N := 134) Try.func3 rfl Try.ntmps3 rfl fun B => ?_
  refine XK.seq ?_
  refine XK.region rfl ?_
  refine XO.box rfl fun b4 => ?_
  refine XO.q (Q.assign rfl) ?_
  refine XO.done ?_
  refine XK.seq ?_
  refine XK.seq ?_
  refine XK.region rfl ?_
  refine XO.q (Q.ldA [_, _] rfl rfl rfl) ?_
  refine XO.q (Q.move rfl) ?_
  refine XO.call Try.call12 rfl rfl rfl (huge06 b vb vg hb hg l vl hl [] (.slice none 0 0) hl) fun v28 s28 R28 => ?_
  obtain ⟨hr, rfl, rfl, near⟩ := R28
  dsimp only [List.cons_append, List.nil_append]
  refine XO.q (Q.move rfl) ?_
  refine XO.q (Quiet.guardF rfl rfl fun g30 p30 => Q.ldA [_, _] rfl rfl rfl) ?_
  refine XO.q (Quiet.guardF rfl rfl fun g31 p31 => Q.move rfl) ?_
  refine XO.gcallF rfl rfl Try.call13 rfl (fun g32 => .c (lzv g32 rfl) (.c (lzv g32 rfl) .n)) rfl (fun g32 p32 => heavy06 b vb vg hb hg l vl hl) ?_
  refine XO.q (Q.or rfl (fun hp => lzv hp rfl)) ?_
  refine XO.done ?_
  refine XK.if rfl (fun c0 => ?_) (fun c0 => ?_)
  · have _t0 := True.intro
    refine XK.seq ?_
    refine XK.region rfl ?_
    refine XO.call Try.call14 rfl rfl rfl (awake06) fun v34 s34 R34 => ?_
    obtain ⟨rfl, rfl⟩ := R34
    dsimp only [List.cons_append, List.nil_append]
    refine XO.q (Q.assign rfl) ?_
    refine XO.done ?_
    refine XK.rt [] Try.func3 Try.results3 (.t rfl .n) ?_
    exact ⟨rfl, rfl⟩
  · have _t0 := True.intro
    have near := near (by simpa using fun h => c0 (.inl h))
    refine XK.skip ?_
    refine XK.seq ?_
    refine XK.region rfl ?_
    refine XO.q (Q.ldA [_, _] rfl rfl rfl) ?_
    refine XO.call Try.call15 rfl rfl rfl (copied06 b vb vg hb hg (by have := near.nb; omega) (by have := near.ng; omega)) fun v37 s37 R37 => ?_
    obtain ⟨vb1, vg1, vb2, vg2, kb1, kg1, kb2, kg2, rfl, rfl, OB1, OG1, OB2, OG2⟩ := R37
    dsimp only [List.cons_append, List.nil_append]
    refine XO.q (Q.move rfl) ?_
    refine XO.q (Q.extract rfl rfl) ?_
    refine XO.q (Q.extract rfl rfl) ?_
    refine XO.alloc fun b9 => ?_
    refine XO.alloc fun b10 => ?_
    refine XO.st rfl rfl rfl ?_
    refine XO.st rfl rfl rfl ?_
    refine XO.done ?_
    refine XK.seq ?_
    refine XK.region rfl ?_
    refine XO.q (Q.move rfl) ?_
    refine XO.call Try.call16 rfl rfl rfl (cloneS vl hl l (by have := near.nl; omega)) fun v41 s41 R41 => ?_
    obtain ⟨k41, rfl, O41⟩ := R41
    dsimp only [List.cons_append, List.nil_append]
    refine XO.q (Q.assign rfl) ?_
    refine XO.done ?_
    refine XK.seq ?_
    refine XK.region rfl ?_
    refine XO.q (Q.ldA [_, _] rfl rfl rfl) ?_
    refine XO.q (Q.move rfl) ?_
    refine XO.q (Q.move rfl) ?_
    refine XO.call Try.call17 rfl rfl rfl (Worst_spec b vb1 vg1 kb1 kg1 l v41 k41 most hm1) fun v46 s46 R46 => ?_
    obtain ⟨vw, ve, vn, K, ke, kn, rfl, rfl, ow, AW, OE, ON⟩ := R46
    dsimp only [List.cons_append, List.nil_append]
    obtain ⟨r, er⟩ : ∃ r, r = (if searchP b l most = 0 then worstP b (powers l) most else ([], ⟨0, [], [], 0⟩)) := ⟨_, rfl⟩
    rw [← er] at AW OE ON ⊢
    refine XO.q (Q.move rfl) ?_
    refine XO.q (Q.extract rfl rfl) ?_
    refine XO.q (Q.extract rfl rfl) ?_
    refine XO.q (Q.extract rfl rfl) ?_
    refine XO.alloc fun b13 => ?_
    refine XO.q (Q.assign rfl) ?_
    refine XO.st rfl rfl rfl ?_
    refine XO.q (Q.assign rfl) ?_
    refine XO.done ?_
    refine XK.seq ?_
    refine XK.meet (X := Nat × Value × Value × Value × PHeap × PHeap × PHeap) [15, 16, 17, 50, 51, 52, 53, 54, 55, 56, 57, 58] (fun ⟨b16, vwb, veb, vnb, Kb, keb, knb⟩ => [(15, some (vwb)), (16, some (ptr b16 0)), (17, some (.int .i64 (searchP b l most)))]) (fun ⟨b16, vwb, veb, vnb, Kb, keb, knb⟩ => [blk b16 [.int .i64 r.2.dark, veb, vnb, .int .i64 r.2.served] 45, Kb, keb, knb]) (fun ⟨b16, vwb, veb, vnb, Kb, keb, knb⟩ => One vwb ∧ Arr vwb encI 1 Kb r.1 ∧ OArr veb encI 1 3 keb r.2.energy ∧ OArr vnb encI 1 3 knb r.2.burnt) [] ?_ ?_
    · rintro ⟨b16, vwb, veb, vnb, Kb, keb, knb⟩ ⟨owb, AWb, OEb, ONb⟩
      dsimp only [List.cons_append, List.nil_append]
      refine XK.seq ?_
      refine XK.region rfl ?_
      refine XO.q (Q.ldA [_, _] rfl rfl rfl) ?_
      refine XO.q (Q.move rfl) ?_
      refine XO.q (Q.move rfl) ?_
      refine XO.call Try.call20 rfl rfl rfl (Least_spec b vb1 vg1 kb1 kg1 l v41 k41 most hm1) fun v63 s63 R63 => ?_
      obtain ⟨rfl, rfl⟩ := R63
      dsimp only [List.cons_append, List.nil_append]
      refine XO.q (Q.move rfl) ?_
      refine XO.q (Q.extract rfl rfl) ?_
      refine XO.q (Q.extract rfl rfl) ?_
      refine XO.q (Q.assign rfl) ?_
      refine XO.q (Q.assign rfl) ?_
      refine XO.done ?_
      refine XK.seq ?_
      refine XK.drawn [0, 1, 3, 5, 6, 7, 8, 9] [b10] [] (.q 0 (.q 1 (.q 3 (.br 2 true (.br 4 true (.q 5 (.q 6 (.q 7 (.q 8 (.q 9 .done))))) .stop) .stop)))) Try.mixed rfl (by kernel_rfl) ?_
      refine XT.q rfl rfl (Q.ldA [_, _] rfl rfl rfl) ?_
      refine XT.q rfl rfl (Q.move rfl) ?_
      refine XT.q rfl rfl (Q.move rfl) ?_
      refine XT.call rfl rfl Try.call19 rfl rfl rfl (spans06 l vl hl (by have := near.nl; omega)) (fun v69 s69 R69 => ?_) XT.stop
      obtain ⟨k69, rfl, O69⟩ := R69
      dsimp only [List.cons_append, List.nil_append]
      refine ⟨inferInstance, ?_⟩
      refine XT.call rfl rfl Try.call21 rfl rfl rfl (RLeast_spec b vb2 vg2 kb2 kg2 l v69 k69 most hm1) (fun v71 s71 R71 => ?_) XT.stop
      obtain ⟨rfl, rfl⟩ := R71
      dsimp only [List.cons_append, List.nil_append]
      refine ⟨inferInstance, ?_⟩
      refine XT.q rfl rfl (Q.move rfl) ?_
      refine XT.q rfl rfl (Q.extract rfl rfl) ?_
      refine XT.q rfl rfl (Q.extract rfl rfl) ?_
      refine XT.q rfl rfl (Q.assign rfl) ?_
      refine XT.q rfl rfl (Q.assign rfl) ?_
      refine XT.done ?_
      refine XK.seq ?_
      refine XK.region rfl ?_
      refine XO.q (Q.ldA [_, _] rfl rfl rfl) ?_
      refine XO.q (Q.move rfl) ?_
      refine XO.q (Q.move rfl) ?_
      refine XO.call Try.call22 rfl rfl rfl (Hold_spec b vb1 vg1 kb1 kg1 power most hm1) fun v78 s78 R78 => ?_
      obtain ⟨rfl, rfl⟩ := R78
      dsimp only [List.cons_append, List.nil_append]
      refine XO.q (Q.move rfl) ?_
      refine XO.q (Q.extract rfl rfl) ?_
      refine XO.q (Q.extract rfl rfl) ?_
      refine XO.q (Q.assign rfl) ?_
      refine XO.q (Q.assign rfl) ?_
      refine XO.done ?_
      refine XK.seq ?_
      refine XK.region rfl ?_
      refine XO.q (Q.ldA [_, _] rfl rfl rfl) ?_
      refine XO.q (Q.move rfl) ?_
      refine XO.q (Q.move rfl) ?_
      refine XO.call Try.call23 rfl rfl rfl (RHold_spec b vb2 vg2 kb2 kg2 power most hm1) fun v85 s85 R85 => ?_
      obtain ⟨rfl, rfl⟩ := R85
      dsimp only [List.cons_append, List.nil_append]
      refine XO.q (Q.move rfl) ?_
      refine XO.q (Q.extract rfl rfl) ?_
      refine XO.q (Q.extract rfl rfl) ?_
      refine XO.q (Q.assign rfl) ?_
      refine XO.q (Q.assign rfl) ?_
      refine XO.done ?_
      refine XK.seq ?_
      refine XK.region rfl ?_
      refine XO.q (Q.move rfl) ?_
      refine XO.q (Q.move rfl) ?_
      refine XO.call Try.call24 rfl rfl rfl (equalI vw vwb K Kb r.1 r.1) fun v90 s90 R90 => ?_
      obtain ⟨rfl, rfl⟩ := R90
      dsimp only [List.cons_append, List.nil_append]
      refine XO.q (Q.move rfl) ?_
      refine XO.q (Quiet.guardT rfl rfl fun g92 p92 => Q.ldA [_, _, _, _] rfl rfl rfl) ?_
      refine XO.q (Quiet.guardT rfl rfl fun g93 p93 => Q.ldA [_, _, _, _] rfl rfl rfl) ?_
      refine XO.gcallT rfl rfl Try.call25 rfl (fun g94 => .c (lzv g94 rfl) (.c (lzv g94 rfl) .n)) rfl (fun g94 p94 => alike06 r.2 r.2 ve vn veb vnb ke kn keb knb) ?_
      refine XO.q (Q.and rfl (fun hp => lzv hp rfl)) ?_
      refine XO.q (Q.move rfl) ?_
      refine XO.q (Quiet.guardT rfl rfl fun g97 p97 => Q.move rfl) ?_
      refine XO.q (Quiet.guardT rfl rfl fun g98 p98 => Q.move rfl) ?_
      refine XO.q (Quiet.guardT rfl rfl fun g99 p99 => Q.eql (lzv g99 rfl) (lzv g99 rfl)) ?_
      refine XO.q (Q.and rfl (fun hp => lzv hp rfl)) ?_
      refine XO.q (Q.move rfl) ?_
      refine XO.q (Quiet.guardT rfl rfl fun g102 p102 => Q.move rfl) ?_
      refine XO.q (Quiet.guardT rfl rfl fun g103 p103 => Q.move rfl) ?_
      refine XO.q (Quiet.guardT rfl rfl fun g104 p104 => Q.eql (lzv g104 rfl) (lzv g104 rfl)) ?_
      refine XO.q (Q.and rfl (fun hp => lzv hp rfl)) ?_
      refine XO.q (Q.move rfl) ?_
      refine XO.q (Quiet.guardT rfl rfl fun g107 p107 => Q.move rfl) ?_
      refine XO.q (Quiet.guardT rfl rfl fun g108 p108 => Q.move rfl) ?_
      refine XO.q (Quiet.guardT rfl rfl fun g109 p109 => Q.eql (lzv g109 rfl) (lzv g109 rfl)) ?_
      refine XO.q (Q.and rfl (fun hp => lzv hp rfl)) ?_
      refine XO.q (Q.move rfl) ?_
      refine XO.q (Quiet.guardT rfl rfl fun g112 p112 => Q.move rfl) ?_
      refine XO.q (Quiet.guardT rfl rfl fun g113 p113 => Q.move rfl) ?_
      refine XO.q (Quiet.guardT rfl rfl fun g114 p114 => Q.eql (lzv g114 rfl) (lzv g114 rfl)) ?_
      refine XO.q (Q.and rfl (fun hp => lzv hp rfl)) ?_
      refine XO.q (Q.move rfl) ?_
      refine XO.q (Quiet.guardT rfl rfl fun g117 p117 => Q.move rfl) ?_
      refine XO.q (Quiet.guardT rfl rfl fun g118 p118 => Q.move rfl) ?_
      refine XO.q (Quiet.guardT rfl rfl fun g119 p119 => Q.eql (lzv g119 rfl) (lzv g119 rfl)) ?_
      refine XO.q (Q.and rfl (fun hp => lzv hp rfl)) ?_
      refine XO.q (Q.move rfl) ?_
      refine XO.q (Quiet.guardT rfl rfl fun g122 p122 => Q.ldA [_, _] rfl rfl rfl) ?_
      refine XO.q (Quiet.guardT rfl rfl fun g123 p123 => Q.ldA [_, _] rfl rfl rfl) ?_
      refine XO.gcallT rfl rfl Try.call26 rfl (fun g124 => .c (lzv g124 rfl) (.c (lzv g124 rfl) .n)) rfl (fun g124 p124 => same06 b b vb1 vg1 vb vg kb1 kg1 hb hg) ?_
      refine XO.q (Q.and rfl (fun hp => lzv hp rfl)) ?_
      refine XO.q (Q.move rfl) ?_
      refine XO.q (Quiet.guardT rfl rfl fun g127 p127 => Q.move rfl) ?_
      refine XO.q (Quiet.guardT rfl rfl fun g128 p128 => Q.move rfl) ?_
      refine XO.gcallT rfl rfl Try.call27 rfl (fun g129 => .c (lzv g129 rfl) (.c (lzv g129 rfl) .n)) rfl (fun g129 p129 => equalS v41 vl k41 hl l l) ?_
      refine XO.q (Q.and rfl (fun hp => lzv hp rfl)) ?_
      refine XO.q (Q.move rfl) ?_
      refine XO.gcallT rfl rfl Try.call14 rfl (fun g132 => .n) rfl (fun g132 p132 => awake06) ?_
      refine XO.q (Q.and rfl (fun hp => lzv hp rfl)) ?_
      refine XO.q (Q.assign rfl) ?_
      refine XO.done ?_
      refine XK.rt [] Try.func3 Try.results3 (.t rfl .n) ?_
      exact ⟨by simp, rfl⟩
    · intro mtr6
      dsimp only [List.cons_append, List.nil_append] at mtr6
      refine XK.drawn [0, 1, 3, 5, 6, 7, 8, 10, 12] [b10] [] (.q 0 (.q 1 (.q 3 (.br 2 true (.br 4 true (.q 5 (.q 6 (.q 7 (.q 8 (.br 9 true (.q 10 (.br 11 true (.q 12 .done) .stop)) .stop))))) (.br 9 true (.br 4 true (.q 5 (.q 6 (.q 7 (.q 8 (.q 10 (.br 11 true (.q 12 .done) .stop)))))) .stop) .stop)) (.br 9 true (.br 2 true (.br 4 true (.q 5 (.q 6 (.q 7 (.q 8 (.q 10 (.br 11 true (.q 12 .done) .stop)))))) .stop) .stop) .stop))))) Try.mixed rfl (by kernel_rfl) ?_
      refine XT.q rfl rfl (Q.ldA [_, _] rfl rfl rfl) ?_
      refine XT.q rfl rfl (Q.move rfl) ?_
      refine XT.q rfl rfl (Q.move rfl) ?_
      refine XT.call rfl rfl Try.call19 rfl rfl rfl (spans06 l vl hl (by have := near.nl; omega)) (fun v53 s53 R53 => ?_) ?_
      · skip
        obtain ⟨k53, rfl, O53⟩ := R53
        dsimp only [List.cons_append, List.nil_append]
        refine ⟨inferInstance, ?_⟩
        refine XT.call rfl rfl Try.call18 rfl rfl rfl (RWorst_spec b vb2 vg2 kb2 kg2 l v53 k53 most hm1) (fun v55 s55 R55 => ?_) ?_
        · skip
          obtain ⟨vwb, veb, vnb, Kb, keb, knb, rfl, rfl, owb, AWb, OEb, ONb⟩ := R55
          dsimp only [List.cons_append, List.nil_append]
          refine ⟨inferInstance, ?_⟩
          rw [← er] at AWb OEb ONb ⊢
          refine XT.q rfl rfl (Q.move rfl) ?_
          refine XT.q rfl rfl (Q.extract rfl rfl) ?_
          refine XT.q rfl rfl (Q.extract rfl rfl) ?_
          refine XT.q rfl rfl (Q.extract rfl rfl) ?_
          refine XT.alloc rfl rfl (fun b16 => ⟨inferInstance, ?_⟩) XT.stop
          refine XT.q rfl rfl (Q.assign rfl) ?_
          refine XT.st rfl rfl rfl rfl rfl ⟨inferInstance, ?_⟩ XT.stop
          refine XT.q rfl rfl (Q.assign rfl) ?_
          refine XT.done ?_
          exact mtr6 ((b16, vwb, veb, vnb, Kb, keb, knb)) _ _ ⟨owb, AWb, OEb, ONb⟩ (.c rfl (.c rfl (.c rfl (.base 12 rfl rfl)))) inferInstance
        · skip
          refine XT.alloc rfl rfl (fun b16 => ⟨inferInstance, ?_⟩) XT.stop
          refine XT.call rfl rfl Try.call18 rfl rfl rfl (RWorst_spec b vb2 vg2 kb2 kg2 l v53 k53 most hm1) (fun v55 s55 R55 => ?_) XT.stop
          obtain ⟨vwb, veb, vnb, Kb, keb, knb, rfl, rfl, owb, AWb, OEb, ONb⟩ := R55
          dsimp only [List.cons_append, List.nil_append]
          refine ⟨inferInstance, ?_⟩
          rw [← er] at AWb OEb ONb ⊢
          refine XT.q rfl rfl (Q.move rfl) ?_
          refine XT.q rfl rfl (Q.extract rfl rfl) ?_
          refine XT.q rfl rfl (Q.extract rfl rfl) ?_
          refine XT.q rfl rfl (Q.extract rfl rfl) ?_
          refine XT.q rfl rfl (Q.assign rfl) ?_
          refine XT.st rfl rfl rfl rfl rfl ⟨inferInstance, ?_⟩ XT.stop
          refine XT.q rfl rfl (Q.assign rfl) ?_
          refine XT.done ?_
          exact mtr6 ((b16, vwb, veb, vnb, Kb, keb, knb)) _ _ ⟨owb, AWb, OEb, ONb⟩ (.c rfl (.c rfl (.c rfl (.base 12 rfl rfl)))) inferInstance
      · skip
        refine XT.alloc rfl rfl (fun b16 => ⟨inferInstance, ?_⟩) XT.stop
        refine XT.call rfl rfl Try.call19 rfl rfl rfl (spans06 l vl hl (by have := near.nl; omega)) (fun v53 s53 R53 => ?_) XT.stop
        obtain ⟨k53, rfl, O53⟩ := R53
        dsimp only [List.cons_append, List.nil_append]
        refine ⟨inferInstance, ?_⟩
        refine XT.call rfl rfl Try.call18 rfl rfl rfl (RWorst_spec b vb2 vg2 kb2 kg2 l v53 k53 most hm1) (fun v55 s55 R55 => ?_) XT.stop
        obtain ⟨vwb, veb, vnb, Kb, keb, knb, rfl, rfl, owb, AWb, OEb, ONb⟩ := R55
        dsimp only [List.cons_append, List.nil_append]
        refine ⟨inferInstance, ?_⟩
        rw [← er] at AWb OEb ONb ⊢
        refine XT.q rfl rfl (Q.move rfl) ?_
        refine XT.q rfl rfl (Q.extract rfl rfl) ?_
        refine XT.q rfl rfl (Q.extract rfl rfl) ?_
        refine XT.q rfl rfl (Q.extract rfl rfl) ?_
        refine XT.q rfl rfl (Q.assign rfl) ?_
        refine XT.st rfl rfl rfl rfl rfl ⟨inferInstance, ?_⟩ XT.stop
        refine XT.q rfl rfl (Q.assign rfl) ?_
        refine XT.done ?_
        exact mtr6 ((b16, vwb, veb, vnb, Kb, keb, knb)) _ _ ⟨owb, AWb, OEb, ONb⟩ (.c rfl (.c rfl (.c rfl (.base 12 rfl rfl)))) inferInstance
end Go.X

set_option linter.unusedSimpArgs false
set_option linter.unusedVariables false
set_option maxRecDepth 20000
namespace Go.X
open Go.Proofs
set_option maxHeartbeats 2000000 in
set_option synthInstance.maxSize 1000 in
theorem runs06 (b : BBank) (vb vg : Value) (hb hg : PHeap) [ib : Arr vb encBat 4 hb b.bats] [ig : Arr vg encGen 5 hg b.gens] (l : List BSpan) (vl : Value) (hl : PHeap) [il : Arr vl encSpan 2 hl l] (fs : List Int) (vf : Value) (hf : PHeap) [jf : Arr vf encI 1 hf fs] (nb : b.bats.length ≤ 1000) (ng : b.gens.length ≤ 1000) (nl : l.length ≤ 1000) : Spec Try.prog 46 #[.agg #[vb, vg], vl, vf] [] [hb, hg, hl, hf] (fun v hs => v = .bool true ∧ hs = []) := by
  refine Spec.intro (fn := Try.f46) (N := 99) Try.func46 rfl Try.ntmps46 rfl fun B => ?_
  refine XK.seq ?_
  refine XK.region rfl ?_
  refine XO.box rfl fun b3 => ?_
  refine XO.q (Q.assign rfl) ?_
  refine XO.done ?_
  refine XK.seq ?_
  refine XK.region rfl ?_
  refine XO.q (Q.ldA [_, _] rfl rfl rfl) ?_
  refine XO.call Try.call15 rfl rfl rfl (copied06 b vb vg hb hg (by omega) (by omega)) fun v23 s23 R23 => ?_
  obtain ⟨vb1, vg1, vb2, vg2, kb1, kg1, kb2, kg2, rfl, rfl, OB1, OG1, OB2, OG2⟩ := R23
  dsimp only [List.cons_append, List.nil_append]
  refine XO.q (Q.move rfl) ?_
  refine XO.q (Q.extract rfl rfl) ?_
  refine XO.q (Q.extract rfl rfl) ?_
  refine XO.alloc fun b7 => ?_
  refine XO.alloc fun b8 => ?_
  refine XO.st rfl rfl rfl ?_
  refine XO.st rfl rfl rfl ?_
  refine XO.done ?_
  refine XK.seq ?_
  refine XK.region rfl ?_
  refine XO.q (Q.ldA [_, _] rfl rfl rfl) ?_
  refine XO.q (Q.move rfl) ?_
  refine XO.q (Q.move rfl) ?_
  refine XO.call Try.call30 rfl rfl rfl (Run_spec b vb1 vg1 kb1 kg1 l vl hl fs vf hf) fun v30 s30 R30 => ?_
  obtain ⟨ve, vn, ke, kn, rfl, rfl, OE, ON⟩ := R30
  dsimp only [List.cons_append, List.nil_append]
  obtain ⟨r, er⟩ : ∃ r, r = (if readyP b l fs = 0 then runP b (powers l) fs else ⟨0, [], [], 0⟩) := ⟨_, rfl⟩
  rw [← er] at OE ON ⊢
  refine XO.q (Q.move rfl) ?_
  refine XO.q (Q.extract rfl rfl) ?_
  refine XO.q (Q.extract rfl rfl) ?_
  refine XO.alloc fun b9 => ?_
  refine XO.st rfl rfl rfl ?_
  refine XO.q (Q.assign rfl) ?_
  refine XO.done ?_
  refine XK.seq ?_
  refine XK.meet (X := Nat × Value × Value × PHeap × PHeap) [11, 12, 33, 34, 35, 36, 37, 38, 39, 40] (fun ⟨b11, veb, vnb, keb, knb⟩ => [(11, some (ptr b11 0)), (12, some (.int .i64 (readyP b l fs)))]) (fun ⟨b11, veb, vnb, keb, knb⟩ => [blk b11 [.int .i64 r.dark, veb, vnb, .int .i64 r.served] 45, keb, knb]) (fun ⟨b11, veb, vnb, keb, knb⟩ => OArr veb encI 1 3 keb r.energy ∧ OArr vnb encI 1 3 knb r.burnt) [] ?_ ?_
  · rintro ⟨b11, veb, vnb, keb, knb⟩ ⟨OEb, ONb⟩
    dsimp only [List.cons_append, List.nil_append]
    refine XK.seq ?_
    refine XK.region rfl ?_
    refine XO.q (Q.ldA [_, _] rfl rfl rfl) ?_
    refine XO.q (Q.move rfl) ?_
    refine XO.q (Q.move rfl) ?_
    refine XO.call Try.call36 rfl rfl rfl (Trace_spec b vb1 vg1 kb1 kg1 l vl hl fs vf hf) fun v45 s45 R45 => ?_
    obtain ⟨vo, ho, us, K, rfl, rfl, OO, RR⟩ := R45
    dsimp only [List.cons_append, List.nil_append]
    obtain ⟨tt, et⟩ : ∃ t, t = (if readyP b l fs = 0 then traceP b (powers l) fs else []) := ⟨_, rfl⟩
    rw [← et] at RR
    refine XO.q (Q.move rfl) ?_
    refine XO.q (Q.extract rfl rfl) ?_
    refine XO.q (Q.extract rfl rfl) ?_
    refine XO.q (Q.assign rfl) ?_
    refine XO.q (Q.assign rfl) ?_
    refine XO.done ?_
    refine XK.seq ?_
    refine XK.drawn [0, 1, 3, 5, 6, 7, 8, 9] [b8] [] (.q 0 (.q 1 (.q 3 (.br 2 true (.br 4 true (.q 5 (.q 6 (.q 7 (.q 8 (.q 9 .done))))) .stop) .stop)))) Try.mixed rfl (by kernel_rfl) ?_
    refine XT.q rfl rfl (Q.ldA [_, _] rfl rfl rfl) ?_
    refine XT.q rfl rfl (Q.move rfl) ?_
    refine XT.q rfl rfl (Q.move rfl) ?_
    refine XT.call rfl rfl Try.call19 rfl rfl rfl (spans06 l vl hl (by omega)) (fun v51 s51 R51 => ?_) XT.stop
    obtain ⟨k51, rfl, O51⟩ := R51
    dsimp only [List.cons_append, List.nil_append]
    refine ⟨inferInstance, ?_⟩
    refine XT.call rfl rfl Try.call43 rfl rfl rfl (RTrace_spec b vb2 vg2 kb2 kg2 l v51 k51 fs vf hf) (fun v53 s53 R53 => ?_) XT.stop
    obtain ⟨vob, hob, usb, Kb, rfl, rfl, OOb, RRb⟩ := R53
    dsimp only [List.cons_append, List.nil_append]
    refine ⟨inferInstance, ?_⟩
    rw [← et] at RRb
    refine XT.q rfl rfl (Q.move rfl) ?_
    refine XT.q rfl rfl (Q.extract rfl rfl) ?_
    refine XT.q rfl rfl (Q.extract rfl rfl) ?_
    refine XT.q rfl rfl (Q.assign rfl) ?_
    refine XT.q rfl rfl (Q.assign rfl) ?_
    refine XT.done ?_
    refine XK.seq ?_
    refine XK.region rfl ?_
    refine XO.q (Q.ldA [_, _] rfl rfl rfl) ?_
    refine XO.q (Q.move rfl) ?_
    refine XO.q (Q.move rfl) ?_
    refine XO.call Try.call32 rfl rfl rfl (Lack_spec b vb1 vg1 kb1 kg1 l vl hl fs vf hf) fun v60 s60 R60 => ?_
    obtain ⟨rfl, rfl⟩ := R60
    dsimp only [List.cons_append, List.nil_append]
    refine XO.q (Q.move rfl) ?_
    refine XO.q (Q.extract rfl rfl) ?_
    refine XO.q (Q.extract rfl rfl) ?_
    refine XO.q (Q.assign rfl) ?_
    refine XO.q (Q.assign rfl) ?_
    refine XO.done ?_
    refine XK.seq ?_
    refine XK.drawn [0, 1, 3, 5, 6, 7, 8, 9] [b8] [] (.q 0 (.q 1 (.q 3 (.br 2 true (.br 4 true (.q 5 (.q 6 (.q 7 (.q 8 (.q 9 .done))))) .stop) .stop)))) Try.mixed rfl (by kernel_rfl) ?_
    refine XT.q rfl rfl (Q.ldA [_, _] rfl rfl rfl) ?_
    refine XT.q rfl rfl (Q.move rfl) ?_
    refine XT.q rfl rfl (Q.move rfl) ?_
    refine XT.call rfl rfl Try.call19 rfl rfl rfl (spans06 l vl hl (by omega)) (fun v66 s66 R66 => ?_) XT.stop
    obtain ⟨k66, rfl, O66⟩ := R66
    dsimp only [List.cons_append, List.nil_append]
    refine ⟨inferInstance, ?_⟩
    refine XT.call rfl rfl Try.call44 rfl rfl rfl (RLack_spec b vb2 vg2 kb2 kg2 l v66 k66 fs vf hf) (fun v68 s68 R68 => ?_) XT.stop
    obtain ⟨rfl, rfl⟩ := R68
    dsimp only [List.cons_append, List.nil_append]
    refine ⟨inferInstance, ?_⟩
    refine XT.q rfl rfl (Q.move rfl) ?_
    refine XT.q rfl rfl (Q.extract rfl rfl) ?_
    refine XT.q rfl rfl (Q.extract rfl rfl) ?_
    refine XT.q rfl rfl (Q.assign rfl) ?_
    refine XT.q rfl rfl (Q.assign rfl) ?_
    refine XT.done ?_
    refine XK.seq ?_
    refine XK.region rfl ?_
    refine XO.q (Q.ldA [_, _, _, _] rfl rfl rfl) ?_
    refine XO.q (Q.ldA [_, _, _, _] rfl rfl rfl) ?_
    refine XO.call Try.call25 rfl rfl rfl (alike06 r r ve vn veb vnb ke kn keb knb) fun v73 s73 R73 => ?_
    obtain ⟨rfl, rfl⟩ := R73
    dsimp only [List.cons_append, List.nil_append]
    refine XO.q (Q.move rfl) ?_
    refine XO.q (Quiet.guardT rfl rfl fun g75 p75 => Q.move rfl) ?_
    refine XO.q (Quiet.guardT rfl rfl fun g76 p76 => Q.move rfl) ?_
    refine XO.q (Quiet.guardT rfl rfl fun g77 p77 => Q.eql (lzv g77 rfl) (lzv g77 rfl)) ?_
    refine XO.q (Q.and rfl (fun hp => lzv hp rfl)) ?_
    refine XO.q (Q.move rfl) ?_
    refine XO.q (Quiet.guardT rfl rfl fun g80 p80 => Q.move rfl) ?_
    refine XO.q (Quiet.guardT rfl rfl fun g81 p81 => Q.move rfl) ?_
    refine XO.gcallT rfl rfl Try.call45 rfl (fun g82 => .c (lzv g82 rfl) (.c (lzv g82 rfl) .n)) rfl (fun g82 p82 => sameLists vo vob ho hob K Kb us usb tt tt RR RRb) ?_
    refine XO.q (Q.and rfl (fun hp => lzv hp rfl)) ?_
    refine XO.q (Q.move rfl) ?_
    refine XO.q (Quiet.guardT rfl rfl fun g85 p85 => Q.move rfl) ?_
    refine XO.q (Quiet.guardT rfl rfl fun g86 p86 => Q.move rfl) ?_
    refine XO.q (Quiet.guardT rfl rfl fun g87 p87 => Q.eql (lzv g87 rfl) (lzv g87 rfl)) ?_
    refine XO.q (Q.and rfl (fun hp => lzv hp rfl)) ?_
    refine XO.q (Q.move rfl) ?_
    refine XO.q (Quiet.guardT rfl rfl fun g90 p90 => Q.move rfl) ?_
    refine XO.q (Quiet.guardT rfl rfl fun g91 p91 => Q.move rfl) ?_
    refine XO.q (Quiet.guardT rfl rfl fun g92 p92 => Q.eql (lzv g92 rfl) (lzv g92 rfl)) ?_
    refine XO.q (Q.and rfl (fun hp => lzv hp rfl)) ?_
    refine XO.q (Q.move rfl) ?_
    refine XO.q (Quiet.guardT rfl rfl fun g95 p95 => Q.move rfl) ?_
    refine XO.q (Quiet.guardT rfl rfl fun g96 p96 => Q.move rfl) ?_
    refine XO.q (Quiet.guardT rfl rfl fun g97 p97 => Q.eql (lzv g97 rfl) (lzv g97 rfl)) ?_
    refine XO.q (Q.and rfl (fun hp => lzv hp rfl)) ?_
    refine XO.q (Q.assign rfl) ?_
    refine XO.done ?_
    refine XK.rt [] Try.func46 Try.results46 (.t rfl .n) ?_
    exact ⟨by simp, rfl⟩
  · intro mtr3
    dsimp only [List.cons_append, List.nil_append] at mtr3
    refine XK.drawn [0, 1, 3, 5, 6, 7, 10] [b8] [] (.q 0 (.q 1 (.q 3 (.br 2 true (.br 4 true (.q 5 (.q 6 (.q 7 (.br 8 true (.br 9 true (.q 10 .done) .stop) .stop)))) (.br 8 true (.br 4 true (.q 5 (.q 6 (.q 7 (.br 9 true (.q 10 .done) .stop)))) .stop) .stop)) (.br 8 true (.br 2 true (.br 4 true (.q 5 (.q 6 (.q 7 (.br 9 true (.q 10 .done) .stop)))) .stop) .stop) .stop))))) Try.mixed rfl (by kernel_rfl) ?_
    refine XT.q rfl rfl (Q.ldA [_, _] rfl rfl rfl) ?_
    refine XT.q rfl rfl (Q.move rfl) ?_
    refine XT.q rfl rfl (Q.move rfl) ?_
    refine XT.call rfl rfl Try.call19 rfl rfl rfl (spans06 l vl hl (by omega)) (fun v36 s36 R36 => ?_) ?_
    · skip
      obtain ⟨k36, rfl, O36⟩ := R36
      dsimp only [List.cons_append, List.nil_append]
      refine ⟨inferInstance, ?_⟩
      refine XT.call rfl rfl Try.call42 rfl rfl rfl (RRun_spec b vb2 vg2 kb2 kg2 l v36 k36 fs vf hf) (fun v38 s38 R38 => ?_) ?_
      · skip
        obtain ⟨veb, vnb, keb, knb, rfl, rfl, OEb, ONb⟩ := R38
        dsimp only [List.cons_append, List.nil_append]
        refine ⟨inferInstance, ?_⟩
        rw [← er] at OEb ONb ⊢
        refine XT.q rfl rfl (Q.move rfl) ?_
        refine XT.q rfl rfl (Q.extract rfl rfl) ?_
        refine XT.q rfl rfl (Q.extract rfl rfl) ?_
        refine XT.alloc rfl rfl (fun b11 => ⟨inferInstance, ?_⟩) XT.stop
        refine XT.st rfl rfl rfl rfl rfl ⟨inferInstance, ?_⟩ XT.stop
        refine XT.q rfl rfl (Q.assign rfl) ?_
        refine XT.done ?_
        exact mtr3 ((b11, veb, vnb, keb, knb)) _ _ ⟨OEb, ONb⟩ (.c rfl (.c rfl (.base 10 rfl rfl))) inferInstance
      · skip
        refine XT.alloc rfl rfl (fun b11 => ⟨inferInstance, ?_⟩) XT.stop
        refine XT.call rfl rfl Try.call42 rfl rfl rfl (RRun_spec b vb2 vg2 kb2 kg2 l v36 k36 fs vf hf) (fun v38 s38 R38 => ?_) XT.stop
        obtain ⟨veb, vnb, keb, knb, rfl, rfl, OEb, ONb⟩ := R38
        dsimp only [List.cons_append, List.nil_append]
        refine ⟨inferInstance, ?_⟩
        rw [← er] at OEb ONb ⊢
        refine XT.q rfl rfl (Q.move rfl) ?_
        refine XT.q rfl rfl (Q.extract rfl rfl) ?_
        refine XT.q rfl rfl (Q.extract rfl rfl) ?_
        refine XT.st rfl rfl rfl rfl rfl ⟨inferInstance, ?_⟩ XT.stop
        refine XT.q rfl rfl (Q.assign rfl) ?_
        refine XT.done ?_
        exact mtr3 ((b11, veb, vnb, keb, knb)) _ _ ⟨OEb, ONb⟩ (.c rfl (.c rfl (.base 10 rfl rfl))) inferInstance
    · skip
      refine XT.alloc rfl rfl (fun b11 => ⟨inferInstance, ?_⟩) XT.stop
      refine XT.call rfl rfl Try.call19 rfl rfl rfl (spans06 l vl hl (by omega)) (fun v36 s36 R36 => ?_) XT.stop
      obtain ⟨k36, rfl, O36⟩ := R36
      dsimp only [List.cons_append, List.nil_append]
      refine ⟨inferInstance, ?_⟩
      refine XT.call rfl rfl Try.call42 rfl rfl rfl (RRun_spec b vb2 vg2 kb2 kg2 l v36 k36 fs vf hf) (fun v38 s38 R38 => ?_) XT.stop
      obtain ⟨veb, vnb, keb, knb, rfl, rfl, OEb, ONb⟩ := R38
      dsimp only [List.cons_append, List.nil_append]
      refine ⟨inferInstance, ?_⟩
      rw [← er] at OEb ONb ⊢
      refine XT.q rfl rfl (Q.move rfl) ?_
      refine XT.q rfl rfl (Q.extract rfl rfl) ?_
      refine XT.q rfl rfl (Q.extract rfl rfl) ?_
      refine XT.st rfl rfl rfl rfl rfl ⟨inferInstance, ?_⟩ XT.stop
      refine XT.q rfl rfl (Q.assign rfl) ?_
      refine XT.done ?_
      exact mtr3 ((b11, veb, vnb, keb, knb)) _ _ ⟨OEb, ONb⟩ (.c rfl (.c rfl (.base 10 rfl rfl))) inferInstance
theorem mul64_one (n : Nat) (h : n ≤ 4294967295) : Spec Try.prog 95 #[.int .u64 1, .int .u64 (n : Nat)] [] [] (fun v hs => v = .tuple #[.int .u64 0, .int .u64 (n : Nat)] ∧ hs = []) := by
  have h1 : (1 : Int) % 4294967296 = 1 := by decide
  have h2 : (1 : Int) / 4294967296 = 0 := by decide
  have h3 : (n : Int) % 4294967296 = n := by omega
  have h4 : (n : Int) / 4294967296 = 0 := by omega
  have h5 : (0 : Int) % 4294967296 = 0 := by decide
  have h6 : (0 : Int) / 4294967296 = 0 := by decide
  refine Spec.intro (fn := Try.f95) (N := 51) Try.func95 rfl Try.ntmps95 rfl fun B => ?_
  refine XK.seq ?_
  refine XK.region rfl ?_
  refine XO.q (Q.assign rfl) ?_
  refine XO.q (Q.assign rfl) ?_
  refine XO.done ?_
  refine XK.seq ?_
  refine XK.region rfl ?_
  refine XO.q (Q.move rfl) ?_
  refine XO.q (Q.mask32 rfl rfl (by omega)) ?_
  rw [h1]
  refine XO.q (Q.assign rfl) ?_
  refine XO.done ?_
  refine XK.seq ?_
  refine XK.region rfl ?_
  refine XO.q (Q.move rfl) ?_
  refine XO.q (Q.shr32 rfl rfl) ?_
  rw [h2]
  refine XO.q (Q.assign rfl) ?_
  refine XO.done ?_
  refine XK.seq ?_
  refine XK.region rfl ?_
  refine XO.q (Q.move rfl) ?_
  refine XO.q (Q.mask32 rfl rfl (by omega)) ?_
  rw [h3]
  refine XO.q (Q.assign rfl) ?_
  refine XO.done ?_
  refine XK.seq ?_
  refine XK.region rfl ?_
  refine XO.q (Q.move rfl) ?_
  refine XO.q (Q.shr32 rfl rfl) ?_
  rw [h4]
  refine XO.q (Q.assign rfl) ?_
  refine XO.done ?_
  refine XK.seq ?_
  refine XK.region rfl ?_
  refine XO.q (Q.move rfl) ?_
  refine XO.q (Q.move rfl) ?_
  refine XO.q (Q.mulU rfl rfl (by omega)) ?_
  rw [Int.one_mul]
  refine XO.q (Q.assign rfl) ?_
  refine XO.done ?_
  refine XK.seq ?_
  refine XK.region rfl ?_
  refine XO.q (Q.move rfl) ?_
  refine XO.q (Q.move rfl) ?_
  refine XO.q (Q.mulU rfl rfl (by omega)) ?_
  rw [Int.zero_mul]
  refine XO.q (Q.move rfl) ?_
  refine XO.q (Q.shr32 rfl rfl) ?_
  rw [h4]
  refine XO.q (Q.addU rfl rfl (by omega)) ?_
  rw [Int.add_zero]
  refine XO.q (Q.assign rfl) ?_
  refine XO.done ?_
  refine XK.seq ?_
  refine XK.region rfl ?_
  refine XO.q (Q.move rfl) ?_
  refine XO.q (Q.mask32 rfl rfl (by omega)) ?_
  rw [h5]
  refine XO.q (Q.assign rfl) ?_
  refine XO.done ?_
  refine XK.seq ?_
  refine XK.region rfl ?_
  refine XO.q (Q.move rfl) ?_
  refine XO.q (Q.shr32 rfl rfl) ?_
  rw [h6]
  refine XO.q (Q.assign rfl) ?_
  refine XO.done ?_
  refine XK.seq ?_
  refine XK.region rfl ?_
  refine XO.q (Q.move rfl) ?_
  refine XO.q (Q.move rfl) ?_
  refine XO.q (Q.move rfl) ?_
  refine XO.q (Q.mulU rfl rfl (by omega)) ?_
  rw [Int.mul_zero]
  refine XO.q (Q.addU rfl rfl (by omega)) ?_
  rw [Int.add_zero]
  refine XO.q (Q.assign rfl) ?_
  refine XO.done ?_
  refine XK.seq ?_
  refine XK.region rfl ?_
  refine XO.q (Q.move rfl) ?_
  refine XO.q (Q.move rfl) ?_
  refine XO.q (Q.mulU rfl rfl (by omega)) ?_
  rw [Int.mul_zero]
  refine XO.q (Q.move rfl) ?_
  refine XO.q (Q.addU rfl rfl (by omega)) ?_
  rw [Int.add_zero]
  refine XO.q (Q.move rfl) ?_
  refine XO.q (Q.shr32 rfl rfl) ?_
  rw [h6]
  refine XO.q (Q.addU rfl rfl (by omega)) ?_
  rw [Int.add_zero]
  refine XO.q (Q.assign rfl) ?_
  refine XO.done ?_
  refine XK.seq ?_
  refine XK.region rfl ?_
  refine XO.q (Q.move rfl) ?_
  refine XO.q (Q.move rfl) ?_
  refine XO.q (Q.mulU rfl rfl (by omega)) ?_
  rw [Int.one_mul]
  refine XO.q (Q.assign rfl) ?_
  refine XO.done ?_
  refine XK.rt [] Try.func95 Try.results95 (.t rfl (.t rfl .n)) ?_
  exact ⟨rfl, rfl⟩
theorem mul_one' (n : Nat) (h : n ≤ 4294967295) : Spec Try.prog 76 #[.int .u64 1, .int .u64 (n : Nat)] [] [] (fun v hs => v = .tuple #[.int .u64 0, .int .u64 (n : Nat)] ∧ hs = []) := by
  refine Spec.intro (fn := Try.f76) (N := 30) Try.func76 rfl Try.ntmps76 rfl fun B => ?_
  refine XK.seq ?_
  refine XK.region rfl ?_
  refine XO.q (Q.assign rfl) ?_
  refine XO.q (Q.assign rfl) ?_
  refine XO.done ?_
  refine XK.seq ?_
  refine XK.if rfl (fun c0 => ?_) (fun c0 => ?_)
  · have _t0 := True.intro
    exact c0.elim
  · have _t0 := True.intro
    refine XK.skip ?_
    refine XK.seq ?_
    refine XK.region rfl ?_
    refine XO.q (Q.move rfl) ?_
    refine XO.q (Q.move rfl) ?_
    refine XO.call Try.call95 rfl rfl rfl (mul64_one n h) fun v25 s25 R25 => ?_
    obtain ⟨rfl, rfl⟩ := R25
    dsimp only [List.cons_append, List.nil_append]
    refine XO.q (Q.move rfl) ?_
    refine XO.q (Q.extract rfl rfl) ?_
    refine XO.q (Q.extract rfl rfl) ?_
    refine XO.q (Q.assign rfl) ?_
    refine XO.q (Q.assign rfl) ?_
    refine XO.done ?_
    refine XK.seq ?_
    refine XK.region rfl ?_
    refine XO.q (Q.move rfl) ?_
    refine XO.q (Q.move rfl) ?_
    refine XO.q (Q.assign rfl) ?_
    refine XO.q (Q.assign rfl) ?_
    refine XO.done ?_
    refine XK.rt [] Try.func76 Try.results76 (.t rfl (.t rfl .n)) ?_
    exact ⟨rfl, rfl⟩
theorem repeatS (v : Value) (h : PHeap) (x : BSpan) [s : Arr v encSpan 2 h [x]] (n : Nat) (hn : n ≤ 4294967295) : Spec Try.prog 48 #[v, .int .i64 (n : Nat)] [] [h] (fun v' hs => ∃ h', hs = [h'] ∧ OArr v' encSpan 2 38 h' (List.replicate n x)) := by
  have hw1 : IntKind.u64.wrap ((([x] : List BSpan).length : Nat) : Int) = 1 := rfl
  have hw2 : IntKind.u64.wrap ((n : Nat) : Int) = n := wrapu64 (by omega)
  have hw3 : IntKind.i64.wrap ((n : Nat) : Int) = n := wrap64_of ⟨by omega, by omega⟩
  have hl1 : ([x] : List BSpan).length = 1 := rfl
  refine Spec.intro (fn := Try.f48) (N := 48) Try.func48 rfl Try.ntmps48 rfl fun B => ?_
  refine XK.seq ?_
  refine XK.region rfl ?_
  refine XO.q (Q.assign rfl) ?_
  refine XO.done ?_
  refine XK.seq ?_
  refine XK.seq ?_
  refine XK.region rfl ?_
  refine XO.q (Q.move rfl) ?_
  refine XO.q (Q.lss rfl rfl) ?_
  refine XO.done ?_
  refine XK.if rfl (fun c0 => ?_) (fun c0 => ?_)
  · have _t0 := True.intro
    exact absurd c0 (by omega)
  · have _t0 := True.intro
    refine XK.skip ?_
    refine XK.seq ?_
    refine XK.region rfl ?_
    refine XO.q (Q.move rfl) ?_
    refine XO.len rfl fun l14 => ?_
    refine XO.q (Q.conv rfl) ?_
    rw [hw1]
    refine XO.q (Q.move rfl) ?_
    refine XO.q (Q.conv rfl) ?_
    rw [hw2]
    refine XO.call Try.call76 rfl rfl rfl (mul_one' n hn) fun v18 s18 R18 => ?_
    obtain ⟨rfl, rfl⟩ := R18
    dsimp only [List.cons_append, List.nil_append]
    refine XO.q (Q.move rfl) ?_
    refine XO.q (Q.extract rfl rfl) ?_
    refine XO.q (Q.extract rfl rfl) ?_
    refine XO.q (Q.assign rfl) ?_
    refine XO.q (Q.assign rfl) ?_
    refine XO.done ?_
    refine XK.seq ?_
    refine XK.seq ?_
    refine XK.region rfl ?_
    refine XO.q (Q.move rfl) ?_
    refine XO.q (Q.gtr rfl rfl) ?_
    refine XO.q (Q.move rfl) ?_
    refine XO.q (Quiet.guardF rfl rfl fun g24 p24 => Q.move rfl) ?_
    refine XO.q (Quiet.guardF rfl rfl fun g25 p25 => Q.gtr (lzv g25 rfl) rfl) ?_
    refine XO.q (Q.or rfl (fun hp => lzv hp rfl)) ?_
    refine XO.done ?_
    refine XK.if rfl (fun c1 => ?_) (fun c1 => ?_)
    · have _t1 := True.intro
      exact absurd c1 (by omega)
    · have _t1 := True.intro
      refine XK.skip ?_
      refine XK.seq ?_
      refine XK.region rfl ?_
      refine XO.q (Q.move rfl) ?_
      refine XO.q (Q.conv rfl) ?_
      rw [hw3]
      refine XO.make encSpan ((⟨0, 0⟩ : BSpan)) rfl rfl rfl (by omega) (by omega) (fun _ => rfl) rfl rfl rfl (by dsimp only [encSpan]; infer_instance) fun v30 h30 O30 => ?_
      refine XO.q (Q.assign rfl) ?_
      refine XO.done ?_
      refine XK.seq ?_
      refine XK.region rfl ?_
      refine XO.q (Q.move rfl) ?_
      refine XO.q (Q.move rfl) ?_
      refine XO.copy rfl (tailv_zero (s := O30)).symm rfl (by omega) fun h33 O33 => ?_
      rw [show min ([x] : List BSpan).length ((List.replicate n (⟨0, 0⟩ : BSpan)).length - 0) = min 1 n by simp]
      refine XO.q (Q.assign rfl) ?_
      refine XO.done ?_
      refine XK.seq ?_
      refine XK.block ?_
      refine XK.while (X := Nat × PHeap) [8, 34, 35, 36, 37, 38, 39, 40, 41, 42, 43, 44, 45, 46] (fun ⟨m, hM⟩ => [(8, some (.int .i64 (m : Nat)))]) (fun ⟨m, hM⟩ => [hM]) (fun ⟨m, hM⟩ => m ≤ n ∧ (0 < n → 0 < m) ∧ OArr v30 encSpan 2 38 hM (List.replicate m x ++ List.replicate (n - m) (⟨0, 0⟩ : BSpan))) (fun ⟨m, hM⟩ => n - m) (min 1 n, h33) [h33] rfl ⟨by omega, by omega, by have := O33; rw [repeat_first] at this; exact this⟩ (.c rfl (.base 0 rfl rfl)) ?_
      rintro ⟨m, hM⟩ ⟨hm, hm0, OM⟩ ih0
      dsimp only [List.cons_append, List.nil_append] at ih0 ⊢
      have hlm : (List.replicate m x ++ List.replicate (n - m) (⟨0, 0⟩ : BSpan)).length = n := by rw [List.length_append, List.length_replicate, List.length_replicate]; omega
      have hmm : min (((List.replicate m x ++ List.replicate (n - m) (⟨0, 0⟩ : BSpan)).drop 0).take (m - 0)).length ((List.replicate m x ++ List.replicate (n - m) (⟨0, 0⟩ : BSpan)).length - m) = min m (n - m) := by
        rw [hlm, List.drop_zero, List.length_take, hlm]; omega
      refine XK.seq ?_
      refine XK.seq ?_
      refine XK.region rfl ?_
      refine XO.q (Q.move rfl) ?_
      refine XO.q (Q.move rfl) ?_
      refine XO.len rfl fun l36 => ?_
      refine XO.q (Q.lss rfl rfl) ?_
      refine XO.done ?_
      refine XK.if rfl (fun c2 => ?_) (fun c2 => ?_)
      · have _t2 := True.intro
        refine XK.skip ?_
        refine XK.block ?_
        refine XK.drawn [0, 1, 2, 3, 4, 5, 6, 8, 9] [] [] (.q 0 (.q 1 (.q 2 (.q 3 (.q 4 (.q 5 (.q 6 (.br 7 true (.q 8 (.q 9 .done)) .stop)))))))) Try.mixed rfl (by kernel_rfl) ?_
        refine XT.q rfl rfl (Q.move rfl) ?_
        refine XT.q rfl rfl (Q.move rfl) ?_
        refine XT.q rfl rfl (Q.move rfl) ?_
        refine XT.q rfl rfl (Q.tail (i := m) rfl (.s rfl (by omega)) (by omega)) ?_
        refine XT.q rfl rfl (Q.move rfl) ?_
        refine XT.q rfl rfl (Q.move rfl) ?_
        refine XT.q rfl rfl (Q.cut (i := 0) (j := m) rfl .n (.s rfl (by omega)) (by omega) (by omega)) ?_
        have A44 := Arr.cut (v := v30) (i := 0) (j := m) inferInstance (by omega) (by omega)
        refine XT.copy rfl rfl rfl rfl rfl (by omega) (fun h45 O45 => ⟨inferInstance, ?_⟩) XT.stop
        rw [hmm]
        refine XT.q rfl rfl (Q.add rfl rfl ⟨by omega, by omega⟩) ?_
        rw [show ((m : Int) + ((min m (n - m) : Nat) : Int)) = ((m + min m (n - m) : Nat) : Int) from rfl]
        refine XT.q rfl rfl (Q.assign rfl) ?_
        refine XT.done ?_
        refine XK.inBlock ?_
        exact ih0 (m + min m (n - m), h45) _ _ ⟨by omega, by omega, by have := O45; rw [repeat_step x (⟨0, 0⟩ : BSpan) hm] at this; exact this⟩ (by first | omega | (dsimp only; omega)) (.c rfl (.base 29 rfl rfl)) inferInstance
      · have _t2 := True.intro
        refine XK.exit rfl ?_
        refine XK.seq ?_
        refine XK.region rfl ?_
        refine XO.q (Q.move rfl) ?_
        refine XO.q (Q.assign rfl) ?_
        refine XO.done ?_
        refine XK.rt [hM] Try.func48 Try.results48 (.t rfl .n) ?_
        have hmn : m = n := by omega
        subst hmn
        exact ⟨hM, rfl, by simpa using OM⟩
theorem repeatG (v : Value) (h : PHeap) (x : BGen) [s : Arr v encGen 5 h [x]] (n : Nat) (hn : n ≤ 4294967295) : Spec Try.prog 49 #[v, .int .i64 (n : Nat)] [] [h] (fun v' hs => ∃ h', hs = [h'] ∧ OArr v' encGen 5 85 h' (List.replicate n x)) := by
  have hw1 : IntKind.u64.wrap ((([x] : List BGen).length : Nat) : Int) = 1 := rfl
  have hw2 : IntKind.u64.wrap ((n : Nat) : Int) = n := wrapu64 (by omega)
  have hw3 : IntKind.i64.wrap ((n : Nat) : Int) = n := wrap64_of ⟨by omega, by omega⟩
  have hl1 : ([x] : List BGen).length = 1 := rfl
  refine Spec.intro (fn := Try.f49) (N := 48) Try.func49 rfl Try.ntmps49 rfl fun B => ?_
  refine XK.seq ?_
  refine XK.region rfl ?_
  refine XO.q (Q.assign rfl) ?_
  refine XO.done ?_
  refine XK.seq ?_
  refine XK.seq ?_
  refine XK.region rfl ?_
  refine XO.q (Q.move rfl) ?_
  refine XO.q (Q.lss rfl rfl) ?_
  refine XO.done ?_
  refine XK.if rfl (fun c0 => ?_) (fun c0 => ?_)
  · have _t0 := True.intro
    exact absurd c0 (by omega)
  · have _t0 := True.intro
    refine XK.skip ?_
    refine XK.seq ?_
    refine XK.region rfl ?_
    refine XO.q (Q.move rfl) ?_
    refine XO.len rfl fun l14 => ?_
    refine XO.q (Q.conv rfl) ?_
    rw [hw1]
    refine XO.q (Q.move rfl) ?_
    refine XO.q (Q.conv rfl) ?_
    rw [hw2]
    refine XO.call Try.call76 rfl rfl rfl (mul_one' n hn) fun v18 s18 R18 => ?_
    obtain ⟨rfl, rfl⟩ := R18
    dsimp only [List.cons_append, List.nil_append]
    refine XO.q (Q.move rfl) ?_
    refine XO.q (Q.extract rfl rfl) ?_
    refine XO.q (Q.extract rfl rfl) ?_
    refine XO.q (Q.assign rfl) ?_
    refine XO.q (Q.assign rfl) ?_
    refine XO.done ?_
    refine XK.seq ?_
    refine XK.seq ?_
    refine XK.region rfl ?_
    refine XO.q (Q.move rfl) ?_
    refine XO.q (Q.gtr rfl rfl) ?_
    refine XO.q (Q.move rfl) ?_
    refine XO.q (Quiet.guardF rfl rfl fun g24 p24 => Q.move rfl) ?_
    refine XO.q (Quiet.guardF rfl rfl fun g25 p25 => Q.gtr (lzv g25 rfl) rfl) ?_
    refine XO.q (Q.or rfl (fun hp => lzv hp rfl)) ?_
    refine XO.done ?_
    refine XK.if rfl (fun c1 => ?_) (fun c1 => ?_)
    · have _t1 := True.intro
      exact absurd c1 (by omega)
    · have _t1 := True.intro
      refine XK.skip ?_
      refine XK.seq ?_
      refine XK.region rfl ?_
      refine XO.q (Q.move rfl) ?_
      refine XO.q (Q.conv rfl) ?_
      rw [hw3]
      refine XO.make encGen ((⟨0, 0, 0, 0, 0⟩ : BGen)) rfl rfl rfl (by omega) (by omega) (fun _ => rfl) rfl rfl rfl (by dsimp only [encGen]; infer_instance) fun v30 h30 O30 => ?_
      refine XO.q (Q.assign rfl) ?_
      refine XO.done ?_
      refine XK.seq ?_
      refine XK.region rfl ?_
      refine XO.q (Q.move rfl) ?_
      refine XO.q (Q.move rfl) ?_
      refine XO.copy rfl (tailv_zero (s := O30)).symm rfl (by omega) fun h33 O33 => ?_
      rw [show min ([x] : List BGen).length ((List.replicate n (⟨0, 0, 0, 0, 0⟩ : BGen)).length - 0) = min 1 n by simp]
      refine XO.q (Q.assign rfl) ?_
      refine XO.done ?_
      refine XK.seq ?_
      refine XK.block ?_
      refine XK.while (X := Nat × PHeap) [8, 34, 35, 36, 37, 38, 39, 40, 41, 42, 43, 44, 45, 46] (fun ⟨m, hM⟩ => [(8, some (.int .i64 (m : Nat)))]) (fun ⟨m, hM⟩ => [hM]) (fun ⟨m, hM⟩ => m ≤ n ∧ (0 < n → 0 < m) ∧ OArr v30 encGen 5 85 hM (List.replicate m x ++ List.replicate (n - m) (⟨0, 0, 0, 0, 0⟩ : BGen))) (fun ⟨m, hM⟩ => n - m) (min 1 n, h33) [h33] rfl ⟨by omega, by omega, by have := O33; rw [repeat_first] at this; exact this⟩ (.c rfl (.base 0 rfl rfl)) ?_
      rintro ⟨m, hM⟩ ⟨hm, hm0, OM⟩ ih0
      dsimp only [List.cons_append, List.nil_append] at ih0 ⊢
      have hlm : (List.replicate m x ++ List.replicate (n - m) (⟨0, 0, 0, 0, 0⟩ : BGen)).length = n := by rw [List.length_append, List.length_replicate, List.length_replicate]; omega
      have hmm : min (((List.replicate m x ++ List.replicate (n - m) (⟨0, 0, 0, 0, 0⟩ : BGen)).drop 0).take (m - 0)).length ((List.replicate m x ++ List.replicate (n - m) (⟨0, 0, 0, 0, 0⟩ : BGen)).length - m) = min m (n - m) := by
        rw [hlm, List.drop_zero, List.length_take, hlm]; omega
      refine XK.seq ?_
      refine XK.seq ?_
      refine XK.region rfl ?_
      refine XO.q (Q.move rfl) ?_
      refine XO.q (Q.move rfl) ?_
      refine XO.len rfl fun l36 => ?_
      refine XO.q (Q.lss rfl rfl) ?_
      refine XO.done ?_
      refine XK.if rfl (fun c2 => ?_) (fun c2 => ?_)
      · have _t2 := True.intro
        refine XK.skip ?_
        refine XK.block ?_
        refine XK.drawn [0, 1, 2, 3, 4, 5, 6, 8, 9] [] [] (.q 0 (.q 1 (.q 2 (.q 3 (.q 4 (.q 5 (.q 6 (.br 7 true (.q 8 (.q 9 .done)) .stop)))))))) Try.mixed rfl (by kernel_rfl) ?_
        refine XT.q rfl rfl (Q.move rfl) ?_
        refine XT.q rfl rfl (Q.move rfl) ?_
        refine XT.q rfl rfl (Q.move rfl) ?_
        refine XT.q rfl rfl (Q.tail (i := m) rfl (.s rfl (by omega)) (by omega)) ?_
        refine XT.q rfl rfl (Q.move rfl) ?_
        refine XT.q rfl rfl (Q.move rfl) ?_
        refine XT.q rfl rfl (Q.cut (i := 0) (j := m) rfl .n (.s rfl (by omega)) (by omega) (by omega)) ?_
        have A44 := Arr.cut (v := v30) (i := 0) (j := m) inferInstance (by omega) (by omega)
        refine XT.copy rfl rfl rfl rfl rfl (by omega) (fun h45 O45 => ⟨inferInstance, ?_⟩) XT.stop
        rw [hmm]
        refine XT.q rfl rfl (Q.add rfl rfl ⟨by omega, by omega⟩) ?_
        rw [show ((m : Int) + ((min m (n - m) : Nat) : Int)) = ((m + min m (n - m) : Nat) : Int) from rfl]
        refine XT.q rfl rfl (Q.assign rfl) ?_
        refine XT.done ?_
        refine XK.inBlock ?_
        exact ih0 (m + min m (n - m), h45) _ _ ⟨by omega, by omega, by have := O45; rw [repeat_step x (⟨0, 0, 0, 0, 0⟩ : BGen) hm] at this; exact this⟩ (by first | omega | (dsimp only; omega)) (.c rfl (.base 29 rfl rfl)) inferInstance
      · have _t2 := True.intro
        refine XK.exit rfl ?_
        refine XK.seq ?_
        refine XK.region rfl ?_
        refine XO.q (Q.move rfl) ?_
        refine XO.q (Q.assign rfl) ?_
        refine XO.done ?_
        refine XK.rt [hM] Try.func49 Try.results49 (.t rfl .n) ?_
        have hmn : m = n := by omega
        subst hmn
        exact ⟨hM, rfl, by simpa using OM⟩
end Go.X
