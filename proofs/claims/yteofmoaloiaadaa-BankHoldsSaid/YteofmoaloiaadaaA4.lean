/- A part of the proof: a small program logic, plain laws and contracts of functions, each proved by a walk through its operations. No condition but those that stand in each theorem. -/
import Derived.Test.YteofmoaloiaadaaA3
set_option linter.unusedSimpArgs false
set_option linter.unusedVariables false
set_option maxRecDepth 20000
namespace Go.X
open Go.Proofs
theorem lack_spec (b : BBank) (vb vg : Value) (hb hg : PHeap) [ib : Arr vb encBat 4 hb b.bats] [ig : Arr vg encGen 5 hg b.gens] (l : List BSpan) (vl : Value) (hl : PHeap) [il : Arr vl encSpan 2 hl l] (fs : List Int) (vf : Value) (hf : PHeap) [jf : Arr vf encI 1 hf fs] (ok : BOk b) (lk : LOk l) (fk : FOk b fs) : Spec Try.prog 58 #[.agg #[vb, vg], vl, vf] [] [hb, hg, hl, hf] (fun v hs => v = .int .i64 (lackP b (powers l) fs) ∧ hs = []) := by
  have ln := lk.n
  have hpw := pwOk lk
  have pk := playOk ok fk
  have b0 := begun_ok ok fk
  have hst : ∀ i, i ≤ (powers l).length → StOk (startsP b fs) b.bats.length i (stateP b (powers l) fs false i) := fun i hi => playTo_ok pk hpw b0 false i hi
  have hla := fun i hi => lackAt_ok (i := i) pk hpw b0 false hi
  have hn2 := hpw.n
  have n8 := ok.nb
  have hlk := fun i hi => lackTo_ok ok fk hpw i hi
  refine Spec.intro (fn := Try.f58) (N := 25) Try.func58 rfl Try.ntmps58 rfl fun B => ?_
  refine XK.seq ?_
  refine XK.region rfl ?_
  refine XO.box rfl fun b3 => ?_
  refine XO.q (Q.assign rfl) ?_
  refine XO.done ?_
  refine XK.seq ?_
  refine XK.region rfl ?_
  refine XO.q (Q.ldA [_, _] rfl rfl rfl) ?_
  refine XO.q (Q.move rfl) ?_
  refine XO.call Try.call85 rfl rfl rfl (begin_spec b vb vg hb hg fs vf hf ok fk) fun v13 s13 R13 => ?_
  obtain ⟨p, vs, vc, vn, ks, kc, kn, rfl, rfl, OS, OC, ON⟩ := R13
  dsimp only [List.cons_append, List.nil_append]
  refine XO.alloc fun b7 => ?_
  refine XO.st rfl rfl rfl ?_
  refine XO.done ?_
  refine XK.seq ?_
  refine XK.region rfl ?_
  refine XO.alloc fun b8 => ?_
  refine XO.st rfl rfl rfl ?_
  refine XO.done ?_
  refine XK.seq ?_
  refine XK.seq ?_
  refine XK.region rfl ?_
  refine XO.q (Q.move rfl) ?_
  refine XO.call Try.call86 rfl rfl rfl (seconds_spec vl) fun v15 s15 R15 => ?_
  obtain ⟨bs, rfl, rfl⟩ := R15
  dsimp only [List.cons_append, List.nil_append]
  refine XO.done ?_
  refine XK.block ?_
  refine XK.range (X := Nat × Value × PHeap × PHeap) (ps := [16, 17]) (secItems (powers l)) (fun ⟨m, vc1, kc1, kn1⟩ => [blk p [vb, vg, vs, vc1, vn, .int .i64 (stateP b (powers l) fs false (m)).served] 153, kc1, kn1, blk b8 [.int .i64 (lackTo b (powers l) fs m)] 3]) (fun i ⟨m, vc1, kc1, kn1⟩ => m = i ∧ OArr vc1 encCell 5 163 kc1 (stateP b (powers l) fs false (m)).cells ∧ OArr vn encI 1 3 kn1 (stateP b (powers l) fs false (m)).burnt) (fun _ _ => False) (0, vc, kc, kn) [blk p [vb, vg, vs, vc, vn, .int .i64 0] 153, kc, kn, blk b8 [.int .i64 0] 3] rfl ⟨rfl, OC, ON⟩ rfl (seconds1 bs l vl hl lk) rfl (secItems_two) ?_ ?_ (fun _ _ hJ => hJ.elim)
  · rintro lq rec B' i ⟨m, vc1, kc1, kn1⟩ hi ⟨hmi, C1, N1⟩
    dsimp only [List.cons_append, List.nil_append]
    rw [secItems_len] at hi
    subst hmi
    have lm := hlk m (by omega)
    have la := hla m (by omega)
    rw [secItems_at hi]
    dsimp only [pars]
    refine XK.seq ?_
    refine XK.region rfl ?_
    refine XO.q (Q.assign rfl) ?_
    refine XO.done ?_
    refine XK.region rfl ?_
    refine XO.q (Q.assign rfl) ?_
    refine XO.done ?_
    refine XK.beginRound ?_
    refine XK.block ?_
    refine XK.drawn [1, 2, 3, 5] [b7] [] (.q 1 (.q 2 (.q 3 (.br 0 true (.br 4 true (.q 5 (.br 6 false .done .stop)) .stop) (.br 4 true (.br 0 true (.q 5 (.br 6 false .done .stop)) .stop) .stop))))) Try.mixed rfl (by kernel_rfl) ?_
    refine XT.q rfl rfl (Q.ld rfl rfl) ?_
    refine XT.q rfl rfl (Q.move rfl) ?_
    refine XT.q rfl rfl (Q.move rfl) ?_
    refine XT.qs rfl rfl (Q.ld rfl rfl) ⟨inferInstance, ?_⟩ ?_
    · skip
      refine XT.call rfl rfl Try.call87 rfl rfl rfl (second_spec p vb vg vs vc1 vn b.gens (startsP b fs) pk hg ks (stateP b (powers l) fs false (m)) kc1 kn1 (hst m (by omega)) (by omega) ((m : Nat) : Int) (by omega) (by omega) ((powers l).getD m default) (hpw.p m (by omega)).1 (hpw.p m (by omega)).2 false) (fun v22 s22 R22 => ?_) XT.stop
      obtain ⟨vc2, kc2, kn2, rfl, rfl, C2, N2⟩ := R22
      dsimp only [List.cons_append, List.nil_append]
      refine ⟨inferInstance, ?_⟩
      have es : (secondP b.gens (startsP b fs) ((m : Nat) : Int) ((powers l).getD m default) false (stateP b (powers l) fs false (m))).2 = (stateP b (powers l) fs false (m + 1)) := rfl
      rw [es] at C2 N2 ⊢
      have el : (secondP b.gens (startsP b fs) ((m : Nat) : Int) ((powers l).getD m default) false (stateP b (powers l) fs false (m))).1 = lackAt b.gens (startsP b fs) false (powers l) (begun b) m := rfl
      rw [el]
      refine XT.q rfl rfl (Q.add rfl rfl ⟨by omega, by omega⟩) ?_
      refine XT.st rfl rfl rfl rfl rfl ⟨inferInstance, ?_⟩ XT.stop
      refine XT.done ?_
      refine XK.inBlock ?_
      exact XK.leave (j := none) [blk p [vb, vg, vs, vc2, vn, .int .i64 (stateP b (powers l) fs false (m + 1)).served] 153, kc2, kn2, blk b8 [.int .i64 (lackTo b (powers l) fs m + lackAt b.gens (startsP b fs) false (powers l) (begun b) m)] 3] trivial ⟨(m + 1, vc2, kc2, kn2), ⟨rfl, C2, N2⟩, rfl⟩
    · skip
      refine XT.call rfl rfl Try.call87 rfl rfl rfl (second_spec p vb vg vs vc1 vn b.gens (startsP b fs) pk hg ks (stateP b (powers l) fs false (m)) kc1 kn1 (hst m (by omega)) (by omega) ((m : Nat) : Int) (by omega) (by omega) ((powers l).getD m default) (hpw.p m (by omega)).1 (hpw.p m (by omega)).2 false) (fun v22 s22 R22 => ?_) XT.stop
      obtain ⟨vc2, kc2, kn2, rfl, rfl, C2, N2⟩ := R22
      dsimp only [List.cons_append, List.nil_append]
      refine ⟨inferInstance, ?_⟩
      have es : (secondP b.gens (startsP b fs) ((m : Nat) : Int) ((powers l).getD m default) false (stateP b (powers l) fs false (m))).2 = (stateP b (powers l) fs false (m + 1)) := rfl
      rw [es] at C2 N2 ⊢
      have el : (secondP b.gens (startsP b fs) ((m : Nat) : Int) ((powers l).getD m default) false (stateP b (powers l) fs false (m))).1 = lackAt b.gens (startsP b fs) false (powers l) (begun b) m := rfl
      rw [el]
      refine XT.qs rfl rfl (Q.ld rfl rfl) ⟨inferInstance, ?_⟩ XT.stop
      refine XT.q rfl rfl (Q.add rfl rfl ⟨by omega, by omega⟩) ?_
      refine XT.st rfl rfl rfl rfl rfl ⟨inferInstance, ?_⟩ XT.stop
      refine XT.done ?_
      refine XK.inBlock ?_
      exact XK.leave (j := none) [blk p [vb, vg, vs, vc2, vn, .int .i64 (stateP b (powers l) fs false (m + 1)).served] 153, kc2, kn2, blk b8 [.int .i64 (lackTo b (powers l) fs m + lackAt b.gens (startsP b fs) false (powers l) (begun b) m)] 3] trivial ⟨(m + 1, vc2, kc2, kn2), ⟨rfl, C2, N2⟩, rfl⟩
  · rintro ⟨m, vc1, kc1, kn1⟩ ⟨hmi, C1, N1⟩
    dsimp only [List.cons_append, List.nil_append]
    rw [secItems_len] at hmi
    subst hmi
    refine XK.inBlock ?_
    refine XK.seq ?_
    refine XK.region rfl ?_
    refine XO.q (Q.ld rfl rfl) ?_
    refine XO.q (Q.assign rfl) ?_
    refine XO.done ?_
    refine XK.rt [] Try.func58 Try.results58 (.t rfl .n) ?_
    exact ⟨rfl, rfl⟩
theorem Run_spec (b : BBank) (vb vg : Value) (hb hg : PHeap) [ib : Arr vb encBat 4 hb b.bats] [ig : Arr vg encGen 5 hg b.gens] (l : List BSpan) (vl : Value) (hl : PHeap) [il : Arr vl encSpan 2 hl l] (fs : List Int) (vf : Value) (hf : PHeap) [jf : Arr vf encI 1 hf fs] : Spec Try.prog 30 #[.agg #[vb, vg], vl, vf] [] [hb, hg, hl, hf] (fun v hs => ∃ ve vn ke kn, v = .tuple #[resV (if readyP b l fs = 0 then runP b (powers l) fs else ⟨0, [], [], 0⟩) ve vn, .int .i64 (readyP b l fs)] ∧ hs = [ke, kn] ∧ OArr ve encI 1 3 ke (if readyP b l fs = 0 then runP b (powers l) fs else ⟨0, [], [], 0⟩).energy ∧ OArr vn encI 1 3 kn (if readyP b l fs = 0 then runP b (powers l) fs else ⟨0, [], [], 0⟩).burnt) := by
  refine Spec.intro (fn := Try.f30) (N := 21) Try.func30 rfl Try.ntmps30 rfl fun B => ?_
  refine XK.seq ?_
  refine XK.region rfl ?_
  refine XO.box rfl fun b3 => ?_
  refine XO.alloc fun b6 => ?_
  refine XO.q (Q.assign rfl) ?_
  refine XO.done ?_
  refine XK.seq ?_
  refine XK.seq ?_
  refine XK.region rfl ?_
  refine XO.q (Q.ldA [_, _] rfl rfl rfl) ?_
  refine XO.q (Q.move rfl) ?_
  refine XO.q (Q.move rfl) ?_
  refine XO.call Try.call63 rfl rfl rfl (ready_spec b vb vg hb hg l vl hl fs vf hf) fun v12 s12 R12 => ?_
  obtain ⟨rfl, rfl⟩ := R12
  dsimp only [List.cons_append, List.nil_append]
  refine XO.q (Q.assign rfl) ?_
  refine XO.done ?_
  refine XK.seq ?_
  refine XK.region rfl ?_
  refine XO.q (Q.move rfl) ?_
  refine XO.q (Q.neq rfl rfl) ?_
  refine XO.done ?_
  refine XK.if rfl (fun c0 => ?_) (fun c0 => ?_)
  · have _t0 := True.intro
    refine XK.seq ?_
    refine XK.region rfl ?_
    refine XO.q (Q.build [_, _, _, _] (.n _)) ?_
    refine XO.q (Q.move rfl) ?_
    refine XO.st rfl rfl rfl ?_
    refine XO.q (Q.assign rfl) ?_
    refine XO.done ?_
    refine XK.rt [emp, emp] Try.func30 Try.results30 (.cell [_, _, _, _] rfl rfl rfl (.t rfl .n)) ?_
    rw [if_neg c0]
    exact ⟨.slice none 0 0, .slice none 0 0, emp, emp, rfl, rfl, OArr.nil (fun _ => rfl), OArr.nil (fun _ => rfl)⟩
  · have _t0 := True.intro
    refine XK.skip ?_
    refine XK.seq ?_
    refine XK.region rfl ?_
    refine XO.q (Q.ldA [_, _] rfl rfl rfl) ?_
    refine XO.q (Q.move rfl) ?_
    refine XO.q (Q.move rfl) ?_
    have rk := readyP_iff.1 (Decidable.of_not_not c0)
    refine XO.call Try.call64 rfl rfl rfl (run_nil b vb vg hb hg l vl hl fs vf hf rk.ob rk.ol rk.of) fun v20 s20 R20 => ?_
    obtain ⟨ve, vn, ke, kn, rfl, rfl, OE, OB⟩ := R20
    dsimp only [List.cons_append, List.nil_append]
    refine XO.st rfl rfl rfl ?_
    refine XO.q (Q.assign rfl) ?_
    refine XO.done ?_
    refine XK.rt [ke, kn] Try.func30 Try.results30 (.cell [_, _, _, _] rfl rfl rfl (.t rfl .n)) ?_
    have e0 := Decidable.of_not_not c0
    rw [if_pos e0, e0]
    exact ⟨ve, vn, ke, kn, rfl, rfl, OE, OB⟩
theorem Trace_spec (b : BBank) (vb vg : Value) (hb hg : PHeap) [ib : Arr vb encBat 4 hb b.bats] [ig : Arr vg encGen 5 hg b.gens] (l : List BSpan) (vl : Value) (hl : PHeap) [il : Arr vl encSpan 2 hl l] (fs : List Int) (vf : Value) (hf : PHeap) [jf : Arr vf encI 1 hf fs] : Spec Try.prog 36 #[.agg #[vb, vg], vl, vf] [] [hb, hg, hl, hf] (fun v hs => ∃ vo ho us K, v = .tuple #[vo, .int .i64 (readyP b l fs)] ∧ hs = [ho, K] ∧ OArr vo encV 1 39 ho us ∧ RowsK us K (if readyP b l fs = 0 then traceP b (powers l) fs else [])) := by
  refine Spec.intro (fn := Try.f36) (N := 23) Try.func36 rfl Try.ntmps36 rfl fun B => ?_
  refine XK.seq ?_
  refine XK.region rfl ?_
  refine XO.box rfl fun b3 => ?_
  refine XO.q (Q.assign rfl) ?_
  refine XO.q (Q.assign rfl) ?_
  refine XO.done ?_
  refine XK.seq ?_
  refine XK.seq ?_
  refine XK.region rfl ?_
  refine XO.q (Q.ldA [_, _] rfl rfl rfl) ?_
  refine XO.q (Q.move rfl) ?_
  refine XO.q (Q.move rfl) ?_
  refine XO.call Try.call63 rfl rfl rfl (ready_spec b vb vg hb hg l vl hl fs vf hf) fun v13 s13 R13 => ?_
  obtain ⟨rfl, rfl⟩ := R13
  dsimp only [List.cons_append, List.nil_append]
  refine XO.q (Q.assign rfl) ?_
  refine XO.done ?_
  refine XK.seq ?_
  refine XK.region rfl ?_
  refine XO.q (Q.move rfl) ?_
  refine XO.q (Q.neq rfl rfl) ?_
  refine XO.done ?_
  refine XK.if rfl (fun c0 => ?_) (fun c0 => ?_)
  · have _t0 := True.intro
    refine XK.seq ?_
    refine XK.region rfl ?_
    refine XO.q (Q.move rfl) ?_
    refine XO.q (Q.assign rfl) ?_
    refine XO.q (Q.assign rfl) ?_
    refine XO.done ?_
    refine XK.rt [emp, emp] Try.func36 Try.results36 (.t rfl (.t rfl .n)) ?_
    rw [if_neg c0]
    exact ⟨.slice none 0 0, emp, [], emp, rfl, rfl, OArr.nil (fun _ => rfl), RowsK.nil⟩
  · have _t0 := True.intro
    refine XK.skip ?_
    refine XK.seq ?_
    refine XK.region rfl ?_
    refine XO.alloc fun b9 => ?_
    refine XO.done ?_
    refine XK.seq ?_
    refine XK.region rfl ?_
    refine XO.q (Q.ldA [_, _] rfl rfl rfl) ?_
    refine XO.q (Q.move rfl) ?_
    refine XO.q (Q.move rfl) ?_
    refine XO.q (Q.func (fun _ he => rfl) (fun _ he => evs_rel he rfl)) ?_
    have rk := readyP_iff.1 (Decidable.of_not_not c0)
    refine XO.call Try.call64 rfl rfl rfl (run_trace b vb vg hb hg l vl hl fs vf hf rk.ob rk.ol rk.of b9) fun v21 s21 R21 => ?_
    obtain ⟨ve, vn, ke, kn, vo, ho, us, K, rfl, rfl, OE, OB, OO, RR⟩ := R21
    dsimp only [List.cons_append, List.nil_append]
    refine XO.done ?_
    refine XK.seq ?_
    refine XK.region rfl ?_
    refine XO.q (Q.ld rfl rfl) ?_
    refine XO.q (Q.assign rfl) ?_
    refine XO.q (Q.assign rfl) ?_
    refine XO.done ?_
    refine XK.rt [ho, K] Try.func36 Try.results36 (.t rfl (.t rfl .n)) ?_
    have e0 := Decidable.of_not_not c0
    rw [if_pos e0, e0]
    exact ⟨vo, ho, us, K, rfl, rfl, OO, RR⟩
theorem Lack_spec (b : BBank) (vb vg : Value) (hb hg : PHeap) [ib : Arr vb encBat 4 hb b.bats] [ig : Arr vg encGen 5 hg b.gens] (l : List BSpan) (vl : Value) (hl : PHeap) [il : Arr vl encSpan 2 hl l] (fs : List Int) (vf : Value) (hf : PHeap) [jf : Arr vf encI 1 hf fs] : Spec Try.prog 32 #[.agg #[vb, vg], vl, vf] [] [hb, hg, hl, hf] (fun v hs => v = .tuple #[.int .i64 (if readyP b l fs = 0 then lackP b (powers l) fs else 0), .int .i64 (readyP b l fs)] ∧ hs = []) := by
  refine Spec.intro (fn := Try.f32) (N := 20) Try.func32 rfl Try.ntmps32 rfl fun B => ?_
  refine XK.seq ?_
  refine XK.region rfl ?_
  refine XO.box rfl fun b3 => ?_
  refine XO.q (Q.assign rfl) ?_
  refine XO.q (Q.assign rfl) ?_
  refine XO.done ?_
  refine XK.seq ?_
  refine XK.seq ?_
  refine XK.region rfl ?_
  refine XO.q (Q.ldA [_, _] rfl rfl rfl) ?_
  refine XO.q (Q.move rfl) ?_
  refine XO.q (Q.move rfl) ?_
  refine XO.call Try.call63 rfl rfl rfl (ready_spec b vb vg hb hg l vl hl fs vf hf) fun v12 s12 R12 => ?_
  obtain ⟨rfl, rfl⟩ := R12
  dsimp only [List.cons_append, List.nil_append]
  refine XO.q (Q.assign rfl) ?_
  refine XO.done ?_
  refine XK.seq ?_
  refine XK.region rfl ?_
  refine XO.q (Q.move rfl) ?_
  refine XO.q (Q.neq rfl rfl) ?_
  refine XO.done ?_
  refine XK.if rfl (fun c0 => ?_) (fun c0 => ?_)
  · have _t0 := True.intro
    refine XK.seq ?_
    refine XK.region rfl ?_
    refine XO.q (Q.move rfl) ?_
    refine XO.q (Q.assign rfl) ?_
    refine XO.q (Q.assign rfl) ?_
    refine XO.done ?_
    refine XK.rt [] Try.func32 Try.results32 (.t rfl (.t rfl .n)) ?_
    exact ⟨by rw [if_neg c0], rfl⟩
  · have _t0 := True.intro
    refine XK.skip ?_
    refine XK.seq ?_
    refine XK.region rfl ?_
    refine XO.q (Q.ldA [_, _] rfl rfl rfl) ?_
    refine XO.q (Q.move rfl) ?_
    refine XO.q (Q.move rfl) ?_
    have rk := readyP_iff.1 (Decidable.of_not_not c0)
    refine XO.call Try.call58 rfl rfl rfl (lack_spec b vb vg hb hg l vl hl fs vf hf rk.ob rk.ol rk.of) fun v19 s19 R19 => ?_
    obtain ⟨rfl, rfl⟩ := R19
    dsimp only [List.cons_append, List.nil_append]
    refine XO.q (Q.assign rfl) ?_
    refine XO.q (Q.assign rfl) ?_
    refine XO.done ?_
    refine XK.rt [] Try.func32 Try.results32 (.t rfl (.t rfl .n)) ?_
    have e0 := Decidable.of_not_not c0
    exact ⟨by rw [if_pos e0, e0], rfl⟩
theorem search_spec (b : BBank) (vb vg : Value) (hb hg : PHeap) [ib : Arr vb encBat 4 hb b.bats] [ig : Arr vg encGen 5 hg b.gens] (l : List BSpan) (vl : Value) (hl : PHeap) [il : Arr vl encSpan 2 hl l] (most : Int) : Spec Try.prog 52 #[.agg #[vb, vg], vl, .int .i64 most] [] [hb, hg, hl] (fun v hs => v = .int .i64 (searchP b l most) ∧ hs = []) := by
  have lg := ig.le
  refine Spec.intro (fn := Try.f52) (N := 44) Try.func52 rfl Try.ntmps52 rfl fun B => ?_
  refine XK.seq ?_
  refine XK.region rfl ?_
  refine XO.box rfl fun b3 => ?_
  refine XO.q (Q.assign rfl) ?_
  refine XO.done ?_
  refine XK.seq ?_
  refine XK.seq ?_
  refine XK.region rfl ?_
  refine XO.q (Q.ldA [_, _] rfl rfl rfl) ?_
  refine XO.call Try.call38 rfl rfl rfl (Check_spec b vb vg hb hg) fun v13 s13 R13 => ?_
  obtain ⟨rfl, rfl⟩ := R13
  dsimp only [List.cons_append, List.nil_append]
  refine XO.q (Q.assign rfl) ?_
  refine XO.done ?_
  refine XK.seq ?_
  refine XK.region rfl ?_
  refine XO.q (Q.move rfl) ?_
  refine XO.q (Q.neq rfl rfl) ?_
  refine XO.done ?_
  refine XK.if rfl (fun c0 => ?_) (fun c0 => ?_)
  · have _t0 := True.intro
    refine XK.seq ?_
    refine XK.region rfl ?_
    refine XO.q (Q.move rfl) ?_
    refine XO.q (Q.assign rfl) ?_
    refine XO.done ?_
    refine XK.rt [] Try.func52 Try.results52 (.t rfl .n) ?_
    exact ⟨by rw [searchP, if_pos c0], rfl⟩
  · have _t0 := True.intro
    have bk := bcheck_iff.1 (Decidable.of_not_not c0)
    refine XK.skip ?_
    refine XK.seq ?_
    refine XK.region rfl ?_
    refine XO.q (Q.move rfl) ?_
    refine XO.call Try.call79 rfl rfl rfl (loaded_spec l vl hl) fun v19 s19 R19 => ?_
    obtain ⟨rfl, rfl⟩ := R19
    dsimp only [List.cons_append, List.nil_append]
    refine XO.q (Q.move rfl) ?_
    refine XO.q (Q.extract rfl rfl) ?_
    refine XO.q (Q.extract rfl rfl) ?_
    refine XO.q (Q.assign rfl) ?_
    refine XO.q (Q.assign rfl) ?_
    refine XO.done ?_
    refine XK.seq ?_
    refine XK.block ?_
    refine XK.seq ?_
    refine XK.region rfl ?_
    refine XO.q (Q.move rfl) ?_
    refine XO.q (Q.neq rfl rfl) ?_
    refine XO.q (Q.assign rfl) ?_
    refine XO.done ?_
    refine XK.if rfl (fun c1 => ?_) (fun c1 => ?_)
    · have _t1 := True.intro
      refine XK.seq ?_
      refine XK.region rfl ?_
      refine XO.q (Q.move rfl) ?_
      refine XO.q (Q.assign rfl) ?_
      refine XO.done ?_
      refine XK.rt [] Try.func52 Try.results52 (.t rfl .n) ?_
      exact ⟨by rw [searchP, if_neg c0, if_pos c1], rfl⟩
    · have _t1 := True.intro
      have lk := loadedP_iff.1 (Decidable.of_not_not c1)
      have lo := loaded_bound lk
      have cb := fun i hi => casesTo_bound bk lo.1 lo.2 i hi
      refine XK.seq ?_
      refine XK.region rfl ?_
      refine XO.q (Q.move rfl) ?_
      refine XO.q (Q.lss rfl rfl) ?_
      refine XO.q (Q.assign rfl) ?_
      refine XO.done ?_
      refine XK.if rfl (fun c2 => ?_) (fun c2 => ?_)
      · have _t2 := True.intro
        refine XK.seq ?_
        refine XK.region rfl ?_
        refine XO.q (Q.assign rfl) ?_
        refine XO.done ?_
        refine XK.rt [] Try.func52 Try.results52 (.t rfl .n) ?_
        exact ⟨by rw [searchP, if_neg c0, if_neg c1, if_pos c2], rfl⟩
      · have _t2 := True.intro
        refine XK.skip ?_
        refine XK.inBlock ?_
        refine XK.seq ?_
        refine XK.seq ?_
        refine XK.region rfl ?_
        refine XO.q (Q.fieldAddr rfl) ?_
        refine XO.q (Q.ld rfl rfl) ?_
        refine XO.len rfl fun l31 => ?_
        refine XO.q (Q.move rfl) ?_
        refine XO.done ?_
        refine XK.block ?_
        refine XK.while (X := Nat) [8, 11, 32, 33, 34, 35, 36, 37, 38, 39, 40, 41] (fun i => [(8, some (.int .i64 (casesTo b (loadedP l).1 i))), (32, some (.int .i64 (i : Nat)))]) (fun i => []) (fun i => i ≤ b.gens.length) (fun i => b.gens.length - i) (0) [] rfl (by omega) (.c rfl (.c rfl (.base 0 rfl rfl))) ?_
        rintro i hi ih0
        dsimp only [List.cons_append, List.nil_append] at ih0 ⊢
        refine XK.seq ?_
        refine XK.region rfl ?_
        refine XO.q (Q.lss rfl rfl) ?_
        refine XO.done ?_
        refine XK.seq ?_
        refine XK.if rfl (fun c3 => ?_) (fun c3 => ?_)
        · have _t3 := True.intro
          have ci := cb i (by omega)
          have gk := bk.gen _ (getD_memB (show i < b.gens.length by omega))
          have g0 := gk.t0
          have g1 := gk.t1
          have mu := mulLe (a := casesTo b (loadedP l).1 i) (b := (b.gens.getD i default).tries + 1) (m := 933120000) (n := 6) ci.1 ci.2 (by omega) (by omega)
          refine XK.skip ?_
          refine XK.seq ?_
          refine XK.block ?_
          refine XK.seq ?_
          refine XK.region rfl ?_
          refine XO.ix rfl rfl (by omega) (by omega) fun i34 => ?_
          refine XO.q (Q.ldEA [_, _, _, _, _] rfl (by first | assumption | omega) rfl rfl) ?_
          refine XO.alloc fun b11 => ?_
          refine XO.st rfl rfl rfl ?_
          refine XO.done ?_
          refine XK.region rfl ?_
          refine XO.q (Q.move rfl) ?_
          refine XO.q (Q.fieldAddr rfl) ?_
          refine XO.q (Q.ld rfl rfl) ?_
          refine XO.q (Q.add rfl rfl ⟨by omega, by omega⟩) ?_
          refine XO.q (Q.mul rfl rfl ⟨by omega, by omega⟩) ?_
          refine XO.q (Q.assign rfl) ?_
          refine XO.done ?_
          refine XK.inBlock ?_
          refine XK.region rfl ?_
          refine XO.q (Q.add rfl rfl ⟨by omega, by omega⟩) ?_
          refine XO.q (Q.move rfl) ?_
          refine XO.done ?_
          exact ih0 (i + 1) _ _ (by omega) (by first | omega | (dsimp only; omega)) (.c rfl (.c rfl (.base 26 rfl rfl))) inferInstance
        · have _t3 := True.intro
          refine XK.exit rfl ?_
          refine XK.seq ?_
          refine XK.seq ?_
          refine XK.region rfl ?_
          refine XO.q (Q.move rfl) ?_
          refine XO.q (Q.gtr rfl rfl) ?_
          refine XO.done ?_
          refine XK.if rfl (fun c4 => ?_) (fun c4 => ?_)
          · have _t4 := True.intro
            refine XK.seq ?_
            refine XK.region rfl ?_
            refine XO.q (Q.assign rfl) ?_
            refine XO.done ?_
            refine XK.rt [] Try.func52 Try.results52 (.t rfl .n) ?_
            have hil : i = b.gens.length := by omega
            subst hil
            exact ⟨by rw [searchP, if_neg c0, if_neg c1, if_neg c2, if_pos c4], rfl⟩
          · have _t4 := True.intro
            refine XK.skip ?_
            refine XK.seq ?_
            refine XK.region rfl ?_
            refine XO.q (Q.assign rfl) ?_
            refine XO.done ?_
            refine XK.rt [] Try.func52 Try.results52 (.t rfl .n) ?_
            have hil : i = b.gens.length := by omega
            subst hil
            exact ⟨by rw [searchP, if_neg c0, if_neg c1, if_neg c2, if_neg c4], rfl⟩
end Go.X

set_option linter.unusedSimpArgs false
set_option linter.unusedVariables false
set_option maxRecDepth 20000
namespace Go.X
open Go.Proofs
/-- What lists yields. -/
def ListY (items : List (List Int)) (i : Nat) (K : PHeap) (vs : List Value) : Prop := ∃ sl, vs = [sl] ∧ Arr sl encI 1 K (items.getD i default)
theorem lists1 (b : BBank) (vb vg : Value) (hb hg : PHeap) [ib : Arr vb encBat 4 hb b.bats] [ig : Arr vg encGen 5 hg b.gens] (ok : BOk b) (most : Int) (hm0 : 0 ≤ most) (hm1 : most ≤ 9223372036854775807) (b1 b2 : Nat) (f : Value) (Hr : List PHeap) (Qc : Nat → PHeap → PHeap → Prop) (Xc : PHeap → PHeap → Prop)
    (mono : ∀ i K K' q, leH K K' → Qc i K q → Qc i K' q)
    (round : ∀ i, i < (listsP b most).length → ∀ K vs q, ListY (listsP b most) i K vs → Qc i K q → VSpec Try.prog f vs [q] (K :: Hr) (fun v hs => ∃ b q', v = .bool b ∧ hs = [q'] ∧ (b = true → Qc (i + 1) K q') ∧ (b = false → Xc K q')))
    (q : PHeap) (hQ : Qc 0 emp q) : Spec Try.prog 84 #[f, ptr b1 0, ptr b2 0] [q, blk b1 [vb, vg] 25, blk b2 [.int .i64 most] 3] (hg :: Hr) (fun _ hs => ∃ q' K, hs = [q', K] ∧ (Qc (listsP b most).length K q' ∨ Xc K q')) := by
  have lg := ig.le
  have n6 := ok.ng
  have hne := listsP_ne ok hm0
  have hfirst := lists_first ok hm0
  have htl : (triesP b).length = b.gens.length := by simp [triesP]
  refine Spec.intro (fn := Try.f84) (N := 56) Try.func84 rfl Try.ntmps84 rfl fun B => ?_
  refine XK.scope ?_
  refine XK.seq ?_
  refine XK.region rfl ?_
  refine XO.q (Q.fieldAddr rfl) ?_
  refine XO.q (Q.ld rfl rfl) ?_
  refine XO.len rfl fun l9 => ?_
  refine XO.make encI (0) rfl rfl rfl (by omega) (by omega) (fun _ => rfl) rfl rfl rfl (by dsimp only [encI]; infer_instance) fun v10 h10 O10 => ?_
  refine XO.q (Q.assign rfl) ?_
  refine XO.done ?_
  refine XK.seq ?_
  refine XK.region rfl ?_
  refine XO.q (Q.ld rfl rfl) ?_
  refine XO.q (Q.assign rfl) ?_
  refine XO.done ?_
  refine XK.seq ?_
  refine XK.label ?_
  refine XK.block ?_
  refine XK.while (X := Nat × PHeap × PHeap × PHeap) [5, 6, 12, 13, 14, 15, 16, 17, 18, 19, 20, 21, 22, 23, 24, 25, 26, 27, 28, 29, 30, 31, 32, 33, 34, 35, 36, 37, 38, 39, 40, 41, 42, 43, 44, 45, 46, 47, 48, 49, 50, 51, 52, 53, 54, 55] (fun ⟨k, kn, K, q1⟩ => [(5, some (.int .i64 (leftK most (listsP b most) k)))]) (fun ⟨k, kn, K, q1⟩ => [q1, kn, K, blk b1 [vb, vg] 25, blk b2 [.int .i64 most] 3]) (fun ⟨k, kn, K, q1⟩ => k < (listsP b most).length ∧ OArr v10 encI 1 3 kn ((listsP b most).getD k default) ∧ Qc k K q1) (fun ⟨k, kn, K, q1⟩ => (listsP b most).length - k) (0, h10, emp, q) [q, h10, emp, blk b1 [vb, vg] 25, blk b2 [.int .i64 most] 3] rfl ⟨hne, by rw [hfirst]; exact O10, hQ⟩ (.c rfl (.base 0 rfl rfl)) ?_
  rintro ⟨k, kn, K, q1⟩ ⟨hk, ON, hq⟩ ih0
  dsimp only [List.cons_append, List.nil_append] at ih0 ⊢
  have fk := (lists_in ok hm0 hk).1
  have fs := (lists_in ok hm0 hk).2
  have fl := fk.n
  rw [leftK_eq ok hm0]
  refine XK.block ?_
  refine XK.seq ?_
  refine XK.seq ?_
  refine XK.region rfl ?_
  refine XO.q (Q.move rfl) ?_
  refine XO.q (Q.move rfl) ?_
  refine XO.call Try.call35 rfl rfl rfl (cloneI v10 kn ((listsP b most).getD k default) (by omega)) fun v14 s14 R14 => ?_
  obtain ⟨k14, rfl, O14⟩ := R14
  dsimp only [List.cons_append, List.nil_append]
  refine XO.cat K k14 fun leK le14 => ?_
  have A14 : Arr v14 encI 1 (cat K k14) ((listsP b most).getD k default) := Arr.le_heap (OArr.arr (s := O14)) le14
  clear O14
  refine XO.vcall rfl rfl (round k hk (cat K k14) _ q1 ⟨v14, rfl, A14⟩ (mono k K (cat K k14) q1 leK hq)) fun v15 s15 R15 => ?_
  obtain ⟨bb, q2, rfl, rfl, hT, hF⟩ := R15
  dsimp only [List.cons_append, List.nil_append]
  refine XO.q (Q.not rfl) ?_
  refine XO.done ?_
  refine XK.if rfl (fun c0 => ?_) (fun c0 => ?_)
  · have _t0 := True.intro
    refine XK.rt [q2, cat K k14] Try.func84 Try.results84 (.n) ?_
    exact ⟨q2, cat K k14, rfl, .inr (hF (by cases bb <;> simp_all))⟩
  · have _t0 := True.intro
    refine XK.skip ?_
    refine XK.seq ?_
    refine XK.seq ?_
    refine XK.region rfl ?_
    refine XO.q (Q.move rfl) ?_
    refine XO.len rfl fun l18 => ?_
    refine XO.q (Q.sub rfl rfl ⟨by omega, by omega⟩) ?_
    refine XO.q (Q.assign rfl) ?_
    refine XO.done ?_
    refine XK.block ?_
    refine XK.while (X := Nat × PHeap) [5, 6, 20, 21, 22, 23, 24, 25, 26, 27, 28, 29, 30, 31, 32, 33, 34, 35, 36, 37, 38, 39, 40, 41, 42, 43, 44, 45, 46, 47, 48, 49, 50, 51, 52, 53, 54, 55] (fun ⟨j, km⟩ => [(5, some (.int .i64 (most - sumL (((listsP b most).getD k default).take j)))), (6, some (.int .i64 ((j : Int) - 1)))]) (fun ⟨j, km⟩ => [km]) (fun ⟨j, km⟩ => j ≤ ((listsP b most).getD k default).length ∧ stepL ((triesP b).drop j) (most - sumL (((listsP b most).getD k default).take j)) (((listsP b most).getD k default).drop j) = none ∧ OArr v10 encI 1 3 km (((listsP b most).getD k default).take (j) ++ List.replicate (((listsP b most).getD k default).length - (j)) 0)) (fun ⟨j, km⟩ => j) (((listsP b most).getD k default).length, kn) [kn] rfl ⟨Nat.le_refl _, step_start (by omega) _, by rw [List.take_length, Nat.sub_self, List.replicate_zero, List.append_nil]; exact ON⟩ (.c rfl (.c rfl (.base 0 rfl rfl))) ?_
    rintro ⟨j, km⟩ ⟨hj, hn, OM⟩ ih1
    dsimp only [List.cons_append, List.nil_append] at ih1 ⊢
    refine XK.seq ?_
    refine XK.seq ?_
    refine XK.region rfl ?_
    refine XO.q (Q.move rfl) ?_
    refine XO.q (Q.geq rfl rfl) ?_
    refine XO.done ?_
    refine XK.if rfl (fun c1 => ?_) (fun c1 => ?_)
    · have _t1 := True.intro
      obtain ⟨i, rfl⟩ : ∃ i, j = i + 1 := ⟨j - 1, by omega⟩
      rw [show ((i + 1 : Nat) : Int) - 1 = (i : Int) by omega]
      have na := now_at (x := ((listsP b most).getD k default)) (i := i) (by omega)
      have nl := now_len (x := ((listsP b most).getD k default)) (i := i + 1) (by omega)
      have xi := fk.f i (by omega)
      have sp := sumL_nonneg (fun i hi => (fk.f i (by omega)).1) (i + 1) hj
      have sq := sumL_nonneg (fun i hi => (fk.f i (by omega)).1) i (by omega)
      have ss := sumL_take_succ (x := ((listsP b most).getD k default)) (i := i) (by omega)
      have tg := (ok.gen _ (getD_memB (show i < b.gens.length by omega))).t1
      refine XK.skip ?_
      refine XK.seq ?_
      refine XK.block ?_
      refine XK.seq ?_
      refine XK.seq ?_
      refine XK.drawn [0, 1, 2, 3, 4, 5, 6, 7, 8, 9, 10, 11, 12, 13, 14] [b1] [km] (.q 0 (.q 1 (.q 2 (.q 3 (.q 4 (.q 5 (.q 6 (.q 7 (.q 8 (.q 9 (.q 10 (.q 11 (.q 12 (.q 13 (.q 14 .done))))))))))))))) Try.mixed rfl (by kernel_rfl) ?_
      refine XT.q rfl rfl (Q.move rfl) ?_
      refine XT.q rfl rfl (Q.move rfl) ?_
      refine XT.ix rfl rfl rfl rfl (by omega) (by omega) fun i26 => ?_
      refine XT.q rfl rfl (Q.ldE rfl (by first | assumption | omega) rfl) ?_
      refine XT.q rfl rfl (Q.fieldAddr rfl) ?_
      refine XT.q rfl rfl (Q.ld rfl rfl) ?_
      refine XT.q rfl rfl (Q.move rfl) ?_
      refine XT.ix rfl rfl rfl rfl (by omega) (by omega) fun i31 => ?_
      refine XT.q rfl rfl (Q.fieldQ rfl (by first | assumption | omega)) ?_
      refine XT.q rfl rfl (Q.ldE rfl (by first | assumption | omega) rfl) ?_
      refine XT.q rfl rfl (Q.lss rfl rfl) ?_
      refine XT.q rfl rfl (Q.move rfl) ?_
      refine XT.q rfl rfl (Quiet.guardT rfl rfl fun g36 p36 => Q.move rfl) ?_
      refine XT.q rfl rfl (Quiet.guardT rfl rfl fun g37 p37 => Q.gtr (lzv g37 rfl) rfl) ?_
      refine XT.q rfl rfl (Q.and rfl (fun hp => lzv hp rfl)) ?_
      refine XT.done ?_
      refine XK.if rfl (fun c2 => ?_) (fun c2 => ?_)
      · have _t2 := True.intro
        obtain ⟨nk, ne, nf⟩ := next_found ok hm0 hk (by omega) hn (by rw [← na]; exact c2.1) (by have := c2.2; omega)
        refine XK.seq ?_
        refine XK.region rfl ?_
        refine XO.q (Q.move rfl) ?_
        refine XO.q (Q.move rfl) ?_
        refine XO.ix rfl rfl (by omega) (by omega) fun i41 => ?_
        refine XO.q (Q.ldE rfl (by first | assumption | omega) rfl) ?_
        refine XO.q (Q.add rfl rfl ⟨by omega, by omega⟩) ?_
        refine XO.ix rfl rfl (by omega) (by omega) fun i44 => ?_
        refine XO.stE _ rfl rfl rfl (by assumption) rfl rfl fun h7_6 O7_6 => ?_
        rw [na, now_set (by omega), ← ne] at O7_6
        refine XO.done ?_
        refine XK.seq ?_
        refine XK.region rfl ?_
        refine XO.q (Q.move rfl) ?_
        refine XO.q (Q.sub rfl rfl ⟨by omega, by omega⟩) ?_
        rw [nf]
        refine XO.q (Q.assign rfl) ?_
        refine XO.done ?_
        refine XK.exit rfl ?_
        exact ih0 (k + 1, h7_6, cat K k14, q2) _ _ ⟨nk, O7_6, hT (by cases bb <;> simp_all)⟩ (by first | omega | (dsimp only; omega)) (.c rfl (.base 122 rfl rfl)) inferInstance
      · have _t2 := True.intro
        obtain ⟨nn, nf⟩ := next_not ok hm0 hk (by omega) hn (fun hh => c2 ⟨by rw [na]; exact hh.1, by have := hh.2; omega⟩)
        refine XK.skip ?_
        refine XK.seq ?_
        refine XK.region rfl ?_
        refine XO.q (Q.move rfl) ?_
        refine XO.q (Q.move rfl) ?_
        refine XO.q (Q.move rfl) ?_
        refine XO.ix rfl rfl (by omega) (by omega) fun i50 => ?_
        refine XO.q (Q.ldE rfl (by first | assumption | omega) rfl) ?_
        refine XO.q (Q.add rfl rfl ⟨by omega, by omega⟩) ?_
        rw [na, nf]
        refine XO.q (Q.assign rfl) ?_
        refine XO.done ?_
        refine XK.region rfl ?_
        refine XO.q (Q.move rfl) ?_
        refine XO.q (Q.move rfl) ?_
        refine XO.ix rfl rfl (by omega) (by omega) fun i55 => ?_
        refine XO.stE _ rfl rfl rfl (by assumption) rfl rfl fun h10_3 O10_3 => ?_
        rw [now_zero (by omega)] at O10_3
        refine XO.done ?_
        refine XK.inBlock ?_
        refine XK.region rfl ?_
        refine XO.q (Q.move rfl) ?_
        refine XO.q (Q.sub rfl rfl ⟨by omega, by omega⟩) ?_
        refine XO.q (Q.assign rfl) ?_
        refine XO.done ?_
        exact ih1 (i, h10_3) _ _ ⟨by dsimp only; omega, nn, O10_3⟩ (by first | omega | (dsimp only; omega)) (.c rfl (.c rfl (.base 70 rfl rfl))) inferInstance
    · have _t1 := True.intro
      have hj0 : j = 0 := by omega
      subst hj0
      have hend := next_end ok hm0 hk hn
      refine XK.exit rfl ?_
      refine XK.rt [q2, cat K k14] Try.func84 Try.results84 (.n) ?_
      exact ⟨q2, cat K k14, rfl, .inl (by rw [← hend]; exact hT (by cases bb <;> simp_all))⟩
theorem lists_spec (b : BBank) (vb vg : Value) (hb hg : PHeap) [ib : Arr vb encBat 4 hb b.bats] [ig : Arr vg encGen 5 hg b.gens] (ok : BOk b) (most : Int) (hm0 : 0 ≤ most) (hm1 : most ≤ 9223372036854775807) : Spec Try.prog 57 #[.agg #[vb, vg], .int .i64 most] [] [] (fun v hs => ∃ k1 k2, hs = [k1, k2] ∧ ItK Try.prog v (listsP b most).length (ListY (listsP b most)) [k1, k2] [hg]) := by
  refine Spec.intro (fn := Try.f57) (N := 6) Try.func57 rfl Try.ntmps57 rfl fun B => ?_
  refine XK.seq ?_
  refine XK.region rfl ?_
  refine XO.box rfl fun b2 => ?_
  refine XO.box rfl fun b3 => ?_
  refine XO.q (Q.assign rfl) ?_
  refine XO.done ?_
  refine XK.seq ?_
  refine XK.region rfl ?_
  refine XO.q (Q.func (fun _ he => rfl) (fun _ he => evs_rel he rfl)) ?_
  refine XO.q (Q.assign rfl) ?_
  refine XO.done ?_
  refine XK.rt [blk b2 [vb, vg] 25, blk b3 [.int .i64 most] 3] Try.func57 Try.results57 (.t rfl .n) ?_
  exact ⟨_, _, rfl, fun f Hr Qc Xc mono round q hQ => VSpec.fn (fst := []) (cap := [ptr b2 0, ptr b3 0]) Try.call84 rfl (lists1 b vb vg hb hg ok most hm0 hm1 b2 b3 f Hr Qc Xc mono round q hQ)⟩
set_option maxHeartbeats 1000000 in
theorem worst_spec (b : BBank) (vb vg : Value) (hb hg : PHeap) [ib : Arr vb encBat 4 hb b.bats] [ig : Arr vg encGen 5 hg b.gens] (l : List BSpan) (vl : Value) (hl : PHeap) [il : Arr vl encSpan 2 hl l] (ok : BOk b) (lk : LOk l) (most : Int) (hm0 : 0 ≤ most) (hm1 : most ≤ 9223372036854775807) : Spec Try.prog 53 #[.agg #[vb, vg], vl, .int .i64 most] [] [hb, hg, hl]
    (fun v hs => ∃ vw ve vn K ke kn, v = .tuple #[vw, resV (worstP b (powers l) most).2 ve vn] ∧ hs = [K, ke, kn] ∧ One vw ∧ Arr vw encI 1 K (worstP b (powers l) most).1 ∧ OArr ve encI 1 3 ke (worstP b (powers l) most).2.energy ∧ OArr vn encI 1 3 kn (worstP b (powers l) most).2.burnt) := by
  have hfk := fun k hk => (lists_in ok hm0 (k := k) hk).1
  have hnil : OArr (.slice none 0 0) encI 1 3 emp ([] : List Int) := OArr.nil (fun _ => rfl)
  refine Spec.intro (fn := Try.f53) (N := 43) Try.func53 rfl Try.ntmps53 rfl fun B => ?_
  refine XK.seq ?_
  refine XK.region rfl ?_
  refine XO.box rfl fun b3 => ?_
  refine XO.box rfl fun b4 => ?_
  refine XO.q (Q.assign rfl) ?_
  refine XO.alloc fun b7 => ?_
  refine XO.done ?_
  refine XK.seq ?_
  refine XK.region rfl ?_
  refine XO.alloc fun b8 => ?_
  refine XO.done ?_
  refine XK.seq ?_
  refine XK.region rfl ?_
  refine XO.alloc fun b9 => ?_
  refine XO.done ?_
  refine XK.seq ?_
  refine XK.region rfl ?_
  refine XO.alloc fun b10 => ?_
  refine XO.st rfl rfl rfl ?_
  refine XO.done ?_
  refine XK.seq ?_
  refine XK.seq ?_
  refine XK.region rfl ?_
  refine XO.q (Q.ldA [_, _] rfl rfl rfl) ?_
  refine XO.q (Q.move rfl) ?_
  refine XO.call Try.call57 rfl rfl rfl (lists_spec b vb vg hb hg ok most hm0 hm1) fun v15 s15 R15 => ?_
  obtain ⟨k1, k2, rfl, hit⟩ := R15
  dsimp only [List.cons_append, List.nil_append]
  refine XO.done ?_
  refine XK.block ?_
  refine XK.rangeK (X := Nat × Value × Value × Value × PHeap × PHeap × (List Int × BRes)) (ps := [16]) (fun ⟨k, vw, ve, vn, ke, kn, w⟩ => [blk b8 [vw] 39, blk b9 [.int .i64 w.2.dark, ve, vn, .int .i64 w.2.served] 41, blk b10 [.bool (flagP k)] 4, ke, kn]) (fun i ⟨k, vw, ve, vn, ke, kn, w⟩ K0 => k = i ∧ w = (worstTo b (powers l) (listsP b most) (k)) ∧ One vw ∧ Arr vw encI 1 K0 w.1 ∧ OArr ve encI 1 3 ke w.2.energy ∧ OArr vn encI 1 3 kn w.2.burnt) (fun j0 ⟨k, vw, ve, vn, ke, kn, w⟩ K0 => False) (0, .slice none 0 0, .slice none 0 0, .slice none 0 0, emp, emp, ([], ⟨0, [], [], 0⟩)) [blk b8 [.slice none 0 0] 39, blk b9 [.int .i64 0, .slice none 0 0, .slice none 0 0, .int .i64 0] 41, blk b10 [.bool true] 4, emp, emp] rfl (hit) rfl (fun i x K K' hle hI => ⟨hI.1, hI.2.1, hI.2.2.1, Arr.le_heap hI.2.2.2.1 hle, hI.2.2.2.2⟩) (⟨rfl, rfl, inferInstance, OArr.arr (s := hnil), hnil, hnil⟩) rfl (fun i K vs hY => by obtain ⟨sl, rfl, _⟩ := hY; rfl) ?_ ?_ (fun _ _ _ hJ => hJ.elim)
  · rintro lq rec B' i ⟨k, vw, ve, vn, ke, kn, w⟩ K0 vs hi ⟨vx, rfl, ax⟩ ⟨hki, hw, ow, AW, OE, OB⟩
    dsimp only [List.cons_append, List.nil_append]
    subst hki
    have e1 := worstTo_succ b (powers l) (listsP b most) k
    rw [← hw] at e1
    refine XK.region rfl ?_
    refine XO.q (Q.assign rfl) ?_
    refine XO.done ?_
    refine XK.beginRound ?_
    refine XK.block ?_
    refine XK.seq ?_
    refine XK.region rfl ?_
    refine XO.q (Q.ldA [_, _] rfl rfl rfl) ?_
    refine XO.q (Q.ld rfl rfl) ?_
    refine XO.q (Q.move rfl) ?_
    refine XO.call Try.call64 rfl rfl rfl (run_nil b vb vg hb hg l vl hl ((listsP b most).getD k default) vx K0 ok lk (hfk k (by omega))) fun v20 s20 R20 => ?_
    obtain ⟨ve2, vn2, ke2, kn2, rfl, rfl, E2, N2⟩ := R20
    dsimp only [List.cons_append, List.nil_append]
    refine XO.alloc fun b12 => ?_
    refine XO.st rfl rfl rfl ?_
    refine XO.done ?_
    refine XK.seq ?_
    refine XK.region rfl ?_
    refine XO.q (Q.ld rfl rfl) ?_
    refine XO.q (Q.move rfl) ?_
    refine XO.q (Quiet.guardF rfl rfl fun g23 p23 => Q.fieldAddr rfl) ?_
    refine XO.q (Quiet.guardF rfl rfl fun g24 p24 => Q.ld (lzv g24 rfl) rfl) ?_
    refine XO.q (Quiet.guardF rfl rfl fun g25 p25 => Q.geq (lzv g25 rfl) rfl) ?_
    refine XO.q (Quiet.guardF rfl rfl fun g26 p26 => Q.move (lzv g26 rfl)) ?_
    refine XO.q (Quiet.guard2 rfl rfl fun g27a g27b => have p27a := bpF g27a; have p27b := bpT g27b; Q.fieldAddr rfl) ?_
    refine XO.q (Quiet.guard2 rfl rfl fun g28a g28b => have p28a := bpF g28a; have p28b := bpT g28b; Q.ld (lzv g28b (lzv g28a rfl)) rfl) ?_
    refine XO.q (Quiet.guard2 rfl rfl fun g29a g29b => have p29a := bpF g29a; have p29b := bpT g29b; Q.lss (lzv g29b (lzv g29a rfl)) rfl) ?_
    refine XO.q (Quiet.guard2 rfl rfl fun g30a g30b => have p30a := bpF g30a; have p30b := bpT g30b; Q.move (lzv g30b (lzv g30a rfl))) ?_
    refine XO.q (Quiet.guard3 rfl rfl fun g31a g31b g31c => have p31a := bpF g31a; have p31b := bpT g31b; have p31c := bpF g31c; Q.fieldAddr rfl) ?_
    refine XO.q (Quiet.guard3 rfl rfl fun g32a g32b g32c => have p32a := bpF g32a; have p32b := bpT g32b; have p32c := bpF g32c; Q.ld (lzv g32c (lzv g32b (lzv g32a rfl))) rfl) ?_
    refine XO.q (Quiet.guard3 rfl rfl fun g33a g33b g33c => have p33a := bpF g33a; have p33b := bpT g33b; have p33c := bpF g33c; Q.fieldAddr rfl) ?_
    refine XO.q (Quiet.guard3 rfl rfl fun g34a g34b g34c => have p34a := bpF g34a; have p34b := bpT g34b; have p34c := bpF g34c; Q.ld (lzv g34c (lzv g34b (lzv g34a rfl))) rfl) ?_
    refine XO.q (Quiet.guard3 rfl rfl fun g35a g35b g35c => have p35a := bpF g35a; have p35b := bpT g35b; have p35c := bpF g35c; Q.lss (lzv g35c (lzv g35b (lzv g35a rfl))) (lzv g35c (lzv g35b (lzv g35a rfl)))) ?_
    refine XO.q (Quiet.guard2 rfl rfl fun g36a g36b => have p36a := bpF g36a; have p36b := bpT g36b; Q.or (lzv g36b (lzv g36a rfl)) (fun hp => (lzv hp (lzv g36b (lzv g36a rfl))))) ?_
    refine XO.q (Quiet.guardF rfl rfl fun g37 p37 => Q.and (lzv g37 rfl) (fun hp => (lzv hp (lzv g37 rfl)))) ?_
    refine XO.q (Q.or rfl (fun hp => lzv hp rfl)) ?_
    refine XO.done ?_
    refine XK.if rfl (fun c0 => ?_) (fun c0 => ?_)
    · have _t0 := True.intro
      refine XK.drawn [0, 1] [b12] [] (.q 0 (.q 1 (.br 2 true (.br 3 false (.br 4 false .done .stop) .stop) .stop))) Try.mixed rfl (by kernel_rfl) ?_
      refine XT.q rfl rfl (Q.move rfl) ?_
      refine XT.q rfl rfl (Q.ldA [_, _, _, _] rfl rfl rfl) ?_
      refine XT.st rfl rfl rfl rfl rfl ⟨inferInstance, ?_⟩ XT.stop
      refine XT.st rfl rfl rfl rfl rfl ⟨inferInstance, ?_⟩ XT.stop
      refine XT.st rfl rfl rfl rfl rfl ⟨inferInstance, ?_⟩ XT.stop
      refine XT.done ?_
      refine XK.inBlock ?_
      have e2 : (worstTo b (powers l) (listsP b most) (k + 1)) = (((listsP b most).getD k default), (runP b (powers l) ((listsP b most).getD k default))) := by rw [e1, if_pos (better_iff.2 c0)]
      exact XK.leave (j := none) [blk b8 [vx] 39, blk b9 [.int .i64 (runP b (powers l) ((listsP b most).getD k default)).dark, ve2, vn2, .int .i64 (runP b (powers l) ((listsP b most).getD k default)).served] 41, blk b10 [.bool false] 4, ke2, kn2] trivial ⟨(k + 1, vx, ve2, vn2, ke2, kn2, (((listsP b most).getD k default), (runP b (powers l) ((listsP b most).getD k default)))), ⟨rfl, e2.symm, inferInstance, ax, E2, N2⟩, rfl⟩
    · have _t0 := True.intro
      refine XK.skip ?_
      refine XK.inBlock ?_
      have e2 : (worstTo b (powers l) (listsP b most) (k + 1)) = w := by rw [e1, if_neg (fun h => c0 (better_iff.1 h))]
      rw [show flagP k = false from Bool.eq_false_iff.2 (fun h => c0 (.inl h))]
      exact XK.leave (j := none) [blk b8 [vw] 39, blk b9 [.int .i64 w.2.dark, ve, vn, .int .i64 w.2.served] 41, blk b10 [.bool false] 4, ke, kn] trivial ⟨(k + 1, vw, ve, vn, ke, kn, w), ⟨rfl, e2.symm, ow, AW, OE, OB⟩, rfl⟩
  · rintro ⟨k, vw, ve, vn, ke, kn, w⟩ K0 ⟨hki, hw, ow, AW, OE, OB⟩
    dsimp only [List.cons_append, List.nil_append]
    subst hki
    refine XK.inBlock ?_
    refine XK.seq ?_
    refine XK.drawn [0, 1, 2] [b8, b9] [] (.q 0 (.q 1 (.q 2 (.br 3 false .done .stop)))) Try.mixed rfl (by kernel_rfl) ?_
    refine XT.q rfl rfl (Q.ld rfl rfl) ?_
    refine XT.q rfl rfl (Q.ldA [_, _, _, _] rfl rfl rfl) ?_
    refine XT.q rfl rfl (Q.assign rfl) ?_
    refine XT.st rfl rfl rfl rfl rfl ⟨inferInstance, ?_⟩ XT.stop
    refine XT.done ?_
    refine XK.rt [K0, ke, kn] Try.func53 Try.results53 (.t rfl (.cell [_, _, _, _] rfl rfl rfl (.n))) ?_
    subst hw
    exact ⟨vw, ve, vn, K0, ke, kn, rfl, rfl, ow, AW, OE, OB⟩
end Go.X

set_option linter.unusedSimpArgs false
set_option linter.unusedVariables false
set_option maxRecDepth 20000
namespace Go.X
open Go.Proofs
theorem Worst_spec (b : BBank) (vb vg : Value) (hb hg : PHeap) [ib : Arr vb encBat 4 hb b.bats] [ig : Arr vg encGen 5 hg b.gens] (l : List BSpan) (vl : Value) (hl : PHeap) [il : Arr vl encSpan 2 hl l] (most : Int) (hm1 : most ≤ 9223372036854775807) : Spec Try.prog 17 #[.agg #[vb, vg], vl, .int .i64 most] [] [hb, hg, hl]
    (fun v hs => ∃ vw ve vn K ke kn, v = .tuple #[vw, resV (if searchP b l most = 0 then worstP b (powers l) most else ([], ⟨0, [], [], 0⟩)).2 ve vn, .int .i64 (searchP b l most)] ∧ hs = [K, ke, kn] ∧ One vw ∧ Arr vw encI 1 K (if searchP b l most = 0 then worstP b (powers l) most else ([], ⟨0, [], [], 0⟩)).1 ∧ OArr ve encI 1 3 ke (if searchP b l most = 0 then worstP b (powers l) most else ([], ⟨0, [], [], 0⟩)).2.energy ∧ OArr vn encI 1 3 kn (if searchP b l most = 0 then worstP b (powers l) most else ([], ⟨0, [], [], 0⟩)).2.burnt) := by
  have hnil : OArr (.slice none 0 0) encI 1 3 emp ([] : List Int) := OArr.nil (fun _ => rfl)
  refine Spec.intro (fn := Try.f17) (N := 29) Try.func17 rfl Try.ntmps17 rfl fun B => ?_
  refine XK.seq ?_
  refine XK.region rfl ?_
  refine XO.box rfl fun b3 => ?_
  refine XO.q (Q.assign rfl) ?_
  refine XO.alloc fun b7 => ?_
  refine XO.q (Q.assign rfl) ?_
  refine XO.done ?_
  refine XK.seq ?_
  refine XK.seq ?_
  refine XK.region rfl ?_
  refine XO.q (Q.ldA [_, _] rfl rfl rfl) ?_
  refine XO.q (Q.move rfl) ?_
  refine XO.q (Q.move rfl) ?_
  refine XO.call Try.call52 rfl rfl rfl (search_spec b vb vg hb hg l vl hl most) fun v15 s15 R15 => ?_
  obtain ⟨rfl, rfl⟩ := R15
  dsimp only [List.cons_append, List.nil_append]
  refine XO.q (Q.assign rfl) ?_
  refine XO.done ?_
  refine XK.seq ?_
  refine XK.region rfl ?_
  refine XO.q (Q.move rfl) ?_
  refine XO.q (Q.neq rfl rfl) ?_
  refine XO.done ?_
  refine XK.if rfl (fun c0 => ?_) (fun c0 => ?_)
  · have _t0 := True.intro
    refine XK.seq ?_
    refine XK.region rfl ?_
    refine XO.q (Q.build [_, _, _, _] (.n _)) ?_
    refine XO.q (Q.move rfl) ?_
    refine XO.q (Q.assign rfl) ?_
    refine XO.st rfl rfl rfl ?_
    refine XO.q (Q.assign rfl) ?_
    refine XO.done ?_
    refine XK.rt [emp, emp, emp] Try.func17 Try.results17 (.t rfl (.cell [_, _, _, _] rfl rfl rfl (.t rfl .n))) ?_
    rw [if_neg c0]
    exact ⟨.slice none 0 0, .slice none 0 0, .slice none 0 0, emp, emp, emp, rfl, rfl, inferInstance, OArr.arr (s := hnil), hnil, hnil⟩
  · have _t0 := True.intro
    refine XK.skip ?_
    refine XK.seq ?_
    refine XK.region rfl ?_
    refine XO.q (Q.ldA [_, _] rfl rfl rfl) ?_
    refine XO.q (Q.move rfl) ?_
    refine XO.q (Q.move rfl) ?_
    have sk := searchP_iff.1 (Decidable.of_not_not c0)
    refine XO.call Try.call53 rfl rfl rfl (worst_spec b vb vg hb hg l vl hl sk.ob sk.ol most sk.m0 hm1) fun v24 s24 R24 => ?_
    obtain ⟨vw, ve, vn, K, ke, kn, rfl, rfl, ow, AW, OE, OB⟩ := R24
    dsimp only [List.cons_append, List.nil_append]
    refine XO.q (Q.move rfl) ?_
    refine XO.q (Q.extract rfl rfl) ?_
    refine XO.q (Q.extract rfl rfl) ?_
    refine XO.alloc fun b11 => ?_
    refine XO.q (Q.assign rfl) ?_
    refine XO.st rfl rfl rfl ?_
    refine XO.done ?_
    refine XK.seq ?_
    refine XK.drawn [0, 1, 2, 4] [b11] [] (.q 0 (.q 1 (.q 2 (.br 3 true (.q 4 .done) .stop)))) Try.mixed rfl (by kernel_rfl) ?_
    refine XT.q rfl rfl (Q.move rfl) ?_
    refine XT.q rfl rfl (Q.ldA [_, _, _, _] rfl rfl rfl) ?_
    refine XT.q rfl rfl (Q.assign rfl) ?_
    refine XT.st rfl rfl rfl rfl rfl ⟨inferInstance, ?_⟩ XT.stop
    refine XT.q rfl rfl (Q.assign rfl) ?_
    refine XT.done ?_
    refine XK.rt [K, ke, kn] Try.func17 Try.results17 (.t rfl (.cell [_, _, _, _] rfl rfl rfl (.t rfl .n))) ?_
    have e0 := Decidable.of_not_not c0
    rw [if_pos e0, e0]
    exact ⟨vw, ve, vn, K, ke, kn, rfl, rfl, ow, AW, OE, OB⟩
theorem Least_spec (b : BBank) (vb vg : Value) (hb hg : PHeap) [ib : Arr vb encBat 4 hb b.bats] [ig : Arr vg encGen 5 hg b.gens] (l : List BSpan) (vl : Value) (hl : PHeap) [il : Arr vl encSpan 2 hl l] (most : Int) (hm1 : most ≤ 9223372036854775807) : Spec Try.prog 20 #[.agg #[vb, vg], vl, .int .i64 most] [] [hb, hg, hl] (fun v hs => v = .tuple #[.int .i64 (if searchP b l most = 0 then leastP b (powers l) most else 0), .int .i64 (searchP b l most)] ∧ hs = []) := by
  refine Spec.intro (fn := Try.f20) (N := 29) Try.func20 rfl Try.ntmps20 rfl fun B => ?_
  refine XK.seq ?_
  refine XK.region rfl ?_
  refine XO.box rfl fun b3 => ?_
  refine XO.box rfl fun b4 => ?_
  refine XO.q (Q.assign rfl) ?_
  refine XO.q (Q.assign rfl) ?_
  refine XO.done ?_
  refine XK.seq ?_
  refine XK.seq ?_
  refine XK.region rfl ?_
  refine XO.q (Q.ldA [_, _] rfl rfl rfl) ?_
  refine XO.q (Q.ld rfl rfl) ?_
  refine XO.q (Q.move rfl) ?_
  refine XO.call Try.call52 rfl rfl rfl (search_spec b vb vg hb hg l vl hl most) fun v14 s14 R14 => ?_
  obtain ⟨rfl, rfl⟩ := R14
  dsimp only [List.cons_append, List.nil_append]
  refine XO.q (Q.assign rfl) ?_
  refine XO.done ?_
  refine XK.seq ?_
  refine XK.region rfl ?_
  refine XO.q (Q.move rfl) ?_
  refine XO.q (Q.neq rfl rfl) ?_
  refine XO.done ?_
  refine XK.if rfl (fun c0 => ?_) (fun c0 => ?_)
  · have _t0 := True.intro
    refine XK.seq ?_
    refine XK.region rfl ?_
    refine XO.q (Q.move rfl) ?_
    refine XO.q (Q.assign rfl) ?_
    refine XO.q (Q.assign rfl) ?_
    refine XO.done ?_
    refine XK.rt [] Try.func20 Try.results20 (.t rfl (.t rfl .n)) ?_
    exact ⟨by rw [if_neg c0], rfl⟩
  · have _t0 := True.intro
    refine XK.skip ?_
    refine XK.seq ?_
    refine XK.region rfl ?_
    refine XO.alloc fun b9 => ?_
    refine XO.st rfl rfl rfl ?_
    refine XO.done ?_
    refine XK.seq ?_
    refine XK.seq ?_
    refine XK.region rfl ?_
    refine XO.q (Q.ldA [_, _] rfl rfl rfl) ?_
    refine XO.q (Q.move rfl) ?_
    have sk := searchP_iff.1 (Decidable.of_not_not c0)
    refine XO.call Try.call57 rfl rfl rfl (lists_spec b vb vg hb hg sk.ob most sk.m0 hm1) fun v20 s20 R20 => ?_
    obtain ⟨k1, k2, rfl, hit⟩ := R20
    dsimp only [List.cons_append, List.nil_append]
    refine XO.done ?_
    refine XK.block ?_
    refine XK.rangeK (X := Nat) (ps := [21]) (fun k => [blk b9 [.int .i64 (leastTo b (powers l) (listsP b most) (k))] 3]) (fun i k K0 => k = i) (fun j0 k K0 => False) (0) [blk b9 [.int .i64 0] 3] rfl (hit) rfl (fun i x K K' hle hI => hI) (rfl) rfl (fun i K vs hY => by obtain ⟨sl, rfl, _⟩ := hY; rfl) ?_ ?_ (fun _ _ _ hJ => hJ.elim)
    · rintro lq rec B' i k K0 vs hi ⟨vx, rfl, ax⟩ hki
      dsimp only [List.cons_append, List.nil_append]
      subst hki
      refine XK.region rfl ?_
      refine XO.q (Q.assign rfl) ?_
      refine XO.done ?_
      refine XK.beginRound ?_
      refine XK.block ?_
      refine XK.drawn [1, 2, 3, 5] [b3, b4] [] (.q 1 (.q 2 (.q 3 (.br 0 true (.br 4 true (.q 5 (.br 6 false .done .stop)) .stop) (.br 4 true (.br 0 true (.q 5 (.br 6 false .done .stop)) .stop) .stop))))) Try.mixed rfl (by kernel_rfl) ?_
      refine XT.q rfl rfl (Q.ldA [_, _] rfl rfl rfl) ?_
      refine XT.q rfl rfl (Q.ld rfl rfl) ?_
      refine XT.q rfl rfl (Q.move rfl) ?_
      refine XT.qs rfl rfl (Q.ld rfl rfl) ⟨inferInstance, ?_⟩ ?_
      · skip
        refine XT.call rfl rfl Try.call58 rfl rfl rfl (lack_spec b vb vg hb hg l vl hl ((listsP b most).getD k default) vx K0 sk.ob sk.ol (lists_in sk.ob sk.m0 (k := k) (by omega)).1) (fun v26 s26 R26 => ?_) XT.stop
        obtain ⟨rfl, rfl⟩ := R26
        dsimp only [List.cons_append, List.nil_append]
        refine ⟨inferInstance, ?_⟩
        refine XT.q rfl rfl (Q.max rfl rfl) ?_
        refine XT.st rfl rfl rfl rfl rfl ⟨inferInstance, ?_⟩ XT.stop
        refine XT.done ?_
        refine XK.inBlock ?_
        exact XK.leave (j := none) [blk b9 [.int .i64 (max (leastTo b (powers l) (listsP b most) (k)) (lackP b (powers l) ((listsP b most).getD k default)))] 3] trivial ⟨(k + 1), rfl, rfl⟩
      · skip
        refine XT.call rfl rfl Try.call58 rfl rfl rfl (lack_spec b vb vg hb hg l vl hl ((listsP b most).getD k default) vx K0 sk.ob sk.ol (lists_in sk.ob sk.m0 (k := k) (by omega)).1) (fun v26 s26 R26 => ?_) XT.stop
        obtain ⟨rfl, rfl⟩ := R26
        dsimp only [List.cons_append, List.nil_append]
        refine ⟨inferInstance, ?_⟩
        refine XT.qs rfl rfl (Q.ld rfl rfl) ⟨inferInstance, ?_⟩ XT.stop
        refine XT.q rfl rfl (Q.max rfl rfl) ?_
        refine XT.st rfl rfl rfl rfl rfl ⟨inferInstance, ?_⟩ XT.stop
        refine XT.done ?_
        refine XK.inBlock ?_
        exact XK.leave (j := none) [blk b9 [.int .i64 (max (leastTo b (powers l) (listsP b most) (k)) (lackP b (powers l) ((listsP b most).getD k default)))] 3] trivial ⟨(k + 1), rfl, rfl⟩
    · rintro k K0 hki
      dsimp only [List.cons_append, List.nil_append]
      subst hki
      refine XK.inBlock ?_
      refine XK.seq ?_
      refine XK.region rfl ?_
      refine XO.q (Q.ld rfl rfl) ?_
      refine XO.q (Q.assign rfl) ?_
      refine XO.q (Q.assign rfl) ?_
      refine XO.done ?_
      refine XK.rt [] Try.func20 Try.results20 (.t rfl (.t rfl .n)) ?_
      have e0 := Decidable.of_not_not c0
      exact ⟨by rw [if_pos e0, e0]; rfl, rfl⟩
theorem Hold_spec (b : BBank) (vb vg : Value) (hb hg : PHeap) [ib : Arr vb encBat 4 hb b.bats] [ig : Arr vg encGen 5 hg b.gens] (power most : Int) (hm1 : most ≤ 9223372036854775807) : Spec Try.prog 22 #[.agg #[vb, vg], .int .i64 power, .int .i64 most] [] [hb, hg] (fun v hs => v = .tuple #[.int .i64 (holdP b power most).1, .int .i64 (holdP b power most).2] ∧ hs = []) := by
  refine Spec.intro (fn := Try.f22) (N := 46) Try.func22 rfl Try.ntmps22 rfl fun B => ?_
  refine XK.seq ?_
  refine XK.region rfl ?_
  refine XO.box rfl fun b3 => ?_
  refine XO.q (Q.assign rfl) ?_
  refine XO.q (Q.assign rfl) ?_
  refine XO.done ?_
  refine XK.seq ?_
  refine XK.seq ?_
  refine XK.region rfl ?_
  refine XO.q (Q.ldA [_, _] rfl rfl rfl) ?_
  refine XO.call Try.call38 rfl rfl rfl (Check_spec b vb vg hb hg) fun v14 s14 R14 => ?_
  obtain ⟨rfl, rfl⟩ := R14
  dsimp only [List.cons_append, List.nil_append]
  refine XO.q (Q.assign rfl) ?_
  refine XO.done ?_
  refine XK.seq ?_
  refine XK.region rfl ?_
  refine XO.q (Q.move rfl) ?_
  refine XO.q (Q.neq rfl rfl) ?_
  refine XO.done ?_
  refine XK.if rfl (fun c0 => ?_) (fun c0 => ?_)
  · have _t0 := True.intro
    refine XK.seq ?_
    refine XK.region rfl ?_
    refine XO.q (Q.move rfl) ?_
    refine XO.q (Q.assign rfl) ?_
    refine XO.q (Q.assign rfl) ?_
    refine XO.done ?_
    refine XK.rt [] Try.func22 Try.results22 (.t rfl (.t rfl .n)) ?_
    exact ⟨by rw [holdP, if_pos c0], rfl⟩
  · have _t0 := True.intro
    refine XK.skip ?_
    refine XK.seq ?_
    refine XK.seq ?_
    refine XK.region rfl ?_
    refine XO.q (Q.move rfl) ?_
    refine XO.lit [_] [_] [power] encI (by rfl) (by rfl) rfl (by rfl) (by exact .c 0 1 rfl rfl rfl (.n _)) (fun _ => rfl) (by rfl) rfl (by infer_instance) rfl fun v19 h19 O19 => ?_
    refine XO.call Try.call59 rfl rfl rfl (within_spec 1000000 v19 h19 [power]) fun v20 s20 R20 => ?_
    obtain ⟨rfl, rfl⟩ := R20
    dsimp only [List.cons_append, List.nil_append]
    refine XO.q (Q.not rfl) ?_
    refine XO.done ?_
    refine XK.if rfl (fun c1 => ?_) (fun c1 => ?_)
    · have _t1 := True.intro
      refine XK.seq ?_
      refine XK.region rfl ?_
      refine XO.q (Q.assign rfl) ?_
      refine XO.q (Q.assign rfl) ?_
      refine XO.done ?_
      refine XK.rt [] Try.func22 Try.results22 (.t rfl (.t rfl .n)) ?_
      exact ⟨by rw [holdP, if_neg c0, if_pos (by simpa using c1)], rfl⟩
    · have _t1 := True.intro
      refine XK.skip ?_
      refine XK.seq ?_
      refine XK.region rfl ?_
      refine XO.q (Q.move rfl) ?_
      refine XO.q (Q.build [_, _] (.c 0 1 rfl rfl rfl (.c 1 1 rfl rfl rfl (.n _)))) ?_
      refine XO.q (Q.move rfl) ?_
      refine XO.q (Q.build [_, _] (.c 0 1 rfl rfl rfl (.c 1 1 rfl rfl rfl (.n _)))) ?_
      refine XO.lit [_, _, _, _] [_, _, _, _] (holdLoad power) encSpan (by rfl) (by rfl) rfl (by rfl) (by exact .c 0 2 rfl rfl rfl (.c 2 2 rfl rfl rfl (.n _))) (fun _ => rfl) (by rfl) rfl (by infer_instance) rfl fun v26 h26 O26 => ?_
      refine XO.q (Q.assign rfl) ?_
      refine XO.done ?_
      refine XK.seq ?_
      refine XK.seq ?_
      refine XK.region rfl ?_
      refine XO.q (Q.ldA [_, _] rfl rfl rfl) ?_
      refine XO.q (Q.move rfl) ?_
      refine XO.q (Q.move rfl) ?_
      refine XO.call Try.call52 rfl rfl rfl (search_spec b vb vg hb hg (holdLoad power) v26 h26 most) fun v30 s30 R30 => ?_
      obtain ⟨rfl, rfl⟩ := R30
      dsimp only [List.cons_append, List.nil_append]
      refine XO.q (Q.assign rfl) ?_
      refine XO.done ?_
      refine XK.seq ?_
      refine XK.region rfl ?_
      refine XO.q (Q.move rfl) ?_
      refine XO.q (Q.neq rfl rfl) ?_
      refine XO.done ?_
      refine XK.if rfl (fun c2 => ?_) (fun c2 => ?_)
      · have _t2 := True.intro
        refine XK.seq ?_
        refine XK.region rfl ?_
        refine XO.q (Q.move rfl) ?_
        refine XO.q (Q.assign rfl) ?_
        refine XO.q (Q.assign rfl) ?_
        refine XO.done ?_
        refine XK.rt [] Try.func22 Try.results22 (.t rfl (.t rfl .n)) ?_
        exact ⟨by rw [holdP, if_neg c0, if_neg (by simpa using c1), if_pos c2], rfl⟩
      · have _t2 := True.intro
        refine XK.skip ?_
        refine XK.seq ?_
        refine XK.region rfl ?_
        refine XO.q (Q.ldA [_, _] rfl rfl rfl) ?_
        refine XO.q (Q.move rfl) ?_
        refine XO.q (Q.move rfl) ?_
        have sk := searchP_iff.1 (Decidable.of_not_not c2)
        refine XO.call Try.call53 rfl rfl rfl (worst_spec b vb vg hb hg (holdLoad power) v26 h26 sk.ob sk.ol most sk.m0 hm1) fun v38 s38 R38 => ?_
        obtain ⟨vw, ve, vn, K, ke, kn, rfl, rfl, ow, AW, OE, OB⟩ := R38
        dsimp only [List.cons_append, List.nil_append]
        refine XO.q (Q.move rfl) ?_
        refine XO.q (Q.extract rfl rfl) ?_
        refine XO.q (Q.extract rfl rfl) ?_
        refine XO.alloc fun b12 => ?_
        refine XO.q (Q.assign rfl) ?_
        refine XO.st rfl rfl rfl ?_
        refine XO.done ?_
        refine XK.seq ?_
        refine XK.seq ?_
        refine XK.region rfl ?_
        refine XO.q (Q.fieldAddr rfl) ?_
        refine XO.q (Q.ld rfl rfl) ?_
        refine XO.q (Q.lss rfl rfl) ?_
        refine XO.done ?_
        refine XK.if rfl (fun c3 => ?_) (fun c3 => ?_)
        · have _t3 := True.intro
          refine XK.seq ?_
          refine XK.region rfl ?_
          refine XO.q (Q.assign rfl) ?_
          refine XO.q (Q.assign rfl) ?_
          refine XO.done ?_
          refine XK.rt [] Try.func22 Try.results22 (.t rfl (.t rfl .n)) ?_
          exact ⟨by rw [holdP, if_neg c0, if_neg (by simpa using c1), if_neg c2, if_pos c3], rfl⟩
        · have _t3 := True.intro
          refine XK.skip ?_
          refine XK.seq ?_
          refine XK.region rfl ?_
          refine XO.q (Q.fieldAddr rfl) ?_
          refine XO.q (Q.ld rfl rfl) ?_
          refine XO.q (Q.assign rfl) ?_
          refine XO.q (Q.assign rfl) ?_
          refine XO.done ?_
          refine XK.rt [] Try.func22 Try.results22 (.t rfl (.t rfl .n)) ?_
          exact ⟨by rw [holdP, if_neg c0, if_neg (by simpa using c1), if_neg c2, if_neg c3], rfl⟩
theorem example06 : Spec Try.prog 47 #[] [] [] (fun v hs => ∃ vb vg vl kb kg kl, v = .tuple #[.agg #[vb, vg], vl] ∧ hs = [kb, kg, kl] ∧ OArr vb encBat 4 73 kb exB.bats ∧ OArr vg encGen 5 85 kg exB.gens ∧ OArr vl encSpan 2 38 kl exL) := by
  refine Spec.intro (fn := Try.f47) (N := 9) Try.func47 rfl Try.ntmps47 rfl fun B => ?_
  refine XK.seq ?_
  refine XK.region rfl ?_
  refine XO.alloc fun b0 => ?_
  refine XO.q (Q.assign rfl) ?_
  refine XO.done ?_
  refine XK.seq ?_
  refine XK.region rfl ?_
  refine XO.q (Q.build [_, _, _, _] (.c 0 1 rfl rfl rfl (.c 1 1 rfl rfl rfl (.c 2 1 rfl rfl rfl (.c 3 1 rfl rfl rfl (.n _)))))) ?_
  refine XO.lit [_, _, _, _] [_, _, _, _] [⟨1000, 1000, 100, 10⟩] encBat (by rfl) (by rfl) rfl (by rfl) (by exact .c 0 4 rfl rfl rfl (.n _)) (fun _ => rfl) (by rfl) rfl (by infer_instance) rfl fun v3 h3 O3 => ?_
  refine XO.q (Q.build [_, _, _, _, _] (.c 0 1 rfl rfl rfl (.c 1 1 rfl rfl rfl (.c 2 1 rfl rfl rfl (.c 3 1 rfl rfl rfl (.c 4 1 rfl rfl rfl (.n _))))))) ?_
  refine XO.lit [_, _, _, _, _] [_, _, _, _, _] [⟨100, 20, 5, 2, 2⟩] encGen (by rfl) (by rfl) rfl (by rfl) (by exact .c 0 5 rfl rfl rfl (.n _)) (fun _ => rfl) (by rfl) rfl (by infer_instance) rfl fun v5 h5 O5 => ?_
  refine XO.q (Q.build [_, _] (.c 0 1 rfl rfl rfl (.c 1 1 rfl rfl rfl (.n _)))) ?_
  refine XO.q (Q.build [_, _] (.c 0 1 rfl rfl rfl (.c 1 1 rfl rfl rfl (.n _)))) ?_
  refine XO.lit [_, _] [_, _] [⟨60, 100⟩] encSpan (by rfl) (by rfl) rfl (by rfl) (by exact .c 0 2 rfl rfl rfl (.n _)) (fun _ => rfl) (by rfl) rfl (by infer_instance) rfl fun v8 h8 O8 => ?_
  refine XO.st rfl rfl rfl ?_
  refine XO.q (Q.assign rfl) ?_
  refine XO.done ?_
  refine XK.rt [h3, h5, h8] Try.func47 Try.results47 (.cell [_, _] rfl rfl rfl (.t rfl .n)) ?_
  exact ⟨v3, v5, v8, h3, h5, h8, rfl, rfl, O3, O5, O8⟩
theorem awake06 : Spec Try.prog 14 #[] [] [] (fun v hs => v = .bool true ∧ hs = []) := by
  refine Spec.intro (fn := Try.f14) (N := 84) Try.func14 rfl Try.ntmps14 rfl fun B => ?_
  refine XK.seq ?_
  refine XK.region rfl ?_
  refine XO.q (Q.assign rfl) ?_
  refine XO.done ?_
  refine XK.seq ?_
  refine XK.region rfl ?_
  refine XO.call Try.call47 rfl rfl rfl (example06) fun v13 s13 R13 => ?_
  obtain ⟨vb, vg, vl, kb, kg, kl, rfl, rfl, Ob, Og, Ol⟩ := R13
  dsimp only [List.cons_append, List.nil_append]
  refine XO.q (Q.move rfl) ?_
  refine XO.q (Q.extract rfl rfl) ?_
  refine XO.q (Q.extract rfl rfl) ?_
  refine XO.alloc fun b1 => ?_
  refine XO.st rfl rfl rfl ?_
  refine XO.q (Q.assign rfl) ?_
  refine XO.done ?_
  refine XK.seq ?_
  refine XK.region rfl ?_
  refine XO.q (Q.ldA [_, _] rfl rfl rfl) ?_
  refine XO.q (Q.move rfl) ?_
  refine XO.lit [_] [_] [0] encI (by rfl) (by rfl) rfl (by rfl) (by exact .c 0 1 rfl rfl rfl (.n _)) (fun _ => rfl) (by rfl) rfl (by infer_instance) rfl fun v19 h19 O19 => ?_
  refine XO.call Try.call30 rfl rfl rfl (Run_spec exB vb vg kb kg exL vl kl [0] v19 h19) fun v20 s20 R20 => ?_
  obtain ⟨ve, vn, ke, kn, rfl, rfl, OE, OB⟩ := R20
  dsimp only [List.cons_append, List.nil_append]
  rw [if_pos ex_ready] at OE
  rw [ex_ready, if_pos rfl]
  rw [ex_energy] at OE
  dsimp only [resV]
  rw [show (runP exB (powers exL) [0]).dark = -1 from ex_dark]
  refine XO.q (Q.move rfl) ?_
  refine XO.q (Q.extract rfl rfl) ?_
  refine XO.q (Q.extract rfl rfl) ?_
  refine XO.alloc fun b3 => ?_
  refine XO.st rfl rfl rfl ?_
  refine XO.q (Q.assign rfl) ?_
  refine XO.done ?_
  refine XK.seq ?_
  refine XK.region rfl ?_
  refine XO.q (Q.ldA [_, _] rfl rfl rfl) ?_
  refine XO.q (Q.move rfl) ?_
  refine XO.call Try.call17 rfl rfl rfl (Worst_spec exB vb vg kb kg exL vl kl 1 (by decide)) fun v26 s26 R26 => ?_
  obtain ⟨vw, ve2, vn2, K, ke2, kn2, rfl, rfl, ow, AW, OE2, OB2⟩ := R26
  dsimp only [List.cons_append, List.nil_append]
  rw [if_pos ex_search] at AW
  rw [ex_search, if_pos rfl]
  rw [ex_worst.1] at AW
  dsimp only [resV]
  rw [ex_worst.2]
  refine XO.q (Q.move rfl) ?_
  refine XO.q (Q.extract rfl rfl) ?_
  refine XO.q (Q.extract rfl rfl) ?_
  refine XO.q (Q.extract rfl rfl) ?_
  refine XO.alloc fun b6 => ?_
  refine XO.q (Q.assign rfl) ?_
  refine XO.st rfl rfl rfl ?_
  refine XO.q (Q.assign rfl) ?_
  refine XO.done ?_
  refine XK.seq ?_
  refine XK.region rfl ?_
  refine XO.q (Q.ldA [_, _] rfl rfl rfl) ?_
  refine XO.call Try.call22 rfl rfl rfl (Hold_spec exB vb vg kb kg 100 1 (by decide)) fun v32 s32 R32 => ?_
  obtain ⟨rfl, rfl⟩ := R32
  dsimp only [List.cons_append, List.nil_append]
  rw [ex_hold]
  dsimp only
  refine XO.q (Q.move rfl) ?_
  refine XO.q (Q.extract rfl rfl) ?_
  refine XO.q (Q.extract rfl rfl) ?_
  refine XO.q (Q.assign rfl) ?_
  refine XO.q (Q.assign rfl) ?_
  refine XO.done ?_
  refine XK.seq ?_
  refine XK.region rfl ?_
  refine XO.q (Q.ldA [_, _] rfl rfl rfl) ?_
  refine XO.q (Q.move rfl) ?_
  refine XO.call Try.call20 rfl rfl rfl (Least_spec exB vb vg kb kg exL vl kl 1 (by decide)) fun v38 s38 R38 => ?_
  obtain ⟨rfl, rfl⟩ := R38
  dsimp only [List.cons_append, List.nil_append]
  rw [ex_search, if_pos rfl, ex_least]
  refine XO.q (Q.move rfl) ?_
  refine XO.q (Q.extract rfl rfl) ?_
  refine XO.q (Q.extract rfl rfl) ?_
  refine XO.q (Q.assign rfl) ?_
  refine XO.q (Q.assign rfl) ?_
  refine XO.done ?_
  refine XK.seq ?_
  refine XK.region rfl ?_
  refine XO.q (Q.move rfl) ?_
  refine XO.q (Q.eql rfl rfl) ?_
  refine XO.q (Q.move rfl) ?_
  refine XO.q (Quiet.guardT rfl rfl fun g44 p44 => Q.move rfl) ?_
  refine XO.q (Quiet.guardT rfl rfl fun g45 p45 => Q.eql (lzv rfl rfl) rfl) ?_
  refine XO.q (Q.and rfl (fun hp => lzv hp rfl)) ?_
  refine XO.q (Q.move rfl) ?_
  refine XO.q (Quiet.guardT rfl rfl fun g48 p48 => Q.move rfl) ?_
  refine XO.q (Quiet.guardT rfl rfl fun g49 p49 => Q.eql (lzv rfl rfl) rfl) ?_
  refine XO.q (Q.and rfl (fun hp => lzv hp rfl)) ?_
  refine XO.q (Q.move rfl) ?_
  refine XO.q (Quiet.guardT rfl rfl fun g52 p52 => Q.move rfl) ?_
  refine XO.q (Quiet.guardT rfl rfl fun g53 p53 => Q.eql (lzv rfl rfl) rfl) ?_
  refine XO.q (Q.and rfl (fun hp => lzv hp rfl)) ?_
  refine XO.q (Q.move rfl) ?_
  refine XO.q (Quiet.guardT rfl rfl fun g56 p56 => Q.fieldAddr rfl) ?_
  refine XO.q (Quiet.guardT rfl rfl fun g57 p57 => Q.ld (lzv rfl rfl) rfl) ?_
  refine XO.q (Quiet.guardT rfl rfl fun g58 p58 => Q.eql (lzv rfl rfl) rfl) ?_
  refine XO.q (Q.and rfl (fun hp => lzv hp rfl)) ?_
  refine XO.q (Q.move rfl) ?_
  refine XO.q (Quiet.guardT rfl rfl fun g61 p61 => Q.fieldAddr rfl) ?_
  refine XO.q (Quiet.guardT rfl rfl fun g62 p62 => Q.ld (lzv rfl rfl) rfl) ?_
  refine XO.litG [_] [_] [300] encI rfl rfl rfl (by rfl) (by rfl) rfl (by rfl) (by exact .c 0 1 rfl rfl rfl (.n _)) (fun _ => rfl) (by rfl) rfl (by infer_instance) rfl fun v63 h63 O63 => ?_
  refine XO.callS rfl rfl rfl Try.call24 rfl (.c (lzv rfl rfl) (.c rfl .n)) rfl (equalI ve v63 ke h63 [300] [300]) fun v64 s64 R64 => ?_
  obtain ⟨rfl, rfl⟩ := R64
  dsimp only [List.cons_append, List.nil_append]
  refine XO.q (Q.and rfl (fun _ => rfl)) ?_
  refine XO.q (Q.move rfl) ?_
  refine XO.q (Quiet.guardT rfl rfl fun g67 p67 => Q.move rfl) ?_
  refine XO.litG [_] [_] [1] encI rfl rfl rfl (by rfl) (by rfl) rfl (by rfl) (by exact .c 0 1 rfl rfl rfl (.n _)) (fun _ => rfl) (by rfl) rfl (by infer_instance) rfl fun v68 h68 O68 => ?_
  refine XO.callS rfl rfl rfl Try.call24 rfl (.c (lzv rfl rfl) (.c rfl .n)) rfl (equalI vw v68 K h68 [1] [1]) fun v69 s69 R69 => ?_
  obtain ⟨rfl, rfl⟩ := R69
  dsimp only [List.cons_append, List.nil_append]
  refine XO.q (Q.and rfl (fun _ => rfl)) ?_
  refine XO.q (Q.move rfl) ?_
  refine XO.q (Quiet.guardT rfl rfl fun g72 p72 => Q.fieldAddr rfl) ?_
  refine XO.q (Quiet.guardT rfl rfl fun g73 p73 => Q.ld (lzv rfl rfl) rfl) ?_
  refine XO.q (Quiet.guardT rfl rfl fun g74 p74 => Q.eql (lzv rfl rfl) rfl) ?_
  refine XO.q (Q.and rfl (fun hp => lzv hp rfl)) ?_
  refine XO.q (Q.move rfl) ?_
  refine XO.q (Quiet.guardT rfl rfl fun g77 p77 => Q.move rfl) ?_
  refine XO.q (Quiet.guardT rfl rfl fun g78 p78 => Q.eql (lzv rfl rfl) rfl) ?_
  refine XO.q (Q.and rfl (fun hp => lzv hp rfl)) ?_
  refine XO.q (Q.move rfl) ?_
  refine XO.q (Quiet.guardT rfl rfl fun g81 p81 => Q.move rfl) ?_
  refine XO.q (Quiet.guardT rfl rfl fun g82 p82 => Q.eql (lzv rfl rfl) rfl) ?_
  refine XO.q (Q.and rfl (fun hp => lzv hp rfl)) ?_
  refine XO.q (Q.assign rfl) ?_
  refine XO.done ?_
  refine XK.rt [] Try.func14 Try.results14 (.t rfl .n) ?_
  exact ⟨rfl, rfl⟩
end Go.X

set_option linter.unusedSimpArgs false
set_option linter.unusedVariables false
set_option maxRecDepth 20000
namespace Go.X
open Go.Proofs
theorem made06 (vx : Value) (hx : PHeap) (x : List UInt8) [jx : Arr vx encU8 1 hx x] : Spec Try.prog 28 #[vx] [] [hx] (fun v hs => ∃ vb vg kb kg, v = .agg #[vb, vg] ∧ hs = [kb, kg] ∧ OArr vb encBat 4 73 kb (madeP x).bats ∧ OArr vg encGen 5 85 kg (madeP x).gens) := by
  have hb := fun i => byt_ok x i
  unfold byt at hb
  have nB : OArr (.slice none 0 0) encBat 4 73 emp ([] : List BBat) := OArr.nil (fun _ => rfl)
  have nG : OArr (.slice none 0 0) encGen 5 85 emp ([] : List BGen) := OArr.nil (fun _ => rfl)
  refine Spec.intro (fn := Try.f28) (N := 97) Try.func28 rfl Try.ntmps28 rfl fun B => ?_
  refine XK.seq ?_
  refine XK.region rfl ?_
  refine XO.alloc fun b2 => ?_
  refine XO.done ?_
  refine XK.seq ?_
  refine XK.region rfl ?_
  refine XO.alloc fun b3 => ?_
  refine XO.done ?_
  refine XK.seq ?_
  refine XK.seq ?_
  refine XK.region rfl ?_
  refine XO.q (Q.assign rfl) ?_
  refine XO.done ?_
  refine XK.block ?_
  refine XK.while (X := Nat × Value × Value × PHeap × PHeap) [4, 5, 6, 7, 8, 9, 10, 11, 12, 13, 14, 15, 16, 17, 18, 19, 20, 21, 22, 23, 24, 25, 26, 27, 28, 29, 30, 31, 32, 33, 34, 35, 36, 37, 38, 39, 40, 41, 42, 43, 44, 45, 46, 47, 48, 49, 50, 51, 52, 53, 54, 55, 56, 57, 58, 59, 60, 61, 62, 63, 64, 65, 66, 67, 68, 69, 70, 71, 72, 73, 74, 75, 76, 77, 78, 79, 80, 81, 82, 83, 84, 85, 86, 87, 88, 89, 90, 91, 92, 93, 94, 95] (fun ⟨k, vb, vg, kb, kg⟩ => [(4, some (.int .i64 ((5 * k : Nat) : Int)))]) (fun ⟨k, vb, vg, kb, kg⟩ => [blk b3 [vb, vg] 25, kb, kg]) (fun ⟨k, vb, vg, kb, kg⟩ => 5 * k ≤ x.length ∧ k ≤ 7 ∧ OArr vb encBat 4 73 kb (madeTo x k).bats ∧ OArr vg encGen 5 85 kg (madeTo x k).gens) (fun ⟨k, vb, vg, kb, kg⟩ => 7 - k) (0, .slice none 0 0, .slice none 0 0, emp, emp) [blk b3 [.slice none 0 0, .slice none 0 0] 25, emp, emp] rfl ⟨by omega, by omega, nB, nG⟩ (.c rfl (.base 0 rfl rfl)) ?_
  rintro ⟨k, vb, vg, kb, kg⟩ ⟨hk, hk7, OB, OG⟩ ih0
  dsimp only [List.cons_append, List.nil_append] at ih0 ⊢
  refine XK.seq ?_
  refine XK.seq ?_
  refine XK.region rfl ?_
  refine XO.q (Q.move rfl) ?_
  refine XO.q (Q.add rfl rfl ⟨by omega, by omega⟩) ?_
  refine XO.q (Q.move rfl) ?_
  refine XO.len rfl fun l9 => ?_
  refine XO.q (Q.lss rfl rfl) ?_
  refine XO.q (Q.move rfl) ?_
  refine XO.q (Quiet.guardT rfl rfl fun g12 p12 => Q.move rfl) ?_
  refine XO.q (Quiet.guardT rfl rfl fun g13 p13 => Q.lss (lzv g13 rfl) rfl) ?_
  refine XO.q (Q.and rfl (fun hp => lzv hp rfl)) ?_
  refine XO.done ?_
  refine XK.if rfl (fun c0 => ?_) (fun c0 => ?_)
  · have _t0 := True.intro
    have hb0 := hb (5 * k)
    have hb1 := hb (5 * k + 1)
    have hb2 := hb (5 * k + 2)
    have hb3 := hb (5 * k + 3)
    have hb4 := hb (5 * k + 4)
    obtain ⟨_, _, lb, lg⟩ := madeTo_ok x k
    refine XK.skip ?_
    refine XK.seq ?_
    refine XK.block ?_
    refine XK.seq ?_
    refine XK.region rfl ?_
    refine XO.q (Q.move rfl) ?_
    refine XO.q (Q.rem rfl rfl (by omega) (by omega)) ?_
    refine XO.q (Q.eql rfl rfl) ?_
    refine XO.done ?_
    refine XK.if rfl (fun c1 => ?_) (fun c1 => ?_)
    · have _t1 := True.intro
      have e5 : madeTo x (k + 1) = ⟨(madeTo x k).bats ++ [batAt x (5 * k)], (madeTo x k).gens⟩ := by rw [madeTo, if_pos (by omega)]
      refine XK.seq ?_
      refine XK.region rfl ?_
      refine XO.q (Q.move rfl) ?_
      refine XO.q (Q.move rfl) ?_
      refine XO.ix rfl rfl (by omega) (by omega) fun i22 => ?_
      refine XO.q (Q.ldE rfl (by first | assumption | omega) rfl) ?_
      refine XO.q (Q.conv rfl) ?_
      rw [wrap64_of ⟨by omega, by omega⟩]
      refine XO.q (Q.mul rfl rfl ⟨by omega, by omega⟩) ?_
      refine XO.q (Q.assign rfl) ?_
      refine XO.done ?_
      refine XK.drawn [0, 2, 3, 4, 5, 6, 7, 8, 9, 10, 11, 12, 13, 14, 15, 16, 17, 18, 19, 20, 21, 22, 23, 24, 25, 28] [] [] (.q 0 (.q 2 (.q 3 (.q 4 (.q 5 (.q 6 (.q 7 (.q 8 (.q 9 (.q 10 (.q 11 (.q 12 (.q 13 (.q 14 (.q 15 (.q 16 (.q 17 (.q 18 (.q 19 (.q 20 (.q 21 (.q 22 (.q 23 (.q 24 (.q 25 (.br 1 true (.br 26 true (.br 27 true (.q 28 (.br 29 false .done .stop)) .stop) .stop) (.br 26 true (.br 1 true (.br 27 true (.q 28 (.br 29 false .done .stop)) .stop) .stop) .stop))))))))))))))))))))))))))) Try.mixed rfl (by kernel_rfl) ?_
      refine XT.q rfl rfl (Q.fieldAddr rfl) ?_
      refine XT.q rfl rfl (Q.move rfl) ?_
      refine XT.q rfl rfl (Q.move rfl) ?_
      refine XT.q rfl rfl (Q.move rfl) ?_
      refine XT.q rfl rfl (Q.add rfl rfl ⟨by omega, by omega⟩) ?_
      rw [show (((5 * k : Nat) : Int) + 1) = ((5 * k + 1 : Nat) : Int) from rfl]
      refine XT.ix rfl rfl rfl rfl (by omega) (by omega) fun i32 => ?_
      refine XT.q rfl rfl (Q.ldE rfl (by first | assumption | omega) rfl) ?_
      refine XT.q rfl rfl (Q.conv rfl) ?_
      rw [wrap64_of ⟨by omega, by omega⟩]
      have mq := mulLe (a := 40 * (((x.getD (5 * k) default).toNat : Nat) : Int)) (b := (((x.getD (5 * k + 1) default).toNat : Nat) : Int)) (m := 10200) (n := 255) (by omega) (by omega) (by omega) (by omega)
      refine XT.q rfl rfl (Q.mul rfl rfl ⟨by omega, by omega⟩) ?_
      refine XT.q rfl rfl (Q.quo rfl rfl (by omega) (by omega) (by omega)) ?_
      refine XT.q rfl rfl (Q.move rfl) ?_
      refine XT.q rfl rfl (Q.move rfl) ?_
      refine XT.q rfl rfl (Q.move rfl) ?_
      refine XT.q rfl rfl (Q.add rfl rfl ⟨by omega, by omega⟩) ?_
      rw [show (((5 * k : Nat) : Int) + 2) = ((5 * k + 2 : Nat) : Int) from rfl]
      refine XT.ix rfl rfl rfl rfl (by omega) (by omega) fun i41 => ?_
      refine XT.q rfl rfl (Q.ldE rfl (by first | assumption | omega) rfl) ?_
      refine XT.q rfl rfl (Q.conv rfl) ?_
      rw [wrap64_of ⟨by omega, by omega⟩]
      refine XT.q rfl rfl (Q.move rfl) ?_
      refine XT.q rfl rfl (Q.move rfl) ?_
      refine XT.q rfl rfl (Q.add rfl rfl ⟨by omega, by omega⟩) ?_
      rw [show (((5 * k : Nat) : Int) + 3) = ((5 * k + 3 : Nat) : Int) from rfl]
      refine XT.ix rfl rfl rfl rfl (by omega) (by omega) fun i47 => ?_
      refine XT.q rfl rfl (Q.ldE rfl (by first | assumption | omega) rfl) ?_
      refine XT.q rfl rfl (Q.rem rfl rfl (by omega) (by omega)) ?_
      refine XT.q rfl rfl (Q.conv rfl) ?_
      rw [wrap64_of ⟨by omega, by omega⟩]
      refine XT.q rfl rfl (Q.build [_, _, _, _] (.c 0 1 rfl rfl rfl (.c 1 1 rfl rfl rfl (.c 2 1 rfl rfl rfl (.c 3 1 rfl rfl rfl (.n _)))))) ?_
      refine XT.qs rfl rfl (Q.ld rfl rfl) ⟨inferInstance, ?_⟩ ?_
      · skip
        refine XT.lit [_, _, _, _] [_, _, _, _] [batAt x (5 * k)] encBat rfl rfl (by rfl) (by rfl) rfl (by rfl) (by exact .c 0 4 rfl rfl rfl (.n _)) (fun _ => rfl) (by rfl) rfl (by infer_instance) rfl (fun v52 h52 O52 => ⟨inferInstance, ?_⟩) XT.stop
        refine XT.append rfl rfl rfl rfl rfl rfl (by first | omega | (simp; omega)) (fun v53 h53 O53 => ⟨inferInstance, ?_⟩) XT.stop
        refine XT.q rfl rfl (Q.fieldAddr rfl) ?_
        refine XT.st rfl rfl rfl rfl rfl ⟨inferInstance, ?_⟩ XT.stop
        refine XT.done ?_
        refine XK.inBlock ?_
        refine XK.region rfl ?_
        refine XO.q (Q.move rfl) ?_
        refine XO.q (Q.add rfl rfl ⟨by omega, by omega⟩) ?_
        refine XO.q (Q.assign rfl) ?_
        refine XO.done ?_
        rw [show ((5 * k : Nat) : Int) + 5 = ((5 * (k + 1) : Nat) : Int) by omega]
        exact ih0 (k + 1, v53, vg, h53, kg) _ _ ⟨by dsimp only; omega, by dsimp only; omega, by dsimp only; rw [e5]; exact O53, by dsimp only; rw [e5]; exact OG⟩ (by first | omega | (dsimp only; omega)) (.c rfl (.base 144 rfl rfl)) inferInstance
      · skip
        refine XT.lit [_, _, _, _] [_, _, _, _] [batAt x (5 * k)] encBat rfl rfl (by rfl) (by rfl) rfl (by rfl) (by exact .c 0 4 rfl rfl rfl (.n _)) (fun _ => rfl) (by rfl) rfl (by infer_instance) rfl (fun v52 h52 O52 => ⟨inferInstance, ?_⟩) XT.stop
        refine XT.qs rfl rfl (Q.ld rfl rfl) ⟨inferInstance, ?_⟩ XT.stop
        refine XT.append rfl rfl rfl rfl rfl rfl (by first | omega | (simp; omega)) (fun v53 h53 O53 => ⟨inferInstance, ?_⟩) XT.stop
        refine XT.q rfl rfl (Q.fieldAddr rfl) ?_
        refine XT.st rfl rfl rfl rfl rfl ⟨inferInstance, ?_⟩ XT.stop
        refine XT.done ?_
        refine XK.inBlock ?_
        refine XK.region rfl ?_
        refine XO.q (Q.move rfl) ?_
        refine XO.q (Q.add rfl rfl ⟨by omega, by omega⟩) ?_
        refine XO.q (Q.assign rfl) ?_
        refine XO.done ?_
        rw [show ((5 * k : Nat) : Int) + 5 = ((5 * (k + 1) : Nat) : Int) by omega]
        exact ih0 (k + 1, v53, vg, h53, kg) _ _ ⟨by dsimp only; omega, by dsimp only; omega, by dsimp only; rw [e5]; exact O53, by dsimp only; rw [e5]; exact OG⟩ (by first | omega | (dsimp only; omega)) (.c rfl (.base 144 rfl rfl)) inferInstance
    · have _t1 := True.intro
      have e5 : madeTo x (k + 1) = ⟨(madeTo x k).bats, (madeTo x k).gens ++ [genAt x (5 * k)]⟩ := by rw [madeTo, if_neg (by omega)]
      refine XK.drawn [0, 2, 3, 4, 5, 6, 7, 8, 9, 10, 11, 12, 13, 14, 15, 16, 17, 18, 19, 20, 21, 22, 23, 24, 25, 26, 27, 28, 29, 30, 31, 32, 33, 34, 35, 36, 37, 40] [] [] (.q 0 (.q 2 (.q 3 (.q 4 (.q 5 (.q 6 (.q 7 (.q 8 (.q 9 (.q 10 (.q 11 (.q 12 (.q 13 (.q 14 (.q 15 (.q 16 (.q 17 (.q 18 (.q 19 (.q 20 (.q 21 (.q 22 (.q 23 (.q 24 (.q 25 (.q 26 (.q 27 (.q 28 (.q 29 (.q 30 (.q 31 (.q 32 (.q 33 (.q 34 (.q 35 (.q 36 (.q 37 (.br 1 true (.br 38 true (.br 39 true (.q 40 (.br 41 false .done .stop)) .stop) .stop) (.br 38 true (.br 1 true (.br 39 true (.q 40 (.br 41 false .done .stop)) .stop) .stop) .stop))))))))))))))))))))))))))))))))))))))) Try.mixed rfl (by kernel_rfl) ?_
      refine XT.q rfl rfl (Q.fieldAddr rfl) ?_
      refine XT.q rfl rfl (Q.move rfl) ?_
      refine XT.q rfl rfl (Q.move rfl) ?_
      refine XT.ix rfl rfl rfl rfl (by omega) (by omega) fun i59 => ?_
      refine XT.q rfl rfl (Q.ldE rfl (by first | assumption | omega) rfl) ?_
      refine XT.q rfl rfl (Q.conv rfl) ?_
      rw [wrap64_of ⟨by omega, by omega⟩]
      refine XT.q rfl rfl (Q.move rfl) ?_
      refine XT.q rfl rfl (Q.move rfl) ?_
      refine XT.q rfl rfl (Q.add rfl rfl ⟨by omega, by omega⟩) ?_
      rw [show (((5 * k : Nat) : Int) + 1) = ((5 * k + 1 : Nat) : Int) from rfl]
      refine XT.ix rfl rfl rfl rfl (by omega) (by omega) fun i65 => ?_
      refine XT.q rfl rfl (Q.ldE rfl (by first | assumption | omega) rfl) ?_
      refine XT.q rfl rfl (Q.rem rfl rfl (by omega) (by omega)) ?_
      refine XT.q rfl rfl (Q.conv rfl) ?_
      rw [wrap64_of ⟨by omega, by omega⟩]
      refine XT.q rfl rfl (Q.add rfl rfl ⟨by omega, by omega⟩) ?_
      refine XT.q rfl rfl (Q.move rfl) ?_
      refine XT.q rfl rfl (Q.move rfl) ?_
      refine XT.q rfl rfl (Q.add rfl rfl ⟨by omega, by omega⟩) ?_
      rw [show (((5 * k : Nat) : Int) + 2) = ((5 * k + 2 : Nat) : Int) from rfl]
      refine XT.ix rfl rfl rfl rfl (by omega) (by omega) fun i73 => ?_
      refine XT.q rfl rfl (Q.ldE rfl (by first | assumption | omega) rfl) ?_
      refine XT.q rfl rfl (Q.rem rfl rfl (by omega) (by omega)) ?_
      refine XT.q rfl rfl (Q.conv rfl) ?_
      rw [wrap64_of ⟨by omega, by omega⟩]
      refine XT.q rfl rfl (Q.move rfl) ?_
      refine XT.q rfl rfl (Q.move rfl) ?_
      refine XT.q rfl rfl (Q.add rfl rfl ⟨by omega, by omega⟩) ?_
      rw [show (((5 * k : Nat) : Int) + 3) = ((5 * k + 3 : Nat) : Int) from rfl]
      refine XT.ix rfl rfl rfl rfl (by omega) (by omega) fun i80 => ?_
      refine XT.q rfl rfl (Q.ldE rfl (by first | assumption | omega) rfl) ?_
      refine XT.q rfl rfl (Q.rem rfl rfl (by omega) (by omega)) ?_
      refine XT.q rfl rfl (Q.conv rfl) ?_
      rw [wrap64_of ⟨by omega, by omega⟩]
      refine XT.q rfl rfl (Q.move rfl) ?_
      refine XT.q rfl rfl (Q.move rfl) ?_
      refine XT.q rfl rfl (Q.add rfl rfl ⟨by omega, by omega⟩) ?_
      rw [show (((5 * k : Nat) : Int) + 4) = ((5 * k + 4 : Nat) : Int) from rfl]
      refine XT.ix rfl rfl rfl rfl (by omega) (by omega) fun i87 => ?_
      refine XT.q rfl rfl (Q.ldE rfl (by first | assumption | omega) rfl) ?_
      refine XT.q rfl rfl (Q.rem rfl rfl (by omega) (by omega)) ?_
      refine XT.q rfl rfl (Q.conv rfl) ?_
      rw [wrap64_of ⟨by omega, by omega⟩]
      refine XT.q rfl rfl (Q.add rfl rfl ⟨by omega, by omega⟩) ?_
      refine XT.q rfl rfl (Q.build [_, _, _, _, _] (.c 0 1 rfl rfl rfl (.c 1 1 rfl rfl rfl (.c 2 1 rfl rfl rfl (.c 3 1 rfl rfl rfl (.c 4 1 rfl rfl rfl (.n _))))))) ?_
      refine XT.qs rfl rfl (Q.ld rfl rfl) ⟨inferInstance, ?_⟩ ?_
      · skip
        refine XT.lit [_, _, _, _, _] [_, _, _, _, _] [genAt x (5 * k)] encGen rfl rfl (by rfl) (by rfl) rfl (by rfl) (by exact .c 0 5 rfl rfl rfl (.n _)) (fun _ => rfl) (by rfl) rfl (by infer_instance) rfl (fun v93 h93 O93 => ⟨inferInstance, ?_⟩) XT.stop
        refine XT.append rfl rfl rfl rfl rfl rfl (by first | omega | (simp; omega)) (fun v94 h94 O94 => ⟨inferInstance, ?_⟩) XT.stop
        refine XT.q rfl rfl (Q.fieldAddr rfl) ?_
        refine XT.st rfl rfl rfl rfl rfl ⟨inferInstance, ?_⟩ XT.stop
        refine XT.done ?_
        refine XK.inBlock ?_
        refine XK.region rfl ?_
        refine XO.q (Q.move rfl) ?_
        refine XO.q (Q.add rfl rfl ⟨by omega, by omega⟩) ?_
        refine XO.q (Q.assign rfl) ?_
        refine XO.done ?_
        rw [show ((5 * k : Nat) : Int) + 5 = ((5 * (k + 1) : Nat) : Int) by omega]
        exact ih0 (k + 1, vb, v94, kb, h94) _ _ ⟨by dsimp only; omega, by dsimp only; omega, by dsimp only; rw [e5]; exact OB, by dsimp only; rw [e5]; exact O94⟩ (by first | omega | (dsimp only; omega)) (.c rfl (.base 149 rfl rfl)) inferInstance
      · skip
        refine XT.lit [_, _, _, _, _] [_, _, _, _, _] [genAt x (5 * k)] encGen rfl rfl (by rfl) (by rfl) rfl (by rfl) (by exact .c 0 5 rfl rfl rfl (.n _)) (fun _ => rfl) (by rfl) rfl (by infer_instance) rfl (fun v93 h93 O93 => ⟨inferInstance, ?_⟩) XT.stop
        refine XT.qs rfl rfl (Q.ld rfl rfl) ⟨inferInstance, ?_⟩ XT.stop
        refine XT.append rfl rfl rfl rfl rfl rfl (by first | omega | (simp; omega)) (fun v94 h94 O94 => ⟨inferInstance, ?_⟩) XT.stop
        refine XT.q rfl rfl (Q.fieldAddr rfl) ?_
        refine XT.st rfl rfl rfl rfl rfl ⟨inferInstance, ?_⟩ XT.stop
        refine XT.done ?_
        refine XK.inBlock ?_
        refine XK.region rfl ?_
        refine XO.q (Q.move rfl) ?_
        refine XO.q (Q.add rfl rfl ⟨by omega, by omega⟩) ?_
        refine XO.q (Q.assign rfl) ?_
        refine XO.done ?_
        rw [show ((5 * k : Nat) : Int) + 5 = ((5 * (k + 1) : Nat) : Int) by omega]
        exact ih0 (k + 1, vb, v94, kb, h94) _ _ ⟨by dsimp only; omega, by dsimp only; omega, by dsimp only; rw [e5]; exact OB, by dsimp only; rw [e5]; exact O94⟩ (by first | omega | (dsimp only; omega)) (.c rfl (.base 149 rfl rfl)) inferInstance
  · have _t0 := True.intro
    have hkn : k = min 7 (x.length / 5) := by omega
    refine XK.exit rfl ?_
    refine XK.seq ?_
    refine XK.region rfl ?_
    refine XO.q (Q.ldA [_, _] rfl rfl rfl) ?_
    refine XO.st rfl rfl rfl ?_
    refine XO.done ?_
    refine XK.rt [kb, kg] Try.func28 Try.results28 (.cell [_, _] rfl rfl rfl (.n)) ?_
    subst hkn
    exact ⟨vb, vg, kb, kg, rfl, rfl, OB, OG⟩
theorem loaded06 (vx : Value) (hx : PHeap) (x : List UInt8) [jx : Arr vx encU8 1 hx x] : Spec Try.prog 31 #[vx] [] [hx] (fun v hs => ∃ kl, hs = [kl] ∧ OArr v encSpan 2 38 kl (loadP x)) := by
  have hb := fun i => byt_ok x i
  unfold byt at hb
  have nS : OArr (.slice none 0 0) encSpan 2 38 emp ([] : List BSpan) := OArr.nil (fun _ => rfl)
  refine Spec.intro (fn := Try.f31) (N := 34) Try.func31 rfl Try.ntmps31 rfl fun B => ?_
  refine XK.seq ?_
  refine XK.region rfl ?_
  refine XO.q (Q.assign rfl) ?_
  refine XO.done ?_
  refine XK.seq ?_
  refine XK.region rfl ?_
  refine XO.q (Q.assign rfl) ?_
  refine XO.done ?_
  refine XK.seq ?_
  refine XK.seq ?_
  refine XK.region rfl ?_
  refine XO.q (Q.assign rfl) ?_
  refine XO.done ?_
  refine XK.block ?_
  refine XK.while (X := Nat × Value × PHeap) [3, 4, 5, 6, 7, 8, 9, 10, 11, 12, 13, 14, 15, 16, 17, 18, 19, 20, 21, 22, 23, 24, 25, 26, 27, 28, 29, 30, 31, 32] (fun ⟨k, vl, kl⟩ => [(4, some (.int .i64 ((2 * k : Nat) : Int))), (3, some (vl))]) (fun ⟨k, vl, kl⟩ => [kl]) (fun ⟨k, vl, kl⟩ => 2 * k ≤ x.length ∧ k ≤ 8 ∧ OArr vl encSpan 2 38 kl (loadTo x k)) (fun ⟨k, vl, kl⟩ => 8 - k) (0, .slice none 0 0, emp) [emp] rfl ⟨by omega, by omega, nS⟩ (.c rfl (.c rfl (.base 0 rfl rfl))) ?_
  rintro ⟨k, vl, kl⟩ ⟨hk, hk8, OL⟩ ih0
  dsimp only [List.cons_append, List.nil_append] at ih0 ⊢
  refine XK.seq ?_
  refine XK.seq ?_
  refine XK.region rfl ?_
  refine XO.q (Q.move rfl) ?_
  refine XO.q (Q.add rfl rfl ⟨by omega, by omega⟩) ?_
  refine XO.q (Q.move rfl) ?_
  refine XO.len rfl fun l8 => ?_
  refine XO.q (Q.lss rfl rfl) ?_
  refine XO.q (Q.move rfl) ?_
  refine XO.q (Quiet.guardT rfl rfl fun g11 p11 => Q.move rfl) ?_
  refine XO.q (Quiet.guardT rfl rfl fun g12 p12 => Q.lss (lzv g12 rfl) rfl) ?_
  refine XO.q (Q.and rfl (fun hp => lzv hp rfl)) ?_
  refine XO.done ?_
  refine XK.if rfl (fun c0 => ?_) (fun c0 => ?_)
  · have _t0 := True.intro
    have hb0 := hb (2 * k)
    have hb1 := hb (2 * k + 1)
    have ll := (loadTo_ok x k).2
    refine XK.skip ?_
    refine XK.seq ?_
    refine XK.block ?_
    refine XK.drawn [0, 1, 2, 3, 4, 5, 6, 7, 8, 9, 10, 11, 12, 13, 14, 17] [] [] (.q 0 (.q 1 (.q 2 (.q 3 (.q 4 (.q 5 (.q 6 (.q 7 (.q 8 (.q 9 (.q 10 (.q 11 (.q 12 (.q 13 (.q 14 (.br 15 true (.br 16 true (.q 17 .done) .stop) .stop)))))))))))))))) Try.mixed rfl (by kernel_rfl) ?_
    refine XT.q rfl rfl (Q.move rfl) ?_
    refine XT.q rfl rfl (Q.move rfl) ?_
    refine XT.q rfl rfl (Q.move rfl) ?_
    refine XT.ix rfl rfl rfl rfl (by omega) (by omega) fun i19 => ?_
    refine XT.q rfl rfl (Q.ldE rfl (by first | assumption | omega) rfl) ?_
    refine XT.q rfl rfl (Q.rem rfl rfl (by omega) (by omega)) ?_
    refine XT.q rfl rfl (Q.conv rfl) ?_
    rw [wrap64_of ⟨by omega, by omega⟩]
    refine XT.q rfl rfl (Q.add rfl rfl ⟨by omega, by omega⟩) ?_
    refine XT.q rfl rfl (Q.move rfl) ?_
    refine XT.q rfl rfl (Q.move rfl) ?_
    refine XT.q rfl rfl (Q.add rfl rfl ⟨by omega, by omega⟩) ?_
    rw [show (((2 * k : Nat) : Int) + 1) = ((2 * k + 1 : Nat) : Int) from rfl]
    refine XT.ix rfl rfl rfl rfl (by omega) (by omega) fun i27 => ?_
    refine XT.q rfl rfl (Q.ldE rfl (by first | assumption | omega) rfl) ?_
    refine XT.q rfl rfl (Q.conv rfl) ?_
    rw [wrap64_of ⟨by omega, by omega⟩]
    refine XT.q rfl rfl (Q.build [_, _] (.c 0 1 rfl rfl rfl (.c 1 1 rfl rfl rfl (.n _)))) ?_
    refine XT.lit [_, _] [_, _] [spanAt x (2 * k)] encSpan rfl rfl (by rfl) (by rfl) rfl (by rfl) (by exact .c 0 2 rfl rfl rfl (.n _)) (fun _ => rfl) (by rfl) rfl (by infer_instance) rfl (fun v31 h31 O31 => ⟨inferInstance, ?_⟩) XT.stop
    refine XT.append rfl rfl rfl rfl rfl rfl (by first | omega | (simp; omega)) (fun v32 h32 O32 => ⟨inferInstance, ?_⟩) XT.stop
    refine XT.q rfl rfl (Q.assign rfl) ?_
    refine XT.done ?_
    refine XK.inBlock ?_
    refine XK.region rfl ?_
    refine XO.q (Q.move rfl) ?_
    refine XO.q (Q.add rfl rfl ⟨by omega, by omega⟩) ?_
    refine XO.q (Q.assign rfl) ?_
    refine XO.done ?_
    rw [show ((2 * k : Nat) : Int) + 2 = ((2 * (k + 1) : Nat) : Int) by omega]
    exact ih0 (k + 1, v32, h32) _ _ ⟨by dsimp only; omega, by dsimp only; omega, O32⟩ (by first | omega | (dsimp only; omega)) (.c rfl (.c rfl (.base 62 rfl rfl))) inferInstance
  · have _t0 := True.intro
    have hkn : k = min 8 (x.length / 2) := by omega
    refine XK.exit rfl ?_
    refine XK.seq ?_
    refine XK.region rfl ?_
    refine XO.q (Q.move rfl) ?_
    refine XO.q (Q.assign rfl) ?_
    refine XO.done ?_
    refine XK.rt [kl] Try.func31 Try.results31 (.t rfl .n) ?_
    subst hkn
    exact ⟨kl, rfl, OL⟩
theorem failed06 (b : BBank) (vb vg : Value) (hb hg : PHeap) [ib : Arr vb encBat 4 hb b.bats] [ig : Arr vg encGen 5 hg b.gens] (ok : BOk b) (vx : Value) (hx : PHeap) (x : List UInt8) [jx : Arr vx encU8 1 hx x] : Spec Try.prog 29 #[.agg #[vb, vg], vx] [] [hb, hg, hx] (fun v hs => ∃ kf, hs = [kf] ∧ OArr v encI 1 3 kf (failP b x)) := by
  have hby := fun i => byt_ok x i
  unfold byt at hby
  have n6 := ok.ng
  have lx := jx.le
  have nF : OArr (.slice none 0 0) encI 1 3 emp ([] : List Int) := OArr.nil (fun _ => rfl)
  refine Spec.intro (fn := Try.f29) (N := 36) Try.func29 rfl Try.ntmps29 rfl fun B => ?_
  refine XK.seq ?_
  refine XK.region rfl ?_
  refine XO.box rfl fun b2 => ?_
  refine XO.q (Q.assign rfl) ?_
  refine XO.done ?_
  refine XK.seq ?_
  refine XK.region rfl ?_
  refine XO.q (Q.assign rfl) ?_
  refine XO.done ?_
  refine XK.seq ?_
  refine XK.seq ?_
  refine XK.region rfl ?_
  refine XO.q (Q.fieldAddr rfl) ?_
  refine XO.q (Q.ld rfl rfl) ?_
  refine XO.len rfl fun l11 => ?_
  refine XO.q (Q.move rfl) ?_
  refine XO.done ?_
  refine XK.block ?_
  refine XK.while (X := Nat × Value × PHeap) [5, 6, 7, 8, 12, 13, 14, 15, 16, 17, 18, 19, 20, 21, 22, 23, 24, 25, 26, 27, 28, 29, 30, 31, 32, 33, 34] (fun ⟨i, vf, kf⟩ => [(12, some (.int .i64 (i : Nat))), (5, some (vf))]) (fun ⟨i, vf, kf⟩ => [kf]) (fun ⟨i, vf, kf⟩ => i ≤ b.gens.length ∧ OArr vf encI 1 3 kf (failTo b x i)) (fun ⟨i, vf, kf⟩ => b.gens.length - i) (0, .slice none 0 0, emp) [emp] rfl ⟨by omega, nF⟩ (.c rfl (.c rfl (.base 0 rfl rfl))) ?_
  rintro ⟨i, vf, kf⟩ ⟨hi, OF⟩ ih0
  dsimp only [List.cons_append, List.nil_append] at ih0 ⊢
  refine XK.seq ?_
  refine XK.region rfl ?_
  refine XO.q (Q.lss rfl rfl) ?_
  refine XO.done ?_
  refine XK.seq ?_
  refine XK.if rfl (fun c0 => ?_) (fun c0 => ?_)
  · have _t0 := True.intro
    have hb0 := hby i
    have fl := failTo_len b x i
    have gk := ok.gen _ (getD_memB (show i < b.gens.length by omega))
    have g0 := gk.t0
    have g1 := gk.t1
    refine XK.skip ?_
    refine XK.seq ?_
    refine XK.block ?_
    refine XK.seq ?_
    refine XK.region rfl ?_
    refine XO.q (Q.move rfl) ?_
    refine XO.ix rfl rfl (by omega) (by omega) fun i15 => ?_
    refine XO.q (Q.ldEA [_, _, _, _, _] rfl (by first | assumption | omega) rfl rfl) ?_
    refine XO.alloc fun b7 => ?_
    refine XO.q (Q.assign rfl) ?_
    refine XO.st rfl rfl rfl ?_
    refine XO.done ?_
    refine XK.seq ?_
    refine XK.region rfl ?_
    refine XO.q (Q.assign rfl) ?_
    refine XO.done ?_
    refine XK.seq ?_
    refine XK.seq ?_
    refine XK.region rfl ?_
    refine XO.q (Q.move rfl) ?_
    refine XO.q (Q.move rfl) ?_
    refine XO.len rfl fun l19 => ?_
    refine XO.q (Q.lss rfl rfl) ?_
    refine XO.done ?_
    refine XK.meet (X := Unit) [8, 21, 22, 23, 24, 25, 26, 27, 28, 29] (fun _u => [(8, some (.int .i64 (failAt b x i)))]) (fun _u => []) (fun _u => True) [] ?_ ?_
    · rintro _u _
      dsimp only [List.cons_append, List.nil_append]
      refine XK.region rfl ?_
      refine XO.q (Q.move rfl) ?_
      refine XO.q (Q.move rfl) ?_
      refine XO.lit [_] [_] [failAt b x i] encI (by rfl) (by rfl) rfl (by rfl) (by exact .c 0 1 rfl rfl rfl (.n _)) (fun _ => rfl) (by rfl) rfl (by infer_instance) rfl fun v32 h32 O32 => ?_
      refine XO.append rfl rfl rfl rfl (by first | omega | (simp; omega)) fun v33 h33 O33 => ?_
      refine XO.q (Q.assign rfl) ?_
      refine XO.done ?_
      refine XK.inBlock ?_
      refine XK.region rfl ?_
      refine XO.q (Q.add rfl rfl ⟨by omega, by omega⟩) ?_
      refine XO.q (Q.move rfl) ?_
      refine XO.done ?_
      exact ih0 (i + 1, v33, h33) _ _ ⟨by dsimp only; omega, O33⟩ (by first | omega | (dsimp only; omega)) (.c rfl (.c rfl (.base 58 rfl rfl))) inferInstance
    · intro mt1
      dsimp only [List.cons_append, List.nil_append] at mt1
      refine XK.if rfl (fun c1 => ?_) (fun c1 => ?_)
      · have _t1 := True.intro
        refine XK.drawn [0, 1, 2, 3, 4, 5, 6, 7, 8, 9] [b7] [] (.q 0 (.q 1 (.q 2 (.q 3 (.q 4 (.q 5 (.q 6 (.q 7 (.q 8 (.q 9 .done)))))))))) Try.mixed rfl (by kernel_rfl) ?_
        refine XT.q rfl rfl (Q.move rfl) ?_
        refine XT.q rfl rfl (Q.move rfl) ?_
        refine XT.ix rfl rfl rfl rfl (by omega) (by omega) fun i23 => ?_
        refine XT.q rfl rfl (Q.ldE rfl (by first | assumption | omega) rfl) ?_
        refine XT.q rfl rfl (Q.conv rfl) ?_
        rw [wrap64_of ⟨by omega, by omega⟩]
        refine XT.q rfl rfl (Q.fieldAddr rfl) ?_
        refine XT.q rfl rfl (Q.ld rfl rfl) ?_
        refine XT.q rfl rfl (Q.add rfl rfl ⟨by omega, by omega⟩) ?_
        refine XT.q rfl rfl (Q.rem rfl rfl (by omega) (by omega)) ?_
        rw [show (((x.getD i default).toNat : Nat) : Int) % ((b.gens.getD i default).tries + 1) = failAt b x i by rw [failAt, if_pos (by omega)]; rfl]
        refine XT.q rfl rfl (Q.assign rfl) ?_
        refine XT.done ?_
        exact mt1 (()) _ _ trivial (.c rfl (.base 10 rfl rfl)) inferInstance
      · have _t1 := True.intro
        refine XK.skip ?_
        rw [show failAt b x i = 0 by rw [failAt, if_neg (by omega)]] at mt1
        exact mt1 (()) _ _ trivial (.c rfl (.base 0 rfl rfl)) inferInstance
  · have _t0 := True.intro
    have hin : i = b.gens.length := by omega
    refine XK.exit rfl ?_
    refine XK.seq ?_
    refine XK.region rfl ?_
    refine XO.q (Q.move rfl) ?_
    refine XO.q (Q.assign rfl) ?_
    refine XO.done ?_
    refine XK.rt [kf] Try.func29 Try.results29 (.t rfl .n) ?_
    subst hin
    exact ⟨kf, rfl, OF⟩
theorem later06 (a c : Int) : Spec Try.prog 33 #[.int .i64 a, .int .i64 c] [] [] (fun v hs => v = .bool (laterP a c) ∧ hs = []) := by
  refine Spec.intro (fn := Try.f33) (N := 16) Try.func33 rfl Try.ntmps33 rfl fun B => ?_
  refine XK.seq ?_
  refine XK.region rfl ?_
  refine XO.q (Q.assign rfl) ?_
  refine XO.done ?_
  refine XK.seq ?_
  refine XK.region rfl ?_
  refine XO.q (Q.move rfl) ?_
  refine XO.q (Q.lss rfl rfl) ?_
  refine XO.q (Q.move rfl) ?_
  refine XO.q (Quiet.guardF rfl rfl fun g8 p8 => Q.move rfl) ?_
  refine XO.q (Quiet.guardF rfl rfl fun g9 p9 => Q.geq (lzv g9 rfl) rfl) ?_
  refine XO.q (Quiet.guardF rfl rfl fun g10 p10 => Q.move (lzv g10 rfl)) ?_
  refine XO.q (Quiet.guard2 rfl rfl fun g11a g11b => have p11a := bpF g11a; have p11b := bpT g11b; Q.move rfl) ?_
  refine XO.q (Quiet.guard2 rfl rfl fun g12a g12b => have p12a := bpF g12a; have p12b := bpT g12b; Q.move rfl) ?_
  refine XO.q (Quiet.guard2 rfl rfl fun g13a g13b => have p13a := bpF g13a; have p13b := bpT g13b; Q.geq (lzv g13b (lzv g13a rfl)) (lzv g13b (lzv g13a rfl))) ?_
  refine XO.q (Quiet.guardF rfl rfl fun g14 p14 => Q.and (lzv g14 rfl) (fun hp => (lzv hp (lzv g14 rfl)))) ?_
  refine XO.q (Q.or rfl (fun hp => lzv hp rfl)) ?_
  refine XO.q (Q.assign rfl) ?_
  refine XO.done ?_
  refine XK.rt [] Try.func33 Try.results33 (.t rfl .n) ?_
  exact ⟨rfl, rfl⟩
end Go.X

set_option linter.unusedSimpArgs false
set_option linter.unusedVariables false
set_option maxRecDepth 20000
namespace Go.X
open Go.Proofs
theorem take_getL {α : Type} {l : List α} {n : Nat} (h : l.length ≤ n) : l.take n = l := List.take_of_length_le h
theorem sameInts (va vb : Value) (ha hb : PHeap) (a b : List Int) [ia : Arr va encI 1 ha a] [ib : Arr vb encI 1 hb b] : Spec Try.prog 37 #[va, vb] [] [ha, hb] (fun v hs => v = .bool (decide (a = b)) ∧ hs = []) := by
  have la := ia.le
  refine Spec.intro (fn := Try.f37) (N := 26) Try.func37 rfl Try.ntmps37 rfl fun B => ?_
  refine XK.seq ?_
  refine XK.region rfl ?_
  refine XO.q (Q.assign rfl) ?_
  refine XO.done ?_
  refine XK.seq ?_
  refine XK.seq ?_
  refine XK.region rfl ?_
  refine XO.q (Q.move rfl) ?_
  refine XO.len rfl fun l7 => ?_
  refine XO.q (Q.move rfl) ?_
  refine XO.len rfl fun l9 => ?_
  refine XO.q (Q.neq rfl rfl) ?_
  refine XO.done ?_
  refine XK.if rfl (fun c0 => ?_) (fun c0 => ?_)
  · have _t0 := True.intro
    refine XK.seq ?_
    refine XK.region rfl ?_
    refine XO.q (Q.assign rfl) ?_
    refine XO.done ?_
    refine XK.rt [] Try.func37 Try.results37 (.t rfl .n) ?_
    exact ⟨by rw [decide_eq_false (fun h => c0 (by rw [h]))], rfl⟩
  · have _t0 := True.intro
    refine XK.skip ?_
    refine XK.seq ?_
    refine XK.seq ?_
    refine XK.region rfl ?_
    refine XO.q (Q.assign rfl) ?_
    refine XO.done ?_
    refine XK.block ?_
    refine XK.while (X := Nat) [4, 5, 11, 12, 13, 14, 15, 16, 17, 18, 19, 20, 21, 22, 23, 24, 25] (fun i => [(5, some (.int .i64 (i : Nat)))]) (fun i => []) (fun i => i ≤ a.length ∧ a.take i = b.take i) (fun i => a.length - i) (0) [] rfl ⟨by omega, rfl⟩ (.c rfl (.base 0 rfl rfl)) ?_
    rintro i ⟨hi, ht⟩ ih0
    dsimp only [List.cons_append, List.nil_append] at ih0 ⊢
    refine XK.seq ?_
    refine XK.seq ?_
    refine XK.region rfl ?_
    refine XO.q (Q.move rfl) ?_
    refine XO.q (Q.move rfl) ?_
    refine XO.len rfl fun l13 => ?_
    refine XO.q (Q.lss rfl rfl) ?_
    refine XO.done ?_
    refine XK.if rfl (fun c1 => ?_) (fun c1 => ?_)
    · have _t1 := True.intro
      refine XK.skip ?_
      refine XK.seq ?_
      refine XK.block ?_
      refine XK.seq ?_
      refine XK.drawn [0, 1, 2, 3, 4, 5, 6, 7, 8] [] [] (.q 0 (.q 1 (.q 2 (.q 3 (.q 4 (.q 5 (.q 6 (.q 7 (.q 8 .done))))))))) Try.mixed rfl (by kernel_rfl) ?_
      refine XT.q rfl rfl (Q.move rfl) ?_
      refine XT.q rfl rfl (Q.move rfl) ?_
      refine XT.ix rfl rfl rfl rfl (by omega) (by omega) fun i19 => ?_
      refine XT.q rfl rfl (Q.ldE rfl (by first | assumption | omega) rfl) ?_
      refine XT.q rfl rfl (Q.move rfl) ?_
      refine XT.q rfl rfl (Q.move rfl) ?_
      refine XT.ix rfl rfl rfl rfl (by omega) (by omega) fun i23 => ?_
      refine XT.q rfl rfl (Q.ldE rfl (by first | assumption | omega) rfl) ?_
      refine XT.q rfl rfl (Q.neq rfl rfl) ?_
      refine XT.done ?_
      refine XK.if rfl (fun c2 => ?_) (fun c2 => ?_)
      · have _t2 := True.intro
        refine XK.seq ?_
        refine XK.region rfl ?_
        refine XO.q (Q.assign rfl) ?_
        refine XO.done ?_
        refine XK.rt [] Try.func37 Try.results37 (.t rfl .n) ?_
        exact ⟨by rw [decide_eq_false (fun h => c2 (by rw [h]))], rfl⟩
      · have _t2 := True.intro
        refine XK.skip ?_
        refine XK.inBlock ?_
        refine XK.region rfl ?_
        refine XO.q (Q.move rfl) ?_
        refine XO.q (Q.add rfl rfl ⟨by omega, by omega⟩) ?_
        refine XO.q (Q.assign rfl) ?_
        refine XO.done ?_
        exact ih0 (i + 1) _ _ ⟨by omega, take_step ht (by omega) (by omega) (Decidable.of_not_not c2)⟩ (by first | omega | (dsimp only; omega)) (.c rfl (.base 34 rfl rfl)) inferInstance
    · have _t1 := True.intro
      refine XK.exit rfl ?_
      refine XK.seq ?_
      refine XK.region rfl ?_
      refine XO.q (Q.assign rfl) ?_
      refine XO.done ?_
      refine XK.rt [] Try.func37 Try.results37 (.t rfl .n) ?_
      exact ⟨by rw [decide_eq_true (take_all ht c1 (by omega))], rfl⟩
set_option maxHeartbeats 2000000 in
set_option synthInstance.maxSize 1000 in
theorem BankBalance_spec (v0 : Value) (h0 : PHeap) (x0 : List UInt8) [i0 : Arr v0 encU8 1 h0 x0] (v1 : Value) (h1 : PHeap) (x1 : List UInt8) [i1 : Arr v1 encU8 1 h1 x1] (v2 : Value) (h2 : PHeap) (x2 : List UInt8) [i2 : Arr v2 encU8 1 h2 x2] : Spec Try.prog 8 #[v0, v1, v2] [] [h0, h1, h2] (fun v hs => v = .bool true ∧ hs = []) := by
  refine Spec.intro (fn := Try.f8) (N := 198) Try.func8 rfl Try.ntmps8 rfl fun B => ?_
  refine XK.seq ?_
  refine XK.region rfl ?_
  refine XO.q (Q.assign rfl) ?_
  refine XO.done ?_
  refine XK.seq ?_
  refine XK.region rfl ?_
  refine XO.q (Q.move rfl) ?_
  refine XO.call Try.call28 rfl rfl rfl (made06 v0 h0 x0) fun v29 s29 R29 => ?_
  obtain ⟨vb, vg, kb, kg, rfl, rfl, OB, OG⟩ := R29
  dsimp only [List.cons_append, List.nil_append]
  obtain ⟨b, eb⟩ : ∃ b, b = madeP x0 := ⟨_, rfl⟩
  obtain ⟨ok, nb4, ng3⟩ := made_ok x0
  rw [← eb] at OB OG ok nb4 ng3
  clear eb
  refine XO.alloc fun b7 => ?_
  refine XO.st rfl rfl rfl ?_
  refine XO.done ?_
  refine XK.seq ?_
  refine XK.drawn [0, 2, 3, 5, 6] [b7] [] (.q 0 (.q 2 (.q 3 (.br 1 true (.br 4 true (.q 5 (.q 6 .done)) .stop) .stop)))) Try.mixed rfl (by kernel_rfl) ?_
  refine XT.q rfl rfl (Q.move rfl) ?_
  refine XT.q rfl rfl (Q.ldA [_, _] rfl rfl rfl) ?_
  refine XT.q rfl rfl (Q.move rfl) ?_
  refine XT.call rfl rfl Try.call31 rfl rfl rfl (loaded06 v1 h1 x1) (fun v31 s31 R31 => ?_) XT.stop
  obtain ⟨kl, rfl, OL⟩ := R31
  dsimp only [List.cons_append, List.nil_append]
  refine ⟨inferInstance, ?_⟩
  obtain ⟨l, el⟩ : ∃ l, l = loadP x1 := ⟨_, rfl⟩
  obtain ⟨lk, lsp, l8, lp⟩ := load_ok x1
  rw [← el] at OL lk lsp l8 lp
  have hw := pwOk lk
  clear el
  refine XT.call rfl rfl Try.call29 rfl rfl rfl (failed06 b vb vg kb kg ok v2 h2 x2) (fun v34 s34 R34 => ?_) XT.stop
  obtain ⟨kf, rfl, OF⟩ := R34
  dsimp only [List.cons_append, List.nil_append]
  refine ⟨inferInstance, ?_⟩
  obtain ⟨f, ef⟩ : ∃ f, f = failP b x2 := ⟨_, rfl⟩
  have fk := fail_ok ok x2
  rw [← ef] at OF fk
  clear ef
  refine XT.q rfl rfl (Q.assign rfl) ?_
  refine XT.q rfl rfl (Q.assign rfl) ?_
  refine XT.done ?_
  refine XK.seq ?_
  refine XK.region rfl ?_
  have rd : readyP b l f = 0 := readyP_iff.2 ⟨ok, lk, fk⟩
  refine XO.q (Q.ldA [_, _] rfl rfl rfl) ?_
  refine XO.q (Q.move rfl) ?_
  refine XO.q (Q.move rfl) ?_
  refine XO.call Try.call30 rfl rfl rfl (Run_spec b vb vg kb kg l v31 kl f v34 kf) fun v39 s39 R39 => ?_
  obtain ⟨ve, vn, ke, kn, rfl, rfl, OE, ON⟩ := R39
  dsimp only [List.cons_append, List.nil_append]
  rw [if_pos rd] at OE ON
  rw [rd, if_pos rfl]
  obtain ⟨r, er⟩ : ∃ r, r = runP b (powers l) f := ⟨_, rfl⟩
  rw [← er] at OE ON ⊢
  refine XO.q (Q.move rfl) ?_
  refine XO.q (Q.extract rfl rfl) ?_
  refine XO.q (Q.extract rfl rfl) ?_
  refine XO.alloc fun b10 => ?_
  refine XO.st rfl rfl rfl ?_
  refine XO.q (Q.assign rfl) ?_
  refine XO.done ?_
  refine XK.seq ?_
  refine XK.region rfl ?_
  refine XO.q (Q.ldA [_, _] rfl rfl rfl) ?_
  refine XO.q (Q.move rfl) ?_
  refine XO.q (Q.move rfl) ?_
  refine XO.call Try.call36 rfl rfl rfl (Trace_spec b vb vg kb kg l v31 kl f v34 kf) fun v46 s46 R46 => ?_
  obtain ⟨vo, ho, us, K, rfl, rfl, OO, RR⟩ := R46
  dsimp only [List.cons_append, List.nil_append]
  rw [if_pos rd] at RR
  rw [rd]
  refine XO.q (Q.move rfl) ?_
  obtain ⟨L1, L2, L3, L4⟩ := balance_law ok fk hw
  obtain ⟨⟨R1, R2⟩, ⟨R3, R4⟩, R5, R6, R7, R8⟩ := run_rng ok fk hw
  have tl := trace_len b (powers l) f
  have eo := end_ok b (powers l) f
  have ur := RR.1
  have rok := fun i j hi hj => row_ok (i := i) (j := j) ok fk hw hi hj
  have dk : r.dark = darkP b (powers l) f := by rw [er]; rfl
  have tla := fun h => trace_last (b := b) (pw := powers l) (fs := f) h
  rw [← er] at L1 L2 L3 L4 R1 R2 R3 R4 R5 R6 R7 R8 tla
  rw [← dk] at eo
  have cl := cnt_all l
  have bb := fun j (hj : j < b.bats.length) => (ok.bat _ (getD_memB hj))
  have al : 0 < us.length → Arr (us.getD ((us.length : Int) - 1).toNat default) encI 1 K ((traceP b (powers l) f).getD ((us.length : Int) - 1).toNat default) := fun h => RR.2 _ (by omega)
  have w20 := hw.n
  refine XO.q (Q.extract rfl rfl) ?_
  refine XO.q (Q.extract rfl rfl) ?_
  refine XO.q (Q.assign rfl) ?_
  refine XO.q (Q.assign rfl) ?_
  refine XO.done ?_
  refine XK.seq ?_
  refine XK.seq ?_
  refine XK.region rfl ?_
  refine XO.q (Q.move rfl) ?_
  refine XO.q (Q.neq rfl rfl) ?_
  refine XO.q (Q.move rfl) ?_
  refine XO.q (Quiet.guardF rfl rfl fun g52 p52 => Q.move rfl) ?_
  refine XO.q (Quiet.guardF rfl rfl fun g53 p53 => Q.neq (lzv g53 rfl) rfl) ?_
  refine XO.q (Q.or rfl (fun hp => lzv hp rfl)) ?_
  refine XO.q (Q.move rfl) ?_
  refine XO.q (Quiet.guardF rfl rfl fun g56 p56 => Q.fieldAddr rfl) ?_
  refine XO.q (Quiet.guardF rfl rfl fun g57 p57 => Q.ld (lzv g57 rfl) rfl) ?_
  refine XO.q (Quiet.guardF rfl rfl fun g58 p58 => Q.len (lzv g58 rfl)) ?_
  refine XO.q (Quiet.guardF rfl rfl fun g59 p59 => Q.fieldAddr rfl) ?_
  refine XO.q (Quiet.guardF rfl rfl fun g60 p60 => Q.ld (lzv g60 rfl) rfl) ?_
  refine XO.q (Quiet.guardF rfl rfl fun g61 p61 => Q.len (lzv g61 rfl)) ?_
  refine XO.q (Quiet.guardF rfl rfl fun g62 p62 => Q.neq (lzv g62 rfl) (lzv g62 rfl)) ?_
  refine XO.q (Q.or rfl (fun hp => lzv hp rfl)) ?_
  refine XO.q (Q.move rfl) ?_
  refine XO.q (Quiet.guardF rfl rfl fun g65 p65 => Q.fieldAddr rfl) ?_
  refine XO.q (Quiet.guardF rfl rfl fun g66 p66 => Q.ld (lzv g66 rfl) rfl) ?_
  refine XO.q (Quiet.guardF rfl rfl fun g67 p67 => Q.len (lzv g67 rfl)) ?_
  refine XO.q (Quiet.guardF rfl rfl fun g68 p68 => Q.fieldAddr rfl) ?_
  refine XO.q (Quiet.guardF rfl rfl fun g69 p69 => Q.ld (lzv g69 rfl) rfl) ?_
  refine XO.q (Quiet.guardF rfl rfl fun g70 p70 => Q.len (lzv g70 rfl)) ?_
  refine XO.q (Quiet.guardF rfl rfl fun g71 p71 => Q.neq (lzv g71 rfl) (lzv g71 rfl)) ?_
  refine XO.q (Q.or rfl (fun hp => lzv hp rfl)) ?_
  refine XO.done ?_
  refine XK.if rfl (fun c0 => ?_) (fun c0 => ?_)
  · have _t0 := True.intro
    exact absurd c0 (by omega)
  · have _t0 := True.intro
    refine XK.skip ?_
    refine XK.seq ?_
    refine XK.region rfl ?_
    refine XO.q (Q.fieldAddr rfl) ?_
    refine XO.q (Q.ld rfl rfl) ?_
    refine XO.q (Q.assign rfl) ?_
    refine XO.done ?_
    refine XK.seq ?_
    refine XK.seq ?_
    refine XK.region rfl ?_
    refine XO.q (Q.fieldAddr rfl) ?_
    refine XO.q (Q.ld rfl rfl) ?_
    refine XO.len rfl fun l77 => ?_
    refine XO.q (Q.move rfl) ?_
    refine XO.done ?_
    refine XK.block ?_
    refine XK.while (X := Nat) [14, 15, 16, 78, 79, 80, 81, 82, 83, 84, 85, 86, 87, 88, 89, 90, 91, 92, 93] (fun i => [(78, some (.int .i64 (i : Nat))), (14, some (.int .i64 (accI r.served (fun j => r.energy.getD j default - (b.bats.getD j default).energy) (i))))]) (fun i => []) (fun i => i ≤ b.bats.length) (fun i => b.bats.length - i) (0) [] rfl (by omega) (.c rfl (.c rfl (.base 0 rfl rfl))) ?_
    rintro i hi ih0
    dsimp only [List.cons_append, List.nil_append] at ih0 ⊢
    refine XK.seq ?_
    refine XK.region rfl ?_
    refine XO.q (Q.lss rfl rfl) ?_
    refine XO.done ?_
    refine XK.seq ?_
    refine XK.if rfl (fun c1 => ?_) (fun c1 => ?_)
    · have _t1 := True.intro
      have bi := bb i (by omega)
      have b1 := bi.e0
      have b2 := bi.ef
      have b3 := bi.f1
      have ei := R5 i (by omega)
      have ac := accI_rng (s := r.served) (f := fun j => r.energy.getD j default - (b.bats.getD j default).energy) (B := 100000000000) (by decide) i (fun j hj => by have q := bb j (by omega); have q1 := q.e0; have q2 := q.ef; have q3 := q.f1; have q4 := R5 j (by omega); (try dsimp only); omega)
      refine XK.skip ?_
      refine XK.seq ?_
      refine XK.block ?_
      refine XK.seq ?_
      refine XK.region rfl ?_
      refine XO.q (Q.move rfl) ?_
      refine XO.ix rfl rfl (by omega) (by omega) fun i81 => ?_
      refine XO.q (Q.ldEA [_, _, _, _] rfl (by first | assumption | omega) rfl rfl) ?_
      refine XO.alloc fun b16 => ?_
      refine XO.q (Q.assign rfl) ?_
      refine XO.st rfl rfl rfl ?_
      refine XO.done ?_
      refine XK.drawn [0, 1, 2, 3, 4, 5, 6, 7, 8, 9, 10] [b10, b16] [ke] (.q 0 (.q 1 (.q 2 (.q 3 (.q 4 (.q 5 (.q 6 (.q 7 (.q 8 (.q 9 (.q 10 .done))))))))))) Try.mixed rfl (by kernel_rfl) ?_
      refine XT.q rfl rfl (Q.move rfl) ?_
      refine XT.q rfl rfl (Q.fieldAddr rfl) ?_
      refine XT.q rfl rfl (Q.ld rfl rfl) ?_
      refine XT.q rfl rfl (Q.move rfl) ?_
      refine XT.ix rfl rfl rfl rfl (by omega) (by omega) fun i87 => ?_
      refine XT.q rfl rfl (Q.ldE rfl (by first | assumption | omega) rfl) ?_
      refine XT.q rfl rfl (Q.fieldAddr rfl) ?_
      refine XT.q rfl rfl (Q.ld rfl rfl) ?_
      refine XT.q rfl rfl (Q.sub rfl rfl ⟨by omega, by omega⟩) ?_
      refine XT.q rfl rfl (Q.add rfl rfl ⟨by omega, by omega⟩) ?_
      refine XT.q rfl rfl (Q.assign rfl) ?_
      refine XT.done ?_
      refine XK.inBlock ?_
      refine XK.region rfl ?_
      refine XO.q (Q.add rfl rfl ⟨by omega, by omega⟩) ?_
      refine XO.q (Q.move rfl) ?_
      refine XO.done ?_
      exact ih0 (i + 1) _ _ (by omega) (by first | omega | (dsimp only; omega)) (.c rfl (.c rfl (.base 40 rfl rfl))) inferInstance
    · have _t1 := True.intro
      have hil : i = b.bats.length := by omega
      subst hil
      clear ih0
      have ac := accI_rng (s := r.served) (f := fun j => r.energy.getD j default - (b.bats.getD j default).energy) (B := 100000000000) (by decide) b.bats.length (fun j hj => by have q := bb j (by omega); have q1 := q.e0; have q2 := q.ef; have q3 := q.f1; have q4 := R5 j (by omega); (try dsimp only); omega)
      refine XK.exit rfl ?_
      refine XK.seq ?_
      refine XK.seq ?_
      refine XK.region rfl ?_
      refine XO.q (Q.fieldAddr rfl) ?_
      refine XO.q (Q.ld rfl rfl) ?_
      refine XO.len rfl fun l96 => ?_
      refine XO.q (Q.move rfl) ?_
      refine XO.done ?_
      refine XK.block ?_
      refine XK.while (X := Nat) [14, 18, 97, 98, 99, 100, 101, 102, 103, 104] (fun i => [(97, some (.int .i64 (i : Nat))), (14, some (.int .i64 (decI (accI r.served (fun j => r.energy.getD j default - (b.bats.getD j default).energy) (b.bats.length)) (fun j => r.burnt.getD j default) (i))))]) (fun i => []) (fun i => i ≤ b.gens.length) (fun i => b.gens.length - i) (0) [] rfl (by omega) (.c rfl (.c rfl (.base 0 rfl rfl))) ?_
      rintro i hi ih1
      dsimp only [List.cons_append, List.nil_append] at ih1 ⊢
      refine XK.seq ?_
      refine XK.region rfl ?_
      refine XO.q (Q.lss rfl rfl) ?_
      refine XO.done ?_
      refine XK.seq ?_
      refine XK.if rfl (fun c2 => ?_) (fun c2 => ?_)
      · have _t2 := True.intro
        have bi := R6 i (by omega)
        have ad := decI_rng (s := (accI r.served (fun j => r.energy.getD j default - (b.bats.getD j default).energy) (b.bats.length))) (f := fun j => r.burnt.getD j default) (B := 20000000000) (by decide) i (fun j hj => by have q4 := R6 j (by omega); (try dsimp only); omega)
        refine XK.skip ?_
        refine XK.seq ?_
        refine XK.block ?_
        refine XK.seq ?_
        refine XK.region rfl ?_
        refine XO.ix rfl rfl (by omega) (by omega) fun i99 => ?_
        refine XO.q (Q.ldE rfl (by first | assumption | omega) rfl) ?_
        refine XO.q (Q.assign rfl) ?_
        refine XO.done ?_
        refine XK.region rfl ?_
        refine XO.q (Q.move rfl) ?_
        refine XO.q (Q.move rfl) ?_
        refine XO.q (Q.sub rfl rfl ⟨by omega, by omega⟩) ?_
        refine XO.q (Q.assign rfl) ?_
        refine XO.done ?_
        refine XK.inBlock ?_
        refine XK.region rfl ?_
        refine XO.q (Q.add rfl rfl ⟨by omega, by omega⟩) ?_
        refine XO.q (Q.move rfl) ?_
        refine XO.done ?_
        exact ih1 (i + 1) _ _ (by omega) (by first | omega | (dsimp only; omega)) (.c rfl (.c rfl (.base 22 rfl rfl))) inferInstance
      · have _t2 := True.intro
        have hil : i = b.gens.length := by omega
        subst hil
        clear ih1
        refine XK.exit rfl ?_
        refine XK.seq ?_
        refine XK.region rfl ?_
        refine XO.q (Q.assign rfl) ?_
        refine XO.q (Q.assign rfl) ?_
        refine XO.done ?_
        refine XK.seq ?_
        refine XK.seq ?_
        refine XK.region rfl ?_
        refine XO.q (Q.move rfl) ?_
        refine XO.len rfl fun l106 => ?_
        refine XO.q (Q.move rfl) ?_
        refine XO.done ?_
        refine XK.block ?_
        refine XK.while (X := Nat) [19, 20, 22, 107, 108, 109, 110, 111, 112, 113, 114, 115, 116, 117, 118, 119, 120, 121, 122, 123, 124, 125, 126, 127, 128, 129, 130, 131] (fun i => [(107, some (.int .i64 (i : Nat))), (20, some (.int .i64 ((cnt l i : Nat) : Int))), (19, some (.int .i64 (accI 0 (fun j => if r.dark < 0 ∨ (j : Int) < r.dark then (powers l).getD j default else 0) (cnt l i))))]) (fun i => []) (fun i => i ≤ l.length) (fun i => l.length - i) (0) [] rfl (by omega) (.c rfl (.c rfl (.c rfl (.base 0 rfl rfl)))) ?_
        rintro i hi ih2
        dsimp only [List.cons_append, List.nil_append] at ih2 ⊢
        refine XK.seq ?_
        refine XK.region rfl ?_
        refine XO.q (Q.lss rfl rfl) ?_
        refine XO.done ?_
        refine XK.seq ?_
        refine XK.if rfl (fun c3 => ?_) (fun c3 => ?_)
        · have _t3 := True.intro
          have sk := lk.s _ (getD_memB (show i < l.length by omega))
          refine XK.skip ?_
          refine XK.seq ?_
          refine XK.block ?_
          refine XK.seq ?_
          refine XK.region rfl ?_
          refine XO.ix rfl rfl (by omega) (by omega) fun i109 => ?_
          refine XO.q (Q.ldEA [_, _] rfl (by first | assumption | omega) rfl rfl) ?_
          refine XO.alloc fun b22 => ?_
          refine XO.st rfl rfl rfl ?_
          refine XO.done ?_
          refine XK.seq ?_
          refine XK.region rfl ?_
          refine XO.q (Q.fieldAddr rfl) ?_
          refine XO.q (Q.ld rfl rfl) ?_
          refine XO.q (Q.move rfl) ?_
          refine XO.done ?_
          refine XK.block ?_
          refine XK.while (X := Nat) [19, 20, 113, 114, 115, 116, 117, 118, 119, 120, 121, 122, 123, 124, 125, 126, 127, 128, 129, 130] (fun j => [(113, some (.int .i64 (j : Nat))), (20, some (.int .i64 (((cnt l i + j : Nat)) : Int))), (19, some (.int .i64 (accI 0 (fun j => if r.dark < 0 ∨ (j : Int) < r.dark then (powers l).getD j default else 0) (cnt l i + j))))]) (fun j => []) (fun j => (j : Int) ≤ (l.getD i default).seconds) (fun j => (l.getD i default).seconds.toNat - j) (0) [] rfl (by omega) (.c rfl (.c rfl (.c rfl (.base 0 rfl rfl)))) ?_
          rintro j hj ih3
          dsimp only [List.cons_append, List.nil_append] at ih3 ⊢
          refine XK.seq ?_
          refine XK.region rfl ?_
          refine XO.q (Q.lss rfl rfl) ?_
          refine XO.done ?_
          refine XK.seq ?_
          refine XK.if rfl (fun c4 => ?_) (fun c4 => ?_)
          · have _t4 := True.intro
            obtain ⟨hp1, hp2⟩ := powers_at l (i := i) (j := j) (by omega) (by omega)
            have aw := accI_rng (s := 0) (f := (fun j => if r.dark < 0 ∨ (j : Int) < r.dark then (powers l).getD j default else 0)) (B := 1000000) (by decide) (cnt l i + j) (fun q hq => by have q1 := hw.p q (by omega); (try dsimp only); split <;> omega)
            have as3 := show (accI 0 (fun j => if r.dark < 0 ∨ (j : Int) < r.dark then (powers l).getD j default else 0) (cnt l i + j + 1)) = (accI 0 (fun j => if r.dark < 0 ∨ (j : Int) < r.dark then (powers l).getD j default else 0) (cnt l i + j)) + (if r.dark < 0 ∨ (((cnt l i + j : Nat)) : Int) < r.dark then (powers l).getD (cnt l i + j) default else 0) from rfl
            rw [hp2] at as3
            refine XK.skip ?_
            refine XK.seq ?_
            refine XK.block ?_
            refine XK.seq ?_
            refine XK.seq ?_
            refine XK.region rfl ?_
            refine XO.q (Q.fieldAddr rfl) ?_
            refine XO.q (Q.ld rfl rfl) ?_
            refine XO.q (Q.lss rfl rfl) ?_
            refine XO.q (Q.move rfl) ?_
            refine XO.q (Quiet.guardF rfl rfl fun g119 p119 => Q.move rfl) ?_
            refine XO.q (Quiet.guardF rfl rfl fun g120 p120 => Q.fieldAddr rfl) ?_
            refine XO.q (Quiet.guardF rfl rfl fun g121 p121 => Q.ld (lzv g121 rfl) rfl) ?_
            refine XO.q (Quiet.guardF rfl rfl fun g122 p122 => Q.lss (lzv g122 rfl) (lzv g122 rfl)) ?_
            refine XO.q (Q.or rfl (fun hp => lzv hp rfl)) ?_
            refine XO.done ?_
            refine XK.if rfl (fun c5 => ?_) (fun c5 => ?_)
            · have _t5 := True.intro
              refine XK.region rfl ?_
              refine XO.q (Q.move rfl) ?_
              refine XO.q (Q.fieldAddr rfl) ?_
              refine XO.q (Q.ld rfl rfl) ?_
              refine XO.q (Q.add rfl rfl ⟨by omega, by omega⟩) ?_
              refine XO.q (Q.assign rfl) ?_
              refine XO.done ?_
              refine XK.region rfl ?_
              refine XO.q (Q.move rfl) ?_
              refine XO.q (Q.add rfl rfl ⟨by omega, by omega⟩) ?_
              refine XO.q (Q.assign rfl) ?_
              refine XO.done ?_
              refine XK.inBlock ?_
              refine XK.region rfl ?_
              refine XO.q (Q.add rfl rfl ⟨by omega, by omega⟩) ?_
              refine XO.q (Q.move rfl) ?_
              refine XO.done ?_
              rw [if_pos c5] at as3
              rw [← as3]
              exact ih3 (j + 1) _ _ (by omega) (by first | omega | (dsimp only; omega)) (.c rfl (.c rfl (.c rfl (.base 43 rfl rfl)))) inferInstance
            · have _t5 := True.intro
              refine XK.skip ?_
              refine XK.region rfl ?_
              refine XO.q (Q.move rfl) ?_
              refine XO.q (Q.add rfl rfl ⟨by omega, by omega⟩) ?_
              refine XO.q (Q.assign rfl) ?_
              refine XO.done ?_
              refine XK.inBlock ?_
              refine XK.region rfl ?_
              refine XO.q (Q.add rfl rfl ⟨by omega, by omega⟩) ?_
              refine XO.q (Q.move rfl) ?_
              refine XO.done ?_
              rw [if_neg c5, Int.add_zero] at as3
              rw [← as3]
              exact ih3 (j + 1) _ _ (by omega) (by first | omega | (dsimp only; omega)) (.c rfl (.c rfl (.c rfl (.base 38 rfl rfl)))) inferInstance
          · have _t4 := True.intro
            have hjn : cnt l i + j = cnt l (i + 1) := by rw [cnt]; omega
            refine XK.exit rfl ?_
            refine XK.inBlock ?_
            refine XK.region rfl ?_
            refine XO.q (Q.add rfl rfl ⟨by omega, by omega⟩) ?_
            refine XO.q (Q.move rfl) ?_
            refine XO.done ?_
            rw [hjn]
            exact ih2 (i + 1) _ _ (by omega) (by first | omega | (dsimp only; omega)) (.c rfl (.c rfl (.c rfl (.base 64 rfl rfl)))) inferInstance
        · have _t3 := True.intro
          have hil : i = l.length := by omega
          subst hil
          clear ih2
          refine XK.exit rfl ?_
          refine XK.seq ?_
          refine XK.seq ?_
          refine XK.region rfl ?_
          refine XO.q (Q.move rfl) ?_
          refine XO.len rfl fun l133 => ?_
          refine XO.q (Q.move rfl) ?_
          refine XO.done ?_
          refine XK.block ?_
          refine XK.while (X := Nat) [6, 24, 25, 26, 134, 135, 136, 137, 138, 139, 140, 141, 142, 143, 144, 145, 146, 147, 148, 149, 150, 151, 152, 153, 154, 155, 156, 157, 158] (fun i => [(134, some (.int .i64 (i : Nat)))]) (fun i => []) (fun i => i ≤ us.length) (fun i => us.length - i) (0) [] rfl (by omega) (.c rfl (.base 0 rfl rfl)) ?_
          rintro i hi ih4
          dsimp only [List.cons_append, List.nil_append] at ih4 ⊢
          refine XK.seq ?_
          refine XK.region rfl ?_
          refine XO.q (Q.lss rfl rfl) ?_
          refine XO.done ?_
          refine XK.seq ?_
          refine XK.if rfl (fun c6 => ?_) (fun c6 => ?_)
          · have _t6 := True.intro
            have aa := RR.2 i (by omega)
            have rl := fun j hj => rok i j (by omega) hj
            have rle := row_len ok fk hw (i := i) (by omega)
            refine XK.skip ?_
            refine XK.seq ?_
            refine XK.block ?_
            refine XK.seq ?_
            refine XK.region rfl ?_
            refine XO.ix rfl rfl (by omega) (by omega) fun i136 => ?_
            refine XO.q (Q.ldE rfl (by first | assumption | omega) rfl) ?_
            refine XO.q (Q.assign rfl) ?_
            refine XO.done ?_
            refine XK.seq ?_
            refine XK.region rfl ?_
            refine XO.q (Q.move rfl) ?_
            refine XO.len rfl fun l139 => ?_
            refine XO.q (Q.move rfl) ?_
            refine XO.done ?_
            refine XK.block ?_
            refine XK.while (X := Nat) [6, 25, 26, 140, 141, 142, 143, 144, 145, 146, 147, 148, 149, 150, 151, 152, 153, 154, 155, 156, 157] (fun j => [(140, some (.int .i64 (j : Nat)))]) (fun j => []) (fun j => j ≤ ((traceP b (powers l) f).getD i default).length) (fun j => ((traceP b (powers l) f).getD i default).length - j) (0) [] rfl (by omega) (.c rfl (.base 0 rfl rfl)) ?_
            rintro j hj ih5
            dsimp only [List.cons_append, List.nil_append] at ih5 ⊢
            refine XK.seq ?_
            refine XK.region rfl ?_
            refine XO.q (Q.lss rfl rfl) ?_
            refine XO.done ?_
            refine XK.seq ?_
            refine XK.if rfl (fun c7 => ?_) (fun c7 => ?_)
            · have _t7 := True.intro
              have rw1 := (rl j (by omega))
              refine XK.skip ?_
              refine XK.seq ?_
              refine XK.block ?_
              refine XK.seq ?_
              refine XK.region rfl ?_
              refine XO.q (Q.move rfl) ?_
              refine XO.ix rfl rfl (by omega) (by omega) fun i143 => ?_
              refine XO.q (Q.ldE rfl (by first | assumption | omega) rfl) ?_
              refine XO.q (Q.assign rfl) ?_
              refine XO.q (Q.assign rfl) ?_
              refine XO.done ?_
              refine XK.seq ?_
              refine XK.region rfl ?_
              refine XO.q (Q.move rfl) ?_
              refine XO.q (Q.lss rfl rfl) ?_
              refine XO.q (Q.move rfl) ?_
              refine XO.q (Quiet.guardF rfl rfl fun g148 p148 => Q.move rfl) ?_
              refine XO.q (Quiet.guardF rfl rfl fun g149 p149 => Q.fieldAddr rfl) ?_
              refine XO.q (Quiet.guardF rfl rfl fun g150 p150 => Q.ld (lzv g150 rfl) rfl) ?_
              refine XO.q (Quiet.guardF rfl rfl fun g151 p151 => Q.move rfl) ?_
              refine XO.q (Quiet.guardF rfl rfl fun g152 p152 => Q.ix (lzv g152 rfl) (lzv g152 rfl) (by omega) (by omega)) ?_
              refine XO.q (Quiet.guardF rfl rfl fun g153 p153 => Q.fieldQ (lzv g153 rfl) (by first | assumption | omega)) ?_
              refine XO.q (Quiet.guardF rfl rfl fun g154 p154 => Q.ldE (lzv g154 rfl) (by first | assumption | omega) rfl) ?_
              refine XO.q (Quiet.guardF rfl rfl fun g155 p155 => Q.gtr (lzv g155 rfl) (lzv g155 rfl)) ?_
              refine XO.q (Q.or rfl (fun hp => lzv hp rfl)) ?_
              refine XO.done ?_
              refine XK.if rfl (fun c8 => ?_) (fun c8 => ?_)
              · have _t8 := True.intro
                exact absurd c8 (by omega)
              · have _t8 := True.intro
                refine XK.skip ?_
                refine XK.inBlock ?_
                refine XK.region rfl ?_
                refine XO.q (Q.add rfl rfl ⟨by omega, by omega⟩) ?_
                refine XO.q (Q.move rfl) ?_
                refine XO.done ?_
                exact ih5 (j + 1) _ _ (by omega) (by first | omega | (dsimp only; omega)) (.c rfl (.base 42 rfl rfl)) inferInstance
            · have _t7 := True.intro
              refine XK.exit rfl ?_
              refine XK.inBlock ?_
              refine XK.region rfl ?_
              refine XO.q (Q.add rfl rfl ⟨by omega, by omega⟩) ?_
              refine XO.q (Q.move rfl) ?_
              refine XO.done ?_
              exact ih4 (i + 1) _ _ (by omega) (by first | omega | (dsimp only; omega)) (.c rfl (.base 62 rfl rfl)) inferInstance
          · have _t6 := True.intro
            refine XK.exit rfl ?_
            refine XK.seq ?_
            refine XK.region rfl ?_
            refine XO.q (Q.move rfl) ?_
            refine XO.q (Q.assign rfl) ?_
            refine XO.done ?_
            refine XK.seq ?_
            refine XK.seq ?_
            refine XK.region rfl ?_
            refine XO.q (Q.fieldAddr rfl) ?_
            refine XO.q (Q.ld rfl rfl) ?_
            refine XO.q (Q.geq rfl rfl) ?_
            refine XO.done ?_
            refine XK.if rfl (fun c9 => ?_) (fun c9 => ?_)
            · have _t9 := True.intro
              refine XK.region rfl ?_
              refine XO.q (Q.fieldAddr rfl) ?_
              refine XO.q (Q.ld rfl rfl) ?_
              refine XO.q (Q.assign rfl) ?_
              refine XO.done ?_
              refine XK.seq ?_
              refine XK.drawn [0, 1, 2, 3, 4, 5, 6, 7, 8, 9, 10, 11, 12, 13, 14, 15, 16, 17, 18, 19, 20, 21, 22, 23, 24, 25, 26, 28, 29, 30, 32, 33] [b10] [ho] (.q 0 (.q 1 (.q 2 (.q 3 (.q 4 (.q 5 (.q 6 (.q 7 (.q 8 (.q 9 (.q 10 (.q 11 (.q 12 (.q 13 (.q 14 (.q 15 (.q 16 (.q 17 (.q 18 (.q 19 (.q 20 (.q 21 (.q 22 (.q 23 (.q 24 (.q 25 (.q 26 (.br 27 true (.q 28 (.q 29 (.q 30 (.br 31 true (.q 32 (.q 33 .done)) .stop)))) .stop)))))))))))))))))))))))))))) Try.mixed rfl (by kernel_rfl) ?_
              refine XT.q rfl rfl (Q.move rfl) ?_
              refine XT.q rfl rfl (Q.eql rfl rfl) ?_
              refine XT.q rfl rfl (Q.move rfl) ?_
              refine XT.q rfl rfl (Quiet.guardT rfl rfl fun g168 p168 => Q.move rfl) ?_
              refine XT.q rfl rfl (Quiet.guardT rfl rfl fun g169 p169 => Q.fieldAddr rfl) ?_
              refine XT.q rfl rfl (Quiet.guardT rfl rfl fun g170 p170 => Q.ld (lzv g170 rfl) rfl) ?_
              refine XT.q rfl rfl (Quiet.guardT rfl rfl fun g171 p171 => Q.eql (lzv g171 rfl) (lzv g171 rfl)) ?_
              refine XT.q rfl rfl (Q.and rfl (fun hp => lzv hp rfl)) ?_
              refine XT.q rfl rfl (Q.move rfl) ?_
              refine XT.q rfl rfl (Quiet.guardT rfl rfl fun g174 p174 => Q.move rfl) ?_
              refine XT.q rfl rfl (Quiet.guardT rfl rfl fun g175 p175 => Q.len (lzv g175 rfl)) ?_
              refine XT.q rfl rfl (Quiet.guardT rfl rfl fun g176 p176 => Q.move rfl) ?_
              refine XT.q rfl rfl (Quiet.guardT rfl rfl fun g177 p177 => Q.eql (lzv g177 rfl) (lzv g177 rfl)) ?_
              refine XT.q rfl rfl (Q.and rfl (fun hp => lzv hp rfl)) ?_
              refine XT.q rfl rfl (Q.move rfl) ?_
              refine XT.q rfl rfl (Quiet.guardT rfl rfl fun g180 p180 => Q.move rfl) ?_
              refine XT.q rfl rfl (Quiet.guardT rfl rfl fun g181 p181 => Q.len (lzv g181 rfl)) ?_
              refine XT.q rfl rfl (Quiet.guardT rfl rfl fun g182 p182 => Q.eql (lzv g182 rfl) rfl) ?_
              refine XT.q rfl rfl (Quiet.guardT rfl rfl fun g183 p183 => Q.move (lzv g183 rfl)) ?_
              refine XT.q rfl rfl (Quiet.guard2 rfl rfl fun g184a g184b => have p184a := bpT g184a; have p184b := bpF g184b; Q.move rfl) ?_
              refine XT.q rfl rfl (Quiet.guard2 rfl rfl fun g185a g185b => have p185a := bpT g185a; have p185b := bpF g185b; Q.move rfl) ?_
              refine XT.q rfl rfl (Quiet.guard2 rfl rfl fun g186a g186b => have p186a := bpT g186a; have p186b := bpF g186b; Q.len (lzv g186b (lzv g186a rfl))) ?_
              refine XT.q rfl rfl (Quiet.guard2 rfl rfl fun g187a g187b => have p187a := bpT g187a; have p187b := bpF g187b; Q.sub (lzv g187b (lzv g187a rfl)) rfl ⟨by omega, by omega⟩) ?_
              refine XT.q rfl rfl (Quiet.guard2 rfl rfl fun g188a g188b => have p188a := bpT g188a; have p188b := bpF g188b; Q.ix (lzv g188b (lzv g188a rfl)) (lzv g188b (lzv g188a rfl)) (by omega) (by omega)) ?_
              refine XT.q rfl rfl (Quiet.guard2 rfl rfl fun g189a g189b => have p189a := bpT g189a; have p189b := bpF g189b; Q.ldE (lzv g189b (lzv g189a rfl)) (by first | assumption | omega) rfl) ?_
              refine XT.q rfl rfl (Quiet.guard2 rfl rfl fun g190a g190b => have p190a := bpT g190a; have p190b := bpF g190b; Q.fieldAddr rfl) ?_
              refine XT.q rfl rfl (Quiet.guard2 rfl rfl fun g191a g191b => have p191a := bpT g191a; have p191b := bpF g191b; Q.ld (lzv g191b (lzv g191a rfl)) rfl) ?_
              refine XT.vg2 rfl rfl rfl rfl (fun g192a g192b => rfl) (fun g192a g192b => .c (lzv g192b (lzv g192a rfl)) (.c (lzv g192b (lzv g192a rfl)) .n)) (fun g192a g192b => have p192a := bpT g192a; have p192b := bpF g192b; VSpec.fn (P := Try.prog) Try.call37 rfl (by haveI := al (by omega); exact sameInts (us.getD ((us.length : Int) - 1).toNat default) ve K ke ((traceP b (powers l) f).getD ((us.length : Int) - 1).toNat default) r.energy)) ⟨inferInstance, ?_⟩ XT.stop
              refine XT.q rfl rfl (Quiet.guardT rfl rfl fun g193 p193 => Q.or (lzv g193 rfl) (fun hp => (lzv hp (lzv g193 rfl)))) ?_
              refine XT.q rfl rfl (Q.and rfl (fun hp => lzv hp rfl)) ?_
              refine XT.q rfl rfl (Q.move rfl) ?_
              refine XT.gcallT rfl rfl rfl rfl Try.call14 rfl (fun g196 => .n) rfl (fun g196 p196 => awake06) ⟨inferInstance, ?_⟩ XT.stop
              refine XT.q rfl rfl (Q.and rfl (fun hp => lzv hp rfl)) ?_
              refine XT.q rfl rfl (Q.assign rfl) ?_
              refine XT.done ?_
              refine XK.rt [] Try.func8 Try.results8 (.t rfl .n) ?_
              refine ⟨?_, rfl⟩
              have e1 : (decI (accI r.served (fun j => r.energy.getD j default - (b.bats.getD j default).energy) (b.bats.length)) (fun j => r.burnt.getD j default) (b.gens.length)) = 0 := by rw [decI_eq, accI_eq]; exact L3
              have e2 : (accI 0 (fun j => if r.dark < 0 ∨ (j : Int) < r.dark then (powers l).getD j default else 0) (cnt l l.length)) = r.served := by rw [accI_eq, cl, Int.zero_add]; exact L4
              rw [decide_eq_true e1, decide_eq_true e2, decide_eq_true (by omega), Bool.and_true, Bool.true_and, Bool.true_and]
              by_cases hz : us.length = 0
              · rw [decide_eq_true (by omega)]; rfl
              · rw [decide_eq_true (show (traceP b (powers l) f).getD ((us.length : Int) - 1).toNat default = r.energy by rw [show ((us.length : Int) - 1).toNat = endP b (powers l) f - 1 by omega]; exact tla (by omega)), Bool.or_true]; rfl
            · have _t9 := True.intro
              refine XK.skip ?_
              refine XK.seq ?_
              refine XK.drawn [0, 1, 2, 3, 4, 5, 6, 7, 8, 9, 10, 11, 12, 13, 14, 15, 16, 17, 18, 19, 20, 21, 22, 23, 24, 25, 26, 28, 29, 30, 32, 33] [b10] [ho] (.q 0 (.q 1 (.q 2 (.q 3 (.q 4 (.q 5 (.q 6 (.q 7 (.q 8 (.q 9 (.q 10 (.q 11 (.q 12 (.q 13 (.q 14 (.q 15 (.q 16 (.q 17 (.q 18 (.q 19 (.q 20 (.q 21 (.q 22 (.q 23 (.q 24 (.q 25 (.q 26 (.br 27 true (.q 28 (.q 29 (.q 30 (.br 31 true (.q 32 (.q 33 .done)) .stop)))) .stop)))))))))))))))))))))))))))) Try.mixed rfl (by kernel_rfl) ?_
              refine XT.q rfl rfl (Q.move rfl) ?_
              refine XT.q rfl rfl (Q.eql rfl rfl) ?_
              refine XT.q rfl rfl (Q.move rfl) ?_
              refine XT.q rfl rfl (Quiet.guardT rfl rfl fun g168 p168 => Q.move rfl) ?_
              refine XT.q rfl rfl (Quiet.guardT rfl rfl fun g169 p169 => Q.fieldAddr rfl) ?_
              refine XT.q rfl rfl (Quiet.guardT rfl rfl fun g170 p170 => Q.ld (lzv g170 rfl) rfl) ?_
              refine XT.q rfl rfl (Quiet.guardT rfl rfl fun g171 p171 => Q.eql (lzv g171 rfl) (lzv g171 rfl)) ?_
              refine XT.q rfl rfl (Q.and rfl (fun hp => lzv hp rfl)) ?_
              refine XT.q rfl rfl (Q.move rfl) ?_
              refine XT.q rfl rfl (Quiet.guardT rfl rfl fun g174 p174 => Q.move rfl) ?_
              refine XT.q rfl rfl (Quiet.guardT rfl rfl fun g175 p175 => Q.len (lzv g175 rfl)) ?_
              refine XT.q rfl rfl (Quiet.guardT rfl rfl fun g176 p176 => Q.move rfl) ?_
              refine XT.q rfl rfl (Quiet.guardT rfl rfl fun g177 p177 => Q.eql (lzv g177 rfl) (lzv g177 rfl)) ?_
              refine XT.q rfl rfl (Q.and rfl (fun hp => lzv hp rfl)) ?_
              refine XT.q rfl rfl (Q.move rfl) ?_
              refine XT.q rfl rfl (Quiet.guardT rfl rfl fun g180 p180 => Q.move rfl) ?_
              refine XT.q rfl rfl (Quiet.guardT rfl rfl fun g181 p181 => Q.len (lzv g181 rfl)) ?_
              refine XT.q rfl rfl (Quiet.guardT rfl rfl fun g182 p182 => Q.eql (lzv g182 rfl) rfl) ?_
              refine XT.q rfl rfl (Quiet.guardT rfl rfl fun g183 p183 => Q.move (lzv g183 rfl)) ?_
              refine XT.q rfl rfl (Quiet.guard2 rfl rfl fun g184a g184b => have p184a := bpT g184a; have p184b := bpF g184b; Q.move rfl) ?_
              refine XT.q rfl rfl (Quiet.guard2 rfl rfl fun g185a g185b => have p185a := bpT g185a; have p185b := bpF g185b; Q.move rfl) ?_
              refine XT.q rfl rfl (Quiet.guard2 rfl rfl fun g186a g186b => have p186a := bpT g186a; have p186b := bpF g186b; Q.len (lzv g186b (lzv g186a rfl))) ?_
              refine XT.q rfl rfl (Quiet.guard2 rfl rfl fun g187a g187b => have p187a := bpT g187a; have p187b := bpF g187b; Q.sub (lzv g187b (lzv g187a rfl)) rfl ⟨by omega, by omega⟩) ?_
              refine XT.q rfl rfl (Quiet.guard2 rfl rfl fun g188a g188b => have p188a := bpT g188a; have p188b := bpF g188b; Q.ix (lzv g188b (lzv g188a rfl)) (lzv g188b (lzv g188a rfl)) (by omega) (by omega)) ?_
              refine XT.q rfl rfl (Quiet.guard2 rfl rfl fun g189a g189b => have p189a := bpT g189a; have p189b := bpF g189b; Q.ldE (lzv g189b (lzv g189a rfl)) (by first | assumption | omega) rfl) ?_
              refine XT.q rfl rfl (Quiet.guard2 rfl rfl fun g190a g190b => have p190a := bpT g190a; have p190b := bpF g190b; Q.fieldAddr rfl) ?_
              refine XT.q rfl rfl (Quiet.guard2 rfl rfl fun g191a g191b => have p191a := bpT g191a; have p191b := bpF g191b; Q.ld (lzv g191b (lzv g191a rfl)) rfl) ?_
              refine XT.vg2 rfl rfl rfl rfl (fun g192a g192b => rfl) (fun g192a g192b => .c (lzv g192b (lzv g192a rfl)) (.c (lzv g192b (lzv g192a rfl)) .n)) (fun g192a g192b => have p192a := bpT g192a; have p192b := bpF g192b; VSpec.fn (P := Try.prog) Try.call37 rfl (by haveI := al (by omega); exact sameInts (us.getD ((us.length : Int) - 1).toNat default) ve K ke ((traceP b (powers l) f).getD ((us.length : Int) - 1).toNat default) r.energy)) ⟨inferInstance, ?_⟩ XT.stop
              refine XT.q rfl rfl (Quiet.guardT rfl rfl fun g193 p193 => Q.or (lzv g193 rfl) (fun hp => (lzv hp (lzv g193 rfl)))) ?_
              refine XT.q rfl rfl (Q.and rfl (fun hp => lzv hp rfl)) ?_
              refine XT.q rfl rfl (Q.move rfl) ?_
              refine XT.gcallT rfl rfl rfl rfl Try.call14 rfl (fun g196 => .n) rfl (fun g196 p196 => awake06) ⟨inferInstance, ?_⟩ XT.stop
              refine XT.q rfl rfl (Q.and rfl (fun hp => lzv hp rfl)) ?_
              refine XT.q rfl rfl (Q.assign rfl) ?_
              refine XT.done ?_
              refine XK.rt [] Try.func8 Try.results8 (.t rfl .n) ?_
              refine ⟨?_, rfl⟩
              have e1 : (decI (accI r.served (fun j => r.energy.getD j default - (b.bats.getD j default).energy) (b.bats.length)) (fun j => r.burnt.getD j default) (b.gens.length)) = 0 := by rw [decI_eq, accI_eq]; exact L3
              have e2 : (accI 0 (fun j => if r.dark < 0 ∨ (j : Int) < r.dark then (powers l).getD j default else 0) (cnt l l.length)) = r.served := by rw [accI_eq, cl, Int.zero_add]; exact L4
              rw [decide_eq_true e1, decide_eq_true e2, decide_eq_true (by omega), Bool.and_true, Bool.true_and, Bool.true_and]
              by_cases hz : us.length = 0
              · rw [decide_eq_true (by omega)]; rfl
              · rw [decide_eq_true (show (traceP b (powers l) f).getD ((us.length : Int) - 1).toNat default = r.energy by rw [show ((us.length : Int) - 1).toNat = endP b (powers l) f - 1 by omega]; exact tla (by omega)), Bool.or_true]; rfl
end Go.X

set_option linter.unusedSimpArgs false
set_option linter.unusedVariables false
set_option maxRecDepth 20000
namespace Go.X
open Go.Proofs
set_option maxHeartbeats 2000000 in
set_option synthInstance.maxSize 1000 in
theorem BankHolds_spec (v0 : Value) (h0 : PHeap) (x0 : List UInt8) [i0 : Arr v0 encU8 1 h0 x0] (v1 : Value) (h1 : PHeap) (x1 : List UInt8) [i1 : Arr v1 encU8 1 h1 x1] (n2 : Nat) (hn2 : n2 < 256) (n3 : Nat) (hn3 : n3 < 256) : Spec Try.prog 4 #[v0, v1, .int .u8 (n2 : Nat), .int .u8 (n3 : Nat)] [] [h0, h1] (fun v hs => v = .bool true ∧ hs = []) := by
  refine Spec.intro (fn := Try.f4) (N := 130) Try.func4 rfl Try.ntmps4 rfl fun B => ?_
  refine XK.seq ?_
  refine XK.region rfl ?_
  refine XO.q (Q.assign rfl) ?_
  refine XO.done ?_
  refine XK.seq ?_
  refine XK.region rfl ?_
  refine XO.q (Q.move rfl) ?_
  refine XO.call Try.call28 rfl rfl rfl (made06 v0 h0 x0) fun v22 s22 R22 => ?_
  obtain ⟨vb, vg, kb, kg, rfl, rfl, OB, OG⟩ := R22
  dsimp only [List.cons_append, List.nil_append]
  obtain ⟨b, eb⟩ : ∃ b, b = madeP x0 := ⟨_, rfl⟩
  obtain ⟨ok, nb4, ng3⟩ := made_ok x0
  rw [← eb] at OB OG ok nb4 ng3
  clear eb
  refine XO.alloc fun b9 => ?_
  refine XO.st rfl rfl rfl ?_
  refine XO.done ?_
  refine XK.seq ?_
  refine XK.region rfl ?_
  refine XO.q (Q.fieldAddr rfl) ?_
  refine XO.q (Q.ld rfl rfl) ?_
  refine XO.q (Q.fieldAddr rfl) ?_
  refine XO.q (Q.ld rfl rfl) ?_
  refine XO.len rfl fun l27 => ?_
  refine XO.q (Q.min rfl rfl) ?_
  refine XO.cut (i := 0) (j := min b.gens.length 2) rfl .n (.s rfl (by omega)) (by omega) (by omega) fun v29 A29 => ?_
  obtain ⟨ok, g2⟩ := few_gens ok (min b.gens.length 2) (by omega)
  obtain ⟨cg, ecg⟩ : ∃ cg, cg = (b.gens.drop 0).take (min b.gens.length 2 - 0) := ⟨_, rfl⟩
  obtain ⟨cb, ecb⟩ : ∃ cb, cb = b.bats := ⟨_, rfl⟩
  rw [← ecg, ← ecb] at ok
  rw [← ecg] at A29 g2
  rw [← ecb] at OB
  refine XO.q (Q.fieldAddr rfl) ?_
  refine XO.st rfl rfl rfl ?_
  refine XO.done ?_
  refine XK.seq ?_
  refine XK.region rfl ?_
  refine XO.q (Q.ldA [_, _] rfl rfl rfl) ?_
  refine XO.q (Q.move rfl) ?_
  refine XO.q (Q.conv rfl) ?_
  rw [wrap64_of ⟨by omega, by omega⟩]
  refine XO.q (Q.move rfl) ?_
  refine XO.q (Q.rem rfl rfl (by omega) (by omega)) ?_
  refine XO.q (Q.conv rfl) ?_
  rw [wrap64_of ⟨by omega, by omega⟩]
  rw [show ((n3 : Int) % 9) = ((n3 % 9 : Nat) : Int) from rfl]
  refine XO.call Try.call22 rfl rfl rfl (Hold_spec (⟨cb, cg⟩ : BBank) vb v29 kb kg ((n2 : Nat) : Int) ((n3 % 9 : Nat) : Int) (by omega)) fun v38 s38 R38 => ?_
  obtain ⟨rfl, rfl⟩ := R38
  dsimp only [List.cons_append, List.nil_append]
  obtain ⟨w, ew, fw, lw, eh, r1, r2⟩ := hold_law ok (p := ((n2 : Nat) : Int)) (m := ((n3 % 9 : Nat) : Int)) g2 (by omega) (by omega) (by omega)
  rw [eh]
  dsimp only
  obtain ⟨r, er⟩ : ∃ r, r = runP (⟨cb, cg⟩ : BBank) (powers (holdLoad ((n2 : Nat) : Int))) w := ⟨_, rfl⟩
  rw [← er] at lw r1 r2 ew ⊢
  obtain ⟨n, en⟩ : ∃ n : Int, n = (if r.dark < 0 then 4000 else r.dark) := ⟨_, rfl⟩
  rw [← en]
  have lk := holdLoad_ok (p := ((n2 : Nat) : Int)) (by omega) (by omega)
  have hw := pwOk lk
  have nr : (r.dark < 0 ∧ n = 4000) ∨ (0 ≤ r.dark ∧ n = r.dark) := by
    rw [en]
    split
    · exact .inl ⟨by assumption, rfl⟩
    · exact .inr ⟨by omega, rfl⟩
  refine XO.q (Q.move rfl) ?_
  refine XO.q (Q.extract rfl rfl) ?_
  refine XO.q (Q.extract rfl rfl) ?_
  refine XO.q (Q.assign rfl) ?_
  refine XO.q (Q.assign rfl) ?_
  refine XO.done ?_
  refine XK.seq ?_
  refine XK.seq ?_
  refine XK.region rfl ?_
  refine XO.q (Q.move rfl) ?_
  refine XO.q (Q.neq rfl rfl) ?_
  refine XO.q (Q.move rfl) ?_
  refine XO.q (Quiet.guardF rfl rfl fun g44 p44 => Q.move rfl) ?_
  refine XO.q (Quiet.guardF rfl rfl fun g45 p45 => Q.lss (lzv g45 rfl) rfl) ?_
  refine XO.q (Q.or rfl (fun hp => lzv hp rfl)) ?_
  refine XO.q (Q.move rfl) ?_
  refine XO.q (Quiet.guardF rfl rfl fun g48 p48 => Q.move rfl) ?_
  refine XO.q (Quiet.guardF rfl rfl fun g49 p49 => Q.gtr (lzv g49 rfl) rfl) ?_
  refine XO.q (Q.or rfl (fun hp => lzv hp rfl)) ?_
  refine XO.done ?_
  refine XK.if rfl (fun c0 => ?_) (fun c0 => ?_)
  · have _t0 := True.intro
    exact absurd c0 (by simp; omega)
  · have _t0 := True.intro
    refine XK.skip ?_
    refine XK.seq ?_
    refine XK.region rfl ?_
    refine XO.q (Q.ldA [_, _] rfl rfl rfl) ?_
    refine XO.q (Q.move rfl) ?_
    refine XO.call Try.call29 rfl rfl rfl (failed06 (⟨cb, cg⟩ : BBank) vb v29 kb kg ok v1 h1 x1) fun v53 s53 R53 => ?_
    obtain ⟨kf, rfl, OF⟩ := R53
    dsimp only [List.cons_append, List.nil_append]
    obtain ⟨f, ef⟩ : ∃ f, f = failP (⟨cb, cg⟩ : BBank) x1 := ⟨_, rfl⟩
    have fk := fail_ok ok x1
    rw [← ef] at OF fk
    clear ef
    refine XO.q (Q.assign rfl) ?_
    refine XO.done ?_
    refine XK.seq ?_
    refine XK.region rfl ?_
    refine XO.q (Q.assign rfl) ?_
    refine XO.done ?_
    refine XK.seq ?_
    refine XK.seq ?_
    refine XK.region rfl ?_
    refine XO.q (Q.move rfl) ?_
    refine XO.len rfl fun l55 => ?_
    refine XO.q (Q.move rfl) ?_
    refine XO.done ?_
    refine XK.block ?_
    refine XK.while (X := Nat) [13, 15, 56, 57, 58, 59, 60, 61, 62, 63] (fun i => [(56, some (.int .i64 (i : Nat))), (13, some (.int .i64 (accI 0 (fun j => f.getD j default) (i))))]) (fun i => []) (fun i => i ≤ f.length) (fun i => f.length - i) (0) [] rfl (by omega) (.c rfl (.c rfl (.base 0 rfl rfl))) ?_
    rintro i hi ih0
    dsimp only [List.cons_append, List.nil_append] at ih0 ⊢
    refine XK.seq ?_
    refine XK.region rfl ?_
    refine XO.q (Q.lss rfl rfl) ?_
    refine XO.done ?_
    refine XK.seq ?_
    refine XK.if rfl (fun c1 => ?_) (fun c1 => ?_)
    · have _t1 := True.intro
      have ac := accI_rng (s := 0) (f := fun j => f.getD j default) (B := 5) (by decide) i (fun j hj => by have q := (fk.rng ok).2 j (by omega); (try dsimp only); omega)
      have aq := (fk.rng ok).2 i (by omega)
      have a6 := (fk.rng ok).1
      refine XK.skip ?_
      refine XK.seq ?_
      refine XK.block ?_
      refine XK.seq ?_
      refine XK.region rfl ?_
      refine XO.ix rfl rfl (by omega) (by omega) fun i58 => ?_
      refine XO.q (Q.ldE rfl (by first | assumption | omega) rfl) ?_
      refine XO.q (Q.assign rfl) ?_
      refine XO.done ?_
      refine XK.region rfl ?_
      refine XO.q (Q.move rfl) ?_
      refine XO.q (Q.move rfl) ?_
      refine XO.q (Q.add rfl rfl ⟨by omega, by omega⟩) ?_
      refine XO.q (Q.assign rfl) ?_
      refine XO.done ?_
      refine XK.inBlock ?_
      refine XK.region rfl ?_
      refine XO.q (Q.add rfl rfl ⟨by omega, by omega⟩) ?_
      refine XO.q (Q.move rfl) ?_
      refine XO.done ?_
      exact ih0 (i + 1) _ _ (by omega) (by first | omega | (dsimp only; omega)) (.c rfl (.c rfl (.base 22 rfl rfl))) inferInstance
    · have _t1 := True.intro
      have hil : i = f.length := by omega
      subst hil
      have es : (accI 0 (fun j => f.getD j default) (f.length)) = sumL f := by rw [accI_eq, sumL_sumI, Int.zero_add]
      rw [es]
      refine XK.exit rfl ?_
      refine XK.seq ?_
      refine XK.region rfl ?_
      refine XO.q (Q.move rfl) ?_
      refine XO.q (Q.conv rfl) ?_
      rw [wrap64_of ⟨by omega, by omega⟩]
      refine XO.q (Q.build [_, _] (.c 0 1 rfl rfl rfl (.c 1 1 rfl rfl rfl (.n _)))) ?_
      refine XO.q (Q.move rfl) ?_
      refine XO.q (Q.conv rfl) ?_
      rw [wrap64_of ⟨by omega, by omega⟩]
      refine XO.q (Q.build [_, _] (.c 0 1 rfl rfl rfl (.c 1 1 rfl rfl rfl (.n _)))) ?_
      refine XO.lit [_, _, _, _] [_, _, _, _] [⟨3600, ((n2 : Nat) : Int)⟩, ⟨400, ((n2 : Nat) : Int)⟩] encSpan (by rfl) (by rfl) rfl (by rfl) (by exact .c 0 2 rfl rfl rfl (.c 2 2 rfl rfl rfl (.n _))) (fun _ => rfl) (by rfl) rfl (by infer_instance) rfl fun v70 h70 O70 => ?_
      have O70 : OArr v70 encSpan 2 38 h70 (holdLoad ((n2 : Nat) : Int)) := O70
      refine XO.q (Q.assign rfl) ?_
      refine XO.done ?_
      refine XK.seq ?_
      refine XK.seq ?_
      refine XK.region rfl ?_
      refine XO.q (Q.move rfl) ?_
      refine XO.q (Q.move rfl) ?_
      refine XO.q (Q.rem rfl rfl (by omega) (by omega)) ?_
      refine XO.q (Q.conv rfl) ?_
      rw [wrap64_of ⟨by omega, by omega⟩]
      rw [show ((n3 : Int) % 9) = ((n3 % 9 : Nat) : Int) from rfl]
      refine XO.q (Q.leq rfl rfl) ?_
      refine XO.done ?_
      refine XK.if rfl (fun c2 => ?_) (fun c2 => ?_)
      · have _t2 := True.intro
        have lf := laterP_iff.1 (lw f fk (by omega))
        refine XK.seq ?_
        refine XK.region rfl ?_
        have rdf : readyP (⟨cb, cg⟩ : BBank) (holdLoad ((n2 : Nat) : Int)) f = 0 := readyP_iff.2 ⟨ok, lk, fk⟩
        refine XO.q (Q.ldA [_, _] rfl rfl rfl) ?_
        refine XO.q (Q.move rfl) ?_
        refine XO.q (Q.move rfl) ?_
        refine XO.call Try.call30 rfl rfl rfl (Run_spec (⟨cb, cg⟩ : BBank) vb v29 kb kg (holdLoad ((n2 : Nat) : Int)) v70 h70 f v53 kf) fun v80 s80 R80 => ?_
        obtain ⟨vef, vnf, kef, knf, rfl, rfl, OEf, ONf⟩ := R80
        dsimp only [List.cons_append, List.nil_append]
        rw [if_pos rdf] at OEf ONf
        rw [rdf, if_pos rfl]
        obtain ⟨rf, erf⟩ : ∃ r, r = runP (⟨cb, cg⟩ : BBank) (powers (holdLoad ((n2 : Nat) : Int))) f := ⟨_, rfl⟩
        rw [← erf] at OEf ONf ⊢
        refine XO.q (Q.move rfl) ?_
        refine XO.q (Q.extract rfl rfl) ?_
        refine XO.q (Q.extract rfl rfl) ?_
        refine XO.alloc fun b17 => ?_
        refine XO.st rfl rfl rfl ?_
        refine XO.q (Q.assign rfl) ?_
        refine XO.done ?_
        refine XK.seq ?_
        refine XK.region rfl ?_
        refine XO.q (Q.move rfl) ?_
        refine XO.q (Q.neq rfl rfl) ?_
        refine XO.q (Q.move rfl) ?_
        refine XO.q (Quiet.guardF rfl rfl fun g86 p86 => Q.fieldAddr rfl) ?_
        refine XO.q (Quiet.guardF rfl rfl fun g87 p87 => Q.ld (lzv g87 rfl) rfl) ?_
        refine XO.q (Quiet.guardF rfl rfl fun g88 p88 => Q.geq (lzv g88 rfl) rfl) ?_
        refine XO.q (Quiet.guardF rfl rfl fun g89 p89 => Q.move (lzv g89 rfl)) ?_
        refine XO.q (Quiet.guard2 rfl rfl fun g90a g90b => have p90a := bpF g90a; have p90b := bpT g90b; Q.fieldAddr rfl) ?_
        refine XO.q (Quiet.guard2 rfl rfl fun g91a g91b => have p91a := bpF g91a; have p91b := bpT g91b; Q.ld (lzv g91b (lzv g91a rfl)) rfl) ?_
        refine XO.q (Quiet.guard2 rfl rfl fun g92a g92b => have p92a := bpF g92a; have p92b := bpT g92b; Q.move rfl) ?_
        refine XO.q (Quiet.guard2 rfl rfl fun g93a g93b => have p93a := bpF g93a; have p93b := bpT g93b; Q.lss (lzv g93b (lzv g93a rfl)) (lzv g93b (lzv g93a rfl))) ?_
        refine XO.q (Quiet.guardF rfl rfl fun g94 p94 => Q.and (lzv g94 rfl) (fun hp => (lzv hp (lzv g94 rfl)))) ?_
        refine XO.q (Q.or rfl (fun hp => lzv hp rfl)) ?_
        refine XO.done ?_
        refine XK.if rfl (fun c3 => ?_) (fun c3 => ?_)
        · have _t3 := True.intro
          rw [← erf] at lf
          exact absurd c3 (by simp; omega)
        · have _t3 := True.intro
          refine XK.skip ?_
          refine XK.seq ?_
          refine XK.region rfl ?_
          refine XO.q (Q.ldA [_, _] rfl rfl rfl) ?_
          refine XO.q (Q.move rfl) ?_
          refine XO.q (Q.move rfl) ?_
          refine XO.q (Q.rem rfl rfl (by omega) (by omega)) ?_
          refine XO.q (Q.conv rfl) ?_
          rw [wrap64_of ⟨by omega, by omega⟩]
          rw [show ((n3 : Int) % 9) = ((n3 % 9 : Nat) : Int) from rfl]
          refine XO.call Try.call17 rfl rfl rfl (Worst_spec (⟨cb, cg⟩ : BBank) vb v29 kb kg (holdLoad ((n2 : Nat) : Int)) v70 h70 ((n3 % 9 : Nat) : Int) (by omega)) fun v102 s102 R102 => ?_
          obtain ⟨vw, ve, vn, K, ke, kn, rfl, rfl, ow, AW, OE, ON⟩ := R102
          dsimp only [List.cons_append, List.nil_append]
          have e0 : searchP (⟨cb, cg⟩ : BBank) (holdLoad ((n2 : Nat) : Int)) ((n3 % 9 : Nat) : Int) = 0 := search_few ok g2 (by omega) (by omega) (by omega)
          rw [if_pos e0] at AW OE ON
          rw [if_pos e0, e0]
          rw [ew] at AW OE ON ⊢
          dsimp only at AW OE ON ⊢
          refine XO.q (Q.move rfl) ?_
          refine XO.q (Q.extract rfl rfl) ?_
          refine XO.q (Q.extract rfl rfl) ?_
          refine XO.q (Q.extract rfl rfl) ?_
          refine XO.alloc fun b20 => ?_
          refine XO.q (Q.assign rfl) ?_
          refine XO.st rfl rfl rfl ?_
          refine XO.q (Q.assign rfl) ?_
          refine XO.done ?_
          refine XK.seq ?_
          refine XK.region rfl ?_
          refine XO.q (Q.move rfl) ?_
          refine XO.q (Q.eql rfl rfl) ?_
          refine XO.q (Q.move rfl) ?_
          refine XO.q (Quiet.guardT rfl rfl fun g109 p109 => Q.move rfl) ?_
          refine XO.q (Quiet.guardT rfl rfl fun g110 p110 => Q.eql (lzv g110 rfl) rfl) ?_
          refine XO.q (Quiet.guardT rfl rfl fun g111 p111 => Q.fieldAddr rfl) ?_
          refine XO.q (Quiet.guardT rfl rfl fun g112 p112 => Q.ld (lzv g112 rfl) rfl) ?_
          refine XO.q (Quiet.guardT rfl rfl fun g113 p113 => Q.lss (lzv g113 rfl) rfl) ?_
          refine XO.q (Quiet.guardT rfl rfl fun g114 p114 => Q.eqlB (lzv g114 rfl) (lzv g114 rfl)) ?_
          refine XO.q (Q.and rfl (fun hp => lzv hp rfl)) ?_
          refine XO.q (Q.move rfl) ?_
          refine XO.q (Quiet.guardT rfl rfl fun g117 p117 => Q.fieldAddr rfl) ?_
          refine XO.q (Quiet.guardT rfl rfl fun g118 p118 => Q.ld (lzv g118 rfl) rfl) ?_
          refine XO.q (Quiet.guardT rfl rfl fun g119 p119 => Q.lss (lzv g119 rfl) rfl) ?_
          refine XO.q (Quiet.guardT rfl rfl fun g120 p120 => Q.move (lzv g120 rfl)) ?_
          refine XO.q (Quiet.guard2 rfl rfl fun g121a g121b => have p121a := bpT g121a; have p121b := bpF g121b; Q.fieldAddr rfl) ?_
          refine XO.q (Quiet.guard2 rfl rfl fun g122a g122b => have p122a := bpT g122a; have p122b := bpF g122b; Q.ld (lzv g122b (lzv g122a rfl)) rfl) ?_
          refine XO.q (Quiet.guard2 rfl rfl fun g123a g123b => have p123a := bpT g123a; have p123b := bpF g123b; Q.move rfl) ?_
          refine XO.q (Quiet.guard2 rfl rfl fun g124a g124b => have p124a := bpT g124a; have p124b := bpF g124b; Q.eql (lzv g124b (lzv g124a rfl)) (lzv g124b (lzv g124a rfl))) ?_
          refine XO.q (Quiet.guardT rfl rfl fun g125 p125 => Q.or (lzv g125 rfl) (fun hp => (lzv hp (lzv g125 rfl)))) ?_
          refine XO.q (Q.and rfl (fun hp => lzv hp rfl)) ?_
          refine XO.q (Q.move rfl) ?_
          refine XO.gcallT rfl rfl Try.call14 rfl (fun g128 => .n) rfl (fun g128 p128 => awake06) ?_
          refine XO.q (Q.and rfl (fun hp => lzv hp rfl)) ?_
          refine XO.q (Q.assign rfl) ?_
          refine XO.done ?_
          refine XK.rt [] Try.func4 Try.results4 (.t rfl .n) ?_
          have a : (decide (n = 4000) == decide (r.dark < 0)) = true := by rw [beq_iff_eq, decide_eq_decide]; omega
          have a2 : (decide (r.dark < 0) || decide (r.dark = n)) = true := by rw [Bool.or_eq_true, decide_eq_true_eq, decide_eq_true_eq]; omega
          exact ⟨by rw [a, a2]; rfl, rfl⟩
      · have _t2 := True.intro
        refine XK.skip ?_
        refine XK.seq ?_
        refine XK.region rfl ?_
        refine XO.q (Q.ldA [_, _] rfl rfl rfl) ?_
        refine XO.q (Q.move rfl) ?_
        refine XO.q (Q.move rfl) ?_
        refine XO.q (Q.rem rfl rfl (by omega) (by omega)) ?_
        refine XO.q (Q.conv rfl) ?_
        rw [wrap64_of ⟨by omega, by omega⟩]
        rw [show ((n3 : Int) % 9) = ((n3 % 9 : Nat) : Int) from rfl]
        refine XO.call Try.call17 rfl rfl rfl (Worst_spec (⟨cb, cg⟩ : BBank) vb v29 kb kg (holdLoad ((n2 : Nat) : Int)) v70 h70 ((n3 % 9 : Nat) : Int) (by omega)) fun v102 s102 R102 => ?_
        obtain ⟨vw, ve, vn, K, ke, kn, rfl, rfl, ow, AW, OE, ON⟩ := R102
        dsimp only [List.cons_append, List.nil_append]
        have e0 : searchP (⟨cb, cg⟩ : BBank) (holdLoad ((n2 : Nat) : Int)) ((n3 % 9 : Nat) : Int) = 0 := search_few ok g2 (by omega) (by omega) (by omega)
        rw [if_pos e0] at AW OE ON
        rw [if_pos e0, e0]
        rw [ew] at AW OE ON ⊢
        dsimp only at AW OE ON ⊢
        refine XO.q (Q.move rfl) ?_
        refine XO.q (Q.extract rfl rfl) ?_
        refine XO.q (Q.extract rfl rfl) ?_
        refine XO.q (Q.extract rfl rfl) ?_
        refine XO.alloc fun b20 => ?_
        refine XO.q (Q.assign rfl) ?_
        refine XO.st rfl rfl rfl ?_
        refine XO.q (Q.assign rfl) ?_
        refine XO.done ?_
        refine XK.seq ?_
        refine XK.region rfl ?_
        refine XO.q (Q.move rfl) ?_
        refine XO.q (Q.eql rfl rfl) ?_
        refine XO.q (Q.move rfl) ?_
        refine XO.q (Quiet.guardT rfl rfl fun g109 p109 => Q.move rfl) ?_
        refine XO.q (Quiet.guardT rfl rfl fun g110 p110 => Q.eql (lzv g110 rfl) rfl) ?_
        refine XO.q (Quiet.guardT rfl rfl fun g111 p111 => Q.fieldAddr rfl) ?_
        refine XO.q (Quiet.guardT rfl rfl fun g112 p112 => Q.ld (lzv g112 rfl) rfl) ?_
        refine XO.q (Quiet.guardT rfl rfl fun g113 p113 => Q.lss (lzv g113 rfl) rfl) ?_
        refine XO.q (Quiet.guardT rfl rfl fun g114 p114 => Q.eqlB (lzv g114 rfl) (lzv g114 rfl)) ?_
        refine XO.q (Q.and rfl (fun hp => lzv hp rfl)) ?_
        refine XO.q (Q.move rfl) ?_
        refine XO.q (Quiet.guardT rfl rfl fun g117 p117 => Q.fieldAddr rfl) ?_
        refine XO.q (Quiet.guardT rfl rfl fun g118 p118 => Q.ld (lzv g118 rfl) rfl) ?_
        refine XO.q (Quiet.guardT rfl rfl fun g119 p119 => Q.lss (lzv g119 rfl) rfl) ?_
        refine XO.q (Quiet.guardT rfl rfl fun g120 p120 => Q.move (lzv g120 rfl)) ?_
        refine XO.q (Quiet.guard2 rfl rfl fun g121a g121b => have p121a := bpT g121a; have p121b := bpF g121b; Q.fieldAddr rfl) ?_
        refine XO.q (Quiet.guard2 rfl rfl fun g122a g122b => have p122a := bpT g122a; have p122b := bpF g122b; Q.ld (lzv g122b (lzv g122a rfl)) rfl) ?_
        refine XO.q (Quiet.guard2 rfl rfl fun g123a g123b => have p123a := bpT g123a; have p123b := bpF g123b; Q.move rfl) ?_
        refine XO.q (Quiet.guard2 rfl rfl fun g124a g124b => have p124a := bpT g124a; have p124b := bpF g124b; Q.eql (lzv g124b (lzv g124a rfl)) (lzv g124b (lzv g124a rfl))) ?_
        refine XO.q (Quiet.guardT rfl rfl fun g125 p125 => Q.or (lzv g125 rfl) (fun hp => (lzv hp (lzv g125 rfl)))) ?_
        refine XO.q (Q.and rfl (fun hp => lzv hp rfl)) ?_
        refine XO.q (Q.move rfl) ?_
        refine XO.gcallT rfl rfl Try.call14 rfl (fun g128 => .n) rfl (fun g128 p128 => awake06) ?_
        refine XO.q (Q.and rfl (fun hp => lzv hp rfl)) ?_
        refine XO.q (Q.assign rfl) ?_
        refine XO.done ?_
        refine XK.rt [] Try.func4 Try.results4 (.t rfl .n) ?_
        have a : (decide (n = 4000) == decide (r.dark < 0)) = true := by rw [beq_iff_eq, decide_eq_decide]; omega
        have a2 : (decide (r.dark < 0) || decide (r.dark = n)) = true := by rw [Bool.or_eq_true, decide_eq_true_eq, decide_eq_true_eq]; omega
        exact ⟨by rw [a, a2]; rfl, rfl⟩
end Go.X
