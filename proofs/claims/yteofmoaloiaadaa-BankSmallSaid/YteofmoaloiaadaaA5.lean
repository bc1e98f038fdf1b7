/- A part of the proof: a small program logic, plain laws and contracts of functions, each proved by a walk through its operations. No condition but those that stand in each theorem. -/
import Derived.Test.YteofmoaloiaadaaA4
set_option linter.unusedSimpArgs false
set_option linter.unusedVariables false
set_option maxRecDepth 20000
namespace Go.X
open Go.Proofs
theorem Worst_spec (b : BBank) (vb vg : Value) (hb hg : PHeap) [ib : Arr vb encBat 4 hb b.bats] [ig : Arr vg encGen 5 hg b.gens] (l : List BSpan) (vl : Value) (hl : PHeap) [il : Arr vl encSpan 2 hl l] (most : Int) (hm1 : most ≤ 9223372036854775807) : Spec Try.prog 17 #[.agg #[vb, vg], vl, .int .i64 most] [] [hb, hg, hl]
    (fun v hs => ∃ vw ve vn K ke kn, v = .tuple #[vw, resV (if searchP b l most = 0 then worstP b (powers l) most else ([], ⟨0, [], [], 0⟩)).2 ve vn, .int .i64 (searchP b l most)] ∧ hs = [K, ke, kn] ∧ One vw ∧ Arr vw encI 1 K (if searchP b l most = 0 then worstP b (powers l) most else ([], ⟨0, [], [], 0⟩)).1 ∧ OArr ve encI 1 3 ke (if searchP b l most = 0 then worstP b (powers l) most else ([], ⟨0, [], [], 0⟩)).2.energy ∧ OArr vn encI 1 3 kn (if searchP b l most = 0 then worstP b (powers l) most else ([], ⟨0, [], [], 0⟩)).2.burnt) := by
  have hnil : OArr (.slice none 0 0) encI 1 3 emp ([] : List Int) := OArr.nil (fun _ => rfl)
  refine Spec.intro (fn := Try.f17) (N := 29) Try.func17 rfl Try.ntmps17 rfl fun B => ?_
  refine XK.seq ?_
  refine XK.region rfl ?_
  refine XO.box rfl fun b3 => ?_
  refine XO.q (Q.assign rfl) ?_
  refine XO.alloc fun b7 => ?_
  refine XO.q (Q.assign rfl) ?_
  refine XO.done ?_
  refine XK.seq ?_
  refine XK.seq ?_
  refine XK.region rfl ?_
  refine XO.q (Q.ldA [_, _] rfl rfl rfl) ?_
  refine XO.q (Q.move rfl) ?_
  refine XO.q (Q.move rfl) ?_
  refine XO.call Try.call52 rfl rfl rfl (search_spec b vb vg hb hg l vl hl most) fun v15 s15 R15 => ?_
  obtain ⟨rfl, rfl⟩ := R15
  dsimp only [List.cons_append, List.nil_append]
  refine XO.q (Q.assign rfl) ?_
  refine XO.done ?_
  refine XK.seq ?_
  refine XK.region rfl ?_
  refine XO.q (Q.move rfl) ?_
  refine XO.q (Q.neq rfl rfl) ?_
  refine XO.done ?_
  refine XK.if rfl (fun c0 => ?_) (fun c0 => ?_)
  · have _t0 := True.intro
    refine XK.seq ?_
    refine XK.region rfl ?_
    refine XO.q (Q.build [_, _, _, _] (.n _)) ?_
    refine XO.q (Q.move rfl) ?_
    refine XO.q (Q.assign rfl) ?_
    refine XO.st rfl rfl rfl ?_
    refine XO.q (Q.assign rfl) ?_
    refine XO.done ?_
    refine XK.rt [emp, emp, emp] Try.func17 Try.results17 (.t rfl (.cell [_, _, _, _] rfl rfl rfl (.t rfl .n))) ?_
    rw [if_neg c0]
    exact ⟨.slice none 0 0, .slice none 0 0, .slice none 0 0, emp, emp, emp, rfl, rfl, inferInstance, OArr.arr (s := hnil), hnil, hnil⟩
  · have _t0 := True.intro
    refine XK.skip ?_
    refine XK.seq ?_
    refine XK.region rfl ?_
    refine XO.q (Q.ldA [_, _] rfl rfl rfl) ?_
    refine XO.q (Q.move rfl) ?_
    refine XO.q (Q.move rfl) ?_
    have sk := searchP_iff.1 (Decidable.of_not_not c0)
    refine XO.call Try.call53 rfl rfl rfl (worst_spec b vb vg hb hg l vl hl sk.ob sk.ol most sk.m0 hm1) fun v24 s24 R24 => ?_
    obtain ⟨vw, ve, vn, K, ke, kn, rfl, rfl, ow, AW, OE, OB⟩ := R24
    dsimp only [List.cons_append, List.nil_append]
    refine XO.q (Q.move rfl) ?_
    refine XO.q (Q.extract rfl rfl) ?_
    refine XO.q (Q.extract rfl rfl) ?_
    refine XO.alloc fun b11 => ?_
    refine XO.q (Q.assign rfl) ?_
    refine XO.st rfl rfl rfl ?_
    refine XO.done ?_
    refine XK.seq ?_
    refine XK.drawn [0, 1, 2, 4] [b11] [] (.q 0 (.q 1 (.q 2 (.br 3 true (.q 4 .done) .stop)))) Try.mixed rfl (by kernel_rfl) ?_
    refine XT.q rfl rfl (Q.move rfl) ?_
    refine XT.q rfl rfl (Q.ldA [_, _, _, _] rfl rfl rfl) ?_
    refine XT.q rfl rfl (Q.assign rfl) ?_
    refine XT.st rfl rfl rfl rfl rfl ⟨inferInstance, ?_⟩ XT.stop
    refine XT.q rfl rfl (Q.assign rfl) ?_
    refine XT.done ?_
    refine XK.rt [K, ke, kn] Try.func17 Try.results17 (.t rfl (.cell [_, _, _, _] rfl rfl rfl (.t rfl .n))) ?_
    have e0 := Decidable.of_not_not c0
    rw [if_pos e0, e0]
    exact ⟨vw, ve, vn, K, ke, kn, rfl, rfl, ow, AW, OE, OB⟩
theorem Least_spec (b : BBank) (vb vg : Value) (hb hg : PHeap) [ib : Arr vb encBat 4 hb b.bats] [ig : Arr vg encGen 5 hg b.gens] (l : List BSpan) (vl : Value) (hl : PHeap) [il : Arr vl encSpan 2 hl l] (most : Int) (hm1 : most ≤ 9223372036854775807) : Spec Try.prog 20 #[.agg #[vb, vg], vl, .int .i64 most] [] [hb, hg, hl] (fun v hs => v = .tuple #[.int .i64 (if searchP b l most = 0 then leastP b (powers l) most else 0), .int .i64 (searchP b l most)] ∧ hs = []) := by
  refine Spec.intro (fn := Try.f20) (N := 29) Try.func20 rfl Try.ntmps20 rfl fun B => ?_
  refine XK.seq ?_
  refine XK.region rfl ?_
  refine XO.box rfl fun b3 => ?_
  refine XO.box rfl fun b4 => ?_
  refine XO.q (Q.assign rfl) ?_
  refine XO.q (Q.assign rfl) ?_
  refine XO.done ?_
  refine XK.seq ?_
  refine XK.seq ?_
  refine XK.region rfl ?_
  refine XO.q (Q.ldA [_, _] rfl rfl rfl) ?_
  refine XO.q (Q.ld rfl rfl) ?_
  refine XO.q (Q.move rfl) ?_
  refine XO.call Try.call52 rfl rfl rfl (search_spec b vb vg hb hg l vl hl most) fun v14 s14 R14 => ?_
  obtain ⟨rfl, rfl⟩ := R14
  dsimp only [List.cons_append, List.nil_append]
  refine XO.q (Q.assign rfl) ?_
  refine XO.done ?_
  refine XK.seq ?_
  refine XK.region rfl ?_
  refine XO.q (Q.move rfl) ?_
  refine XO.q (Q.neq rfl rfl) ?_
  refine XO.done ?_
  refine XK.if rfl (fun c0 => ?_) (fun c0 => ?_)
  · have _t0 := True.intro
    refine XK.seq ?_
    refine XK.region rfl ?_
    refine XO.q (Q.move rfl) ?_
    refine XO.q (Q.assign rfl) ?_
    refine XO.q (Q.assign rfl) ?_
    refine XO.done ?_
    refine XK.rt [] Try.func20 Try.results20 (.t rfl (.t rfl .n)) ?_
    exact ⟨by rw [if_neg c0], rfl⟩
  · have _t0 := True.intro
    refine XK.skip ?_
    refine XK.seq ?_
    refine XK.region rfl ?_
    refine XO.alloc fun b9 => ?_
    refine XO.st rfl rfl rfl ?_
    refine XO.done ?_
    refine XK.seq ?_
    refine XK.seq ?_
    refine XK.region rfl ?_
    refine XO.q (Q.ldA [_, _] rfl rfl rfl) ?_
    refine XO.q (Q.move rfl) ?_
    have sk := searchP_iff.1 (Decidable.of_not_not c0)
    refine XO.call Try.call57 rfl rfl rfl (lists_spec b vb vg hb hg sk.ob most sk.m0 hm1) fun v20 s20 R20 => ?_
    obtain ⟨k1, k2, rfl, hit⟩ := R20
    dsimp only [List.cons_append, List.nil_append]
    refine XO.done ?_
    refine XK.block ?_
    refine XK.rangeK (X := Nat) (ps := [21]) (fun k => [blk b9 [.int .i64 (leastTo b (powers l) (listsP b most) (k))] 3]) (fun i k K0 => k = i) (fun j0 k K0 => False) (0) [blk b9 [.int .i64 0] 3] rfl (hit) rfl (fun i x K K' hle hI => hI) (rfl) rfl (fun i K vs hY => by obtain ⟨sl, rfl, _⟩ := hY; rfl) ?_ ?_ (fun _ _ _ hJ => hJ.elim)
    · rintro lq rec B' i k K0 vs hi ⟨vx, rfl, ax⟩ hki
      dsimp only [List.cons_append, List.nil_append]
      subst hki
      refine XK.region rfl ?_
      refine XO.q (Q.assign rfl) ?_
      refine XO.done ?_
      refine XK.beginRound ?_
      refine XK.block ?_
      refine XK.drawn [1, 2, 3, 5] [b3, b4] [] (.q 1 (.q 2 (.q 3 (.br 0 true (.br 4 true (.q 5 (.br 6 false .done .stop)) .stop) (.br 4 true (.br 0 true (.q 5 (.br 6 false .done .stop)) .stop) .stop))))) Try.mixed rfl (by kernel_rfl) ?_
      refine XT.q rfl rfl (Q.ldA [_, _] rfl rfl rfl) ?_
      refine XT.q rfl rfl (Q.ld rfl rfl) ?_
      refine XT.q rfl rfl (Q.move rfl) ?_
      refine XT.qs rfl rfl (Q.ld rfl rfl) ⟨inferInstance, ?_⟩ ?_
      · skip
        refine XT.call rfl rfl Try.call58 rfl rfl rfl (lack_spec b vb vg hb hg l vl hl ((listsP b most).getD k default) vx K0 sk.ob sk.ol (lists_in sk.ob sk.m0 (k := k) (by omega)).1) (fun v26 s26 R26 => ?_) XT.stop
        obtain ⟨rfl, rfl⟩ := R26
        dsimp only [List.cons_append, List.nil_append]
        refine ⟨inferInstance, ?_⟩
        refine XT.q rfl rfl (Q.max rfl rfl) ?_
        refine XT.st rfl rfl rfl rfl rfl ⟨inferInstance, ?_⟩ XT.stop
        refine XT.done ?_
        refine XK.inBlock ?_
        exact XK.leave (j := none) [blk b9 [.int .i64 (max (leastTo b (powers l) (listsP b most) (k)) (lackP b (powers l) ((listsP b most).getD k default)))] 3] trivial ⟨(k + 1), rfl, rfl⟩
      · skip
        refine XT.call rfl rfl Try.call58 rfl rfl rfl (lack_spec b vb vg hb hg l vl hl ((listsP b most).getD k default) vx K0 sk.ob sk.ol (lists_in sk.ob sk.m0 (k := k) (by omega)).1) (fun v26 s26 R26 => ?_) XT.stop
        obtain ⟨rfl, rfl⟩ := R26
        dsimp only [List.cons_append, List.nil_append]
        refine ⟨inferInstance, ?_⟩
        refine XT.qs rfl rfl (Q.ld rfl rfl) ⟨inferInstance, ?_⟩ XT.stop
        refine XT.q rfl rfl (Q.max rfl rfl) ?_
        refine XT.st rfl rfl rfl rfl rfl ⟨inferInstance, ?_⟩ XT.stop
        refine XT.done ?_
        refine XK.inBlock ?_
        exact XK.leave (j := none) [blk b9 [.int .i64 (max (leastTo b (powers l) (listsP b most) (k)) (lackP b (powers l) ((listsP b most).getD k default)))] 3] trivial ⟨(k + 1), rfl, rfl⟩
    · rintro k K0 hki
      dsimp only [List.cons_append, List.nil_append]
      subst hki
      refine XK.inBlock ?_
      refine XK.seq ?_
      refine XK.region rfl ?_
      refine XO.q (Q.ld rfl rfl) ?_
      refine XO.q (Q.assign rfl) ?_
      refine XO.q (Q.assign rfl) ?_
      refine XO.done ?_
      refine XK.rt [] Try.func20 Try.results20 (.t rfl (.t rfl .n)) ?_
      have e0 := Decidable.of_not_not c0
      exact ⟨by rw [if_pos e0, e0]; rfl, rfl⟩
theorem Hold_spec (b : BBank) (vb vg : Value) (hb hg : PHeap) [ib : Arr vb encBat 4 hb b.bats] [ig : Arr vg encGen 5 hg b.gens] (power most : Int) (hm1 : most ≤ 9223372036854775807) : Spec Try.prog 22 #[.agg #[vb, vg], .int .i64 power, .int .i64 most] [] [hb, hg] (fun v hs => v = .tuple #[.int .i64 (holdP b power most).1, .int .i64 (holdP b power most).2] ∧ hs = []) := by
  refine Spec.intro (fn := Try.f22) (N := 46) Try.func22 rfl Try.ntmps22 rfl fun B => ?_
  refine XK.seq ?_
  refine XK.region rfl ?_
  refine XO.box rfl fun b3 => ?_
  refine XO.q (Q.assign rfl) ?_
  refine XO.q (Q.assign rfl) ?_
  refine XO.done ?_
  refine XK.seq ?_
  refine XK.seq ?_
  refine XK.region rfl ?_
  refine XO.q (Q.ldA [_, _] rfl rfl rfl) ?_
  refine XO.call Try.call38 rfl rfl rfl (Check_spec b vb vg hb hg) fun v14 s14 R14 => ?_
  obtain ⟨rfl, rfl⟩ := R14
  dsimp only [List.cons_append, List.nil_append]
  refine XO.q (Q.assign rfl) ?_
  refine XO.done ?_
  refine XK.seq ?_
  refine XK.region rfl ?_
  refine XO.q (Q.move rfl) ?_
  refine XO.q (Q.neq rfl rfl) ?_
  refine XO.done ?_
  refine XK.if rfl (fun c0 => ?_) (fun c0 => ?_)
  · have _t0 := True.intro
    refine XK.seq ?_
    refine XK.region rfl ?_
    refine XO.q (Q.move rfl) ?_
    refine XO.q (Q.assign rfl) ?_
    refine XO.q (Q.assign rfl) ?_
    refine XO.done ?_
    refine XK.rt [] Try.func22 Try.results22 (.t rfl (.t rfl .n)) ?_
    exact ⟨by rw [holdP, if_pos c0], rfl⟩
  · have _t0 := True.intro
    refine XK.skip ?_
    refine XK.seq ?_
    refine XK.seq ?_
    refine XK.region rfl ?_
    refine XO.q (Q.move rfl) ?_
    refine XO.lit [_] [_] [power] encI (by rfl) (by rfl) rfl (by rfl) (by exact .c 0 1 rfl rfl rfl (.n _)) (fun _ => rfl) (by rfl) rfl (by infer_instance) rfl fun v19 h19 O19 => ?_
    refine XO.call Try.call59 rfl rfl rfl (within_spec 1000000 v19 h19 [power]) fun v20 s20 R20 => ?_
    obtain ⟨rfl, rfl⟩ := R20
    dsimp only [List.cons_append, List.nil_append]
    refine XO.q (Q.not rfl) ?_
    refine XO.done ?_
    refine XK.if rfl (fun c1 => ?_) (fun c1 => ?_)
    · have _t1 := True.intro
      refine XK.seq ?_
      refine XK.region rfl ?_
      refine XO.q (Q.assign rfl) ?_
      refine XO.q (Q.assign rfl) ?_
      refine XO.done ?_
      refine XK.rt [] Try.func22 Try.results22 (.t rfl (.t rfl .n)) ?_
      exact ⟨by rw [holdP, if_neg c0, if_pos (by simpa using c1)], rfl⟩
    · have _t1 := True.intro
      refine XK.skip ?_
      refine XK.seq ?_
      refine XK.region rfl ?_
      refine XO.q (Q.move rfl) ?_
      refine XO.q (Q.build [_, _] (.c 0 1 rfl rfl rfl (.c 1 1 rfl rfl rfl (.n _)))) ?_
      refine XO.q (Q.move rfl) ?_
      refine XO.q (Q.build [_, _] (.c 0 1 rfl rfl rfl (.c 1 1 rfl rfl rfl (.n _)))) ?_
      refine XO.lit [_, _, _, _] [_, _, _, _] (holdLoad power) encSpan (by rfl) (by rfl) rfl (by rfl) (by exact .c 0 2 rfl rfl rfl (.c 2 2 rfl rfl rfl (.n _))) (fun _ => rfl) (by rfl) rfl (by infer_instance) rfl fun v26 h26 O26 => ?_
      refine XO.q (Q.assign rfl) ?_
      refine XO.done ?_
      refine XK.seq ?_
      refine XK.seq ?_
      refine XK.region rfl ?_
      refine XO.q (Q.ldA [_, _] rfl rfl rfl) ?_
      refine XO.q (Q.move rfl) ?_
      refine XO.q (Q.move rfl) ?_
      refine XO.call Try.call52 rfl rfl rfl (search_spec b vb vg hb hg (holdLoad power) v26 h26 most) fun v30 s30 R30 => ?_
      obtain ⟨rfl, rfl⟩ := R30
      dsimp only [List.cons_append, List.nil_append]
      refine XO.q (Q.assign rfl) ?_
      refine XO.done ?_
      refine XK.seq ?_
      refine XK.region rfl ?_
      refine XO.q (Q.move rfl) ?_
      refine XO.q (Q.neq rfl rfl) ?_
      refine XO.done ?_
      refine XK.if rfl (fun c2 => ?_) (fun c2 => ?_)
      · have _t2 := True.intro
        refine XK.seq ?_
        refine XK.region rfl ?_
        refine XO.q (Q.move rfl) ?_
        refine XO.q (Q.assign rfl) ?_
        refine XO.q (Q.assign rfl) ?_
        refine XO.done ?_
        refine XK.rt [] Try.func22 Try.results22 (.t rfl (.t rfl .n)) ?_
        exact ⟨by rw [holdP, if_neg c0, if_neg (by simpa using c1), if_pos c2], rfl⟩
      · have _t2 := True.intro
        refine XK.skip ?_
        refine XK.seq ?_
        refine XK.region rfl ?_
        refine XO.q (Q.ldA [_, _] rfl rfl rfl) ?_
        refine XO.q (Q.move rfl) ?_
        refine XO.q (Q.move rfl) ?_
        have sk := searchP_iff.1 (Decidable.of_not_not c2)
        refine XO.call Try.call53 rfl rfl rfl (worst_spec b vb vg hb hg (holdLoad power) v26 h26 sk.ob sk.ol most sk.m0 hm1) fun v38 s38 R38 => ?_
        obtain ⟨vw, ve, vn, K, ke, kn, rfl, rfl, ow, AW, OE, OB⟩ := R38
        dsimp only [List.cons_append, List.nil_append]
        refine XO.q (Q.move rfl) ?_
        refine XO.q (Q.extract rfl rfl) ?_
        refine XO.q (Q.extract rfl rfl) ?_
        refine XO.alloc fun b12 => ?_
        refine XO.q (Q.assign rfl) ?_
        refine XO.st rfl rfl rfl ?_
        refine XO.done ?_
        refine XK.seq ?_
        refine XK.seq ?_
        refine XK.region rfl ?_
        refine XO.q (Q.fieldAddr rfl) ?_
        refine XO.q (Q.ld rfl rfl) ?_
        refine XO.q (Q.lss rfl rfl) ?_
        refine XO.done ?_
        refine XK.if rfl (fun c3 => ?_) (fun c3 => ?_)
        · have _t3 := True.intro
          refine XK.seq ?_
          refine XK.region rfl ?_
          refine XO.q (Q.assign rfl) ?_
          refine XO.q (Q.assign rfl) ?_
          refine XO.done ?_
          refine XK.rt [] Try.func22 Try.results22 (.t rfl (.t rfl .n)) ?_
          exact ⟨by rw [holdP, if_neg c0, if_neg (by simpa using c1), if_neg c2, if_pos c3], rfl⟩
        · have _t3 := True.intro
          refine XK.skip ?_
          refine XK.seq ?_
          refine XK.region rfl ?_
          refine XO.q (Q.fieldAddr rfl) ?_
          refine XO.q (Q.ld rfl rfl) ?_
          refine XO.q (Q.assign rfl) ?_
          refine XO.q (Q.assign rfl) ?_
          refine XO.done ?_
          refine XK.rt [] Try.func22 Try.results22 (.t rfl (.t rfl .n)) ?_
          exact ⟨by rw [holdP, if_neg c0, if_neg (by simpa using c1), if_neg c2, if_neg c3], rfl⟩
theorem example06 : Spec Try.prog 47 #[] [] [] (fun v hs => ∃ vb vg vl kb kg kl, v = .tuple #[.agg #[vb, vg], vl] ∧ hs = [kb, kg, kl] ∧ OArr vb encBat 4 73 kb exB.bats ∧ OArr vg encGen 5 85 kg exB.gens ∧ OArr vl encSpan 2 38 kl exL) := by
  refine Spec.intro (fn := Try.f47) (N := 9) Try.func47 rfl Try.ntmps47 rfl fun B => ?_
  refine XK.seq ?_
  refine XK.region rfl ?_
  refine XO.alloc fun b0 => ?_
  refine XO.q (Q.assign rfl) ?_
  refine XO.done ?_
  refine XK.seq ?_
  refine XK.region rfl ?_
  refine XO.q (Q.build [_, _, _, _] (.c 0 1 rfl rfl rfl (.c 1 1 rfl rfl rfl (.c 2 1 rfl rfl rfl (.c 3 1 rfl rfl rfl (.n _)))))) ?_
  refine XO.lit [_, _, _, _] [_, _, _, _] [⟨1000, 1000, 100, 10⟩] encBat (by rfl) (by rfl) rfl (by rfl) (by exact .c 0 4 rfl rfl rfl (.n _)) (fun _ => rfl) (by rfl) rfl (by infer_instance) rfl fun v3 h3 O3 => ?_
  refine XO.q (Q.build [_, _, _, _, _] (.c 0 1 rfl rfl rfl (.c 1 1 rfl rfl rfl (.c 2 1 rfl rfl rfl (.c 3 1 rfl rfl rfl (.c 4 1 rfl rfl rfl (.n _))))))) ?_
  refine XO.lit [_, _, _, _, _] [_, _, _, _, _] [⟨100, 20, 5, 2, 2⟩] encGen (by rfl) (by rfl) rfl (by rfl) (by exact .c 0 5 rfl rfl rfl (.n _)) (fun _ => rfl) (by rfl) rfl (by infer_instance) rfl fun v5 h5 O5 => ?_
  refine XO.q (Q.build [_, _] (.c 0 1 rfl rfl rfl (.c 1 1 rfl rfl rfl (.n _)))) ?_
  refine XO.q (Q.build [_, _] (.c 0 1 rfl rfl rfl (.c 1 1 rfl rfl rfl (.n _)))) ?_
  refine XO.lit [_, _] [_, _] [⟨60, 100⟩] encSpan (by rfl) (by rfl) rfl (by rfl) (by exact .c 0 2 rfl rfl rfl (.n _)) (fun _ => rfl) (by rfl) rfl (by infer_instance) rfl fun v8 h8 O8 => ?_
  refine XO.st rfl rfl rfl ?_
  refine XO.q (Q.assign rfl) ?_
  refine XO.done ?_
  refine XK.rt [h3, h5, h8] Try.func47 Try.results47 (.cell [_, _] rfl rfl rfl (.t rfl .n)) ?_
  exact ⟨v3, v5, v8, h3, h5, h8, rfl, rfl, O3, O5, O8⟩
theorem awake06 : Spec Try.prog 14 #[] [] [] (fun v hs => v = .bool true ∧ hs = []) := by
  refine Spec.intro (fn := Try.f14) (N := 84) Try.func14 rfl Try.ntmps14 rfl fun B => ?_
  refine XK.seq ?_
  refine XK.region rfl ?_
  refine XO.q (Q.assign rfl) ?_
  refine XO.done ?_
  refine XK.seq ?_
  refine XK.region rfl ?_
  refine XO.call Try.call47 rfl rfl rfl (example06) fun v13 s13 R13 => ?_
  obtain ⟨vb, vg, vl, kb, kg, kl, rfl, rfl, Ob, Og, Ol⟩ := R13
  dsimp only [List.cons_append, List.nil_append]
  refine XO.q (Q.move rfl) ?_
  refine XO.q (Q.extract rfl rfl) ?_
  refine XO.q (Q.extract rfl rfl) ?_
  refine XO.alloc fun b1 => ?_
  refine XO.st rfl rfl rfl ?_
  refine XO.q (Q.assign rfl) ?_
  refine XO.done ?_
  refine XK.seq ?_
  refine XK.region rfl ?_
  refine XO.q (Q.ldA [_, _] rfl rfl rfl) ?_
  refine XO.q (Q.move rfl) ?_
  refine XO.lit [_] [_] [0] encI (by rfl) (by rfl) rfl (by rfl) (by exact .c 0 1 rfl rfl rfl (.n _)) (fun _ => rfl) (by rfl) rfl (by infer_instance) rfl fun v19 h19 O19 => ?_
  refine XO.call Try.call30 rfl rfl rfl (Run_spec exB vb vg kb kg exL vl kl [0] v19 h19) fun v20 s20 R20 => ?_
  obtain ⟨ve, vn, ke, kn, rfl, rfl, OE, OB⟩ := R20
  dsimp only [List.cons_append, List.nil_append]
  rw [if_pos ex_ready] at OE
  rw [ex_ready, if_pos rfl]
  rw [ex_energy] at OE
  dsimp only [resV]
  rw [show (runP exB (powers exL) [0]).dark = -1 from ex_dark]
  refine XO.q (Q.move rfl) ?_
  refine XO.q (Q.extract rfl rfl) ?_
  refine XO.q (Q.extract rfl rfl) ?_
  refine XO.alloc fun b3 => ?_
  refine XO.st rfl rfl rfl ?_
  refine XO.q (Q.assign rfl) ?_
  refine XO.done ?_
  refine XK.seq ?_
  refine XK.region rfl ?_
  refine XO.q (Q.ldA [_, _] rfl rfl rfl) ?_
  refine XO.q (Q.move rfl) ?_
  refine XO.call Try.call17 rfl rfl rfl (Worst_spec exB vb vg kb kg exL vl kl 1 (by decide)) fun v26 s26 R26 => ?_
  obtain ⟨vw, ve2, vn2, K, ke2, kn2, rfl, rfl, ow, AW, OE2, OB2⟩ := R26
  dsimp only [List.cons_append, List.nil_append]
  rw [if_pos ex_search] at AW
  rw [ex_search, if_pos rfl]
  rw [ex_worst.1] at AW
  dsimp only [resV]
  rw [ex_worst.2]
  refine XO.q (Q.move rfl) ?_
  refine XO.q (Q.extract rfl rfl) ?_
  refine XO.q (Q.extract rfl rfl) ?_
  refine XO.q (Q.extract rfl rfl) ?_
  refine XO.alloc fun b6 => ?_
  refine XO.q (Q.assign rfl) ?_
  refine XO.st rfl rfl rfl ?_
  refine XO.q (Q.assign rfl) ?_
  refine XO.done ?_
  refine XK.seq ?_
  refine XK.region rfl ?_
  refine XO.q (Q.ldA [_, _] rfl rfl rfl) ?_
  refine XO.call Try.call22 rfl rfl rfl (Hold_spec exB vb vg kb kg 100 1 (by decide)) fun v32 s32 R32 => ?_
  obtain ⟨rfl, rfl⟩ := R32
  dsimp only [List.cons_append, List.nil_append]
  rw [ex_hold]
  dsimp only
  refine XO.q (Q.move rfl) ?_
  refine XO.q (Q.extract rfl rfl) ?_
  refine XO.q (Q.extract rfl rfl) ?_
  refine XO.q (Q.assign rfl) ?_
  refine XO.q (Q.assign rfl) ?_
  refine XO.done ?_
  refine XK.seq ?_
  refine XK.region rfl ?_
  refine XO.q (Q.ldA [_, _] rfl rfl rfl) ?_
  refine XO.q (Q.move rfl) ?_
  refine XO.call Try.call20 rfl rfl rfl (Least_spec exB vb vg kb kg exL vl kl 1 (by decide)) fun v38 s38 R38 => ?_
  obtain ⟨rfl, rfl⟩ := R38
  dsimp only [List.cons_append, List.nil_append]
  rw [ex_search, if_pos rfl, ex_least]
  refine XO.q (Q.move rfl) ?_
  refine XO.q (Q.extract rfl rfl) ?_
  refine XO.q (Q.extract rfl rfl) ?_
  refine XO.q (Q.assign rfl) ?_
  refine XO.q (Q.assign rfl) ?_
  refine XO.done ?_
  refine XK.seq ?_
  refine XK.region rfl ?_
  refine XO.q (Q.move rfl) ?_
  refine XO.q (Q.eql rfl rfl) ?_
  refine XO.q (Q.move rfl) ?_
  refine XO.q (Quiet.guardT rfl rfl fun g44 p44 => Q.move rfl) ?_
  refine XO.q (Quiet.guardT rfl rfl fun g45 p45 => Q.eql (lzv rfl rfl) rfl) ?_
  refine XO.q (Q.and rfl (fun hp => lzv hp rfl)) ?_
  refine XO.q (Q.move rfl) ?_
  refine XO.q (Quiet.guardT rfl rfl fun g48 p48 => Q.move rfl) ?_
  refine XO.q (Quiet.guardT rfl rfl fun g49 p49 => Q.eql (lzv rfl rfl) rfl) ?_
  refine XO.q (Q.and rfl (fun hp => lzv hp rfl)) ?_
  refine XO.q (Q.move rfl) ?_
  refine XO.q (Quiet.guardT rfl rfl fun g52 p52 => Q.move rfl) ?_
  refine XO.q (Quiet.guardT rfl rfl fun g53 p53 => Q.eql (lzv rfl rfl) rfl) ?_
  refine XO.q (Q.and rfl (fun hp => lzv hp rfl)) ?_
  refine XO.q (Q.move rfl) ?_
  refine XO.q (Quiet.guardT rfl rfl fun g56 p56 => Q.fieldAddr rfl) ?_
  refine XO.q (Quiet.guardT rfl rfl fun g57 p57 => Q.ld (lzv rfl rfl) rfl) ?_
  refine XO.q (Quiet.guardT rfl rfl fun g58 p58 => Q.eql (lzv rfl rfl) rfl) ?_
  refine XO.q (Q.and rfl (fun hp => lzv hp rfl)) ?_
  refine XO.q (Q.move rfl) ?_
  refine XO.q (Quiet.guardT rfl rfl fun g61 p61 => Q.fieldAddr rfl) ?_
  refine XO.q (Quiet.guardT rfl rfl fun g62 p62 => Q.ld (lzv rfl rfl) rfl) ?_
  refine XO.litG [_] [_] [300] encI rfl rfl rfl (by rfl) (by rfl) rfl (by rfl) (by exact .c 0 1 rfl rfl rfl (.n _)) (fun _ => rfl) (by rfl) rfl (by infer_instance) rfl fun v63 h63 O63 => ?_
  refine XO.callS rfl rfl rfl Try.call24 rfl (.c (lzv rfl rfl) (.c rfl .n)) rfl (equalI ve v63 ke h63 [300] [300]) fun v64 s64 R64 => ?_
  obtain ⟨rfl, rfl⟩ := R64
  dsimp only [List.cons_append, List.nil_append]
  refine XO.q (Q.and rfl (fun _ => rfl)) ?_
  refine XO.q (Q.move rfl) ?_
  refine XO.q (Quiet.guardT rfl rfl fun g67 p67 => Q.move rfl) ?_
  refine XO.litG [_] [_] [1] encI rfl rfl rfl (by rfl) (by rfl) rfl (by rfl) (by exact .c 0 1 rfl rfl rfl (.n _)) (fun _ => rfl) (by rfl) rfl (by infer_instance) rfl fun v68 h68 O68 => ?_
  refine XO.callS rfl rfl rfl Try.call24 rfl (.c (lzv rfl rfl) (.c rfl .n)) rfl (equalI vw v68 K h68 [1] [1]) fun v69 s69 R69 => ?_
  obtain ⟨rfl, rfl⟩ := R69
  dsimp only [List.cons_append, List.nil_append]
  refine XO.q (Q.and rfl (fun _ => rfl)) ?_
  refine XO.q (Q.move rfl) ?_
  refine XO.q (Quiet.guardT rfl rfl fun g72 p72 => Q.fieldAddr rfl) ?_
  refine XO.q (Quiet.guardT rfl rfl fun g73 p73 => Q.ld (lzv rfl rfl) rfl) ?_
  refine XO.q (Quiet.guardT rfl rfl fun g74 p74 => Q.eql (lzv rfl rfl) rfl) ?_
  refine XO.q (Q.and rfl (fun hp => lzv hp rfl)) ?_
  refine XO.q (Q.move rfl) ?_
  refine XO.q (Quiet.guardT rfl rfl fun g77 p77 => Q.move rfl) ?_
  refine XO.q (Quiet.guardT rfl rfl fun g78 p78 => Q.eql (lzv rfl rfl) rfl) ?_
  refine XO.q (Q.and rfl (fun hp => lzv hp rfl)) ?_
  refine XO.q (Q.move rfl) ?_
  refine XO.q (Quiet.guardT rfl rfl fun g81 p81 => Q.move rfl) ?_
  refine XO.q (Quiet.guardT rfl rfl fun g82 p82 => Q.eql (lzv rfl rfl) rfl) ?_
  refine XO.q (Q.and rfl (fun hp => lzv hp rfl)) ?_
  refine XO.q (Q.assign rfl) ?_
  refine XO.done ?_
  refine XK.rt [] Try.func14 Try.results14 (.t rfl .n) ?_
  exact ⟨rfl, rfl⟩
end Go.X

set_option linter.unusedSimpArgs false
set_option linter.unusedVariables false
set_option maxRecDepth 20000
namespace Go.X
open Go.Proofs
theorem made06 (vx : Value) (hx : PHeap) (x : List UInt8) [jx : Arr vx encU8 1 hx x] : Spec Try.prog 28 #[vx] [] [hx] (fun v hs => ∃ vb vg kb kg, v = .agg #[vb, vg] ∧ hs = [kb, kg] ∧ OArr vb encBat 4 73 kb (madeP x).bats ∧ OArr vg encGen 5 85 kg (madeP x).gens) := by
  have hb := fun i => byt_ok x i
  unfold byt at hb
  have nB : OArr (.slice none 0 0) encBat 4 73 emp ([] : List BBat) := OArr.nil (fun _ => rfl)
  have nG : OArr (.slice none 0 0) encGen 5 85 emp ([] : List BGen) := OArr.nil (fun _ => rfl)
  refine Spec.intro (fn := Try.f28) (N := 97) Try.func28 rfl Try.ntmps28 rfl fun B => ?_
  refine XK.seq ?_
  refine XK.region rfl ?_
  refine XO.alloc fun b2 => ?_
  refine XO.done ?_
  refine XK.seq ?_
  refine XK.region rfl ?_
  refine XO.alloc fun b3 => ?_
  refine XO.done ?_
  refine XK.seq ?_
  refine XK.seq ?_
  refine XK.region rfl ?_
  refine XO.q (Q.assign rfl) ?_
  refine XO.done ?_
  refine XK.block ?_
  refine XK.while (X := Nat × Value × Value × PHeap × PHeap) [4, 5, 6, 7, 8, 9, 10, 11, 12, 13, 14, 15, 16, 17, 18, 19, 20, 21, 22, 23, 24, 25, 26, 27, 28, 29, 30, 31, 32, 33, 34, 35, 36, 37, 38, 39, 40, 41, 42, 43, 44, 45, 46, 47, 48, 49, 50, 51, 52, 53, 54, 55, 56, 57, 58, 59, 60, 61, 62, 63, 64, 65, 66, 67, 68, 69, 70, 71, 72, 73, 74, 75, 76, 77, 78, 79, 80, 81, 82, 83, 84, 85, 86, 87, 88, 89, 90, 91, 92, 93, 94, 95] (fun ⟨k, vb, vg, kb, kg⟩ => [(4, some (.int .i64 ((5 * k : Nat) : Int)))]) (fun ⟨k, vb, vg, kb, kg⟩ => [blk b3 [vb, vg] 25, kb, kg]) (fun ⟨k, vb, vg, kb, kg⟩ => 5 * k ≤ x.length ∧ k ≤ 7 ∧ OArr vb encBat 4 73 kb (madeTo x k).bats ∧ OArr vg encGen 5 85 kg (madeTo x k).gens) (fun ⟨k, vb, vg, kb, kg⟩ => 7 - k) (0, .slice none 0 0, .slice none 0 0, emp, emp) [blk b3 [.slice none 0 0, .slice none 0 0] 25, emp, emp] rfl ⟨by omega, by omega, nB, nG⟩ (.c rfl (.base 0 rfl rfl)) ?_
  rintro ⟨k, vb, vg, kb, kg⟩ ⟨hk, hk7, OB, OG⟩ ih0
  dsimp only [List.cons_append, List.nil_append] at ih0 ⊢
  refine XK.seq ?_
  refine XK.seq ?_
  refine XK.region rfl ?_
  refine XO.q (Q.move rfl) ?_
  refine XO.q (Q.add rfl rfl ⟨by omega, by omega⟩) ?_
  refine XO.q (Q.move rfl) ?_
  refine XO.len rfl fun l9 => ?_
  refine XO.q (Q.lss rfl rfl) ?_
  refine XO.q (Q.move rfl) ?_
  refine XO.q (Quiet.guardT rfl rfl fun g12 p12 => Q.move rfl) ?_
  refine XO.q (Quiet.guardT rfl rfl fun g13 p13 => Q.lss (lzv g13 rfl) rfl) ?_
  refine XO.q (Q.and rfl (fun hp => lzv hp rfl)) ?_
  refine XO.done ?_
  refine XK.if rfl (fun c0 => ?_) (fun c0 => ?_)
  · have _t0 := True.intro
    have hb0 := hb (5 * k)
    have hb1 := hb (5 * k + 1)
    have hb2 := hb (5 * k + 2)
    have hb3 := hb (5 * k + 3)
    have hb4 := hb (5 * k + 4)
    obtain ⟨_, _, lb, lg⟩ := madeTo_ok x k
    refine XK.skip ?_
    refine XK.seq ?_
    refine XK.block ?_
    refine XK.seq ?_
    refine XK.region rfl ?_
    refine XO.q (Q.move rfl) ?_
    refine XO.q (Q.rem rfl rfl (by omega) (by omega)) ?_
    refine XO.q (Q.eql rfl rfl) ?_
    refine XO.done ?_
    refine XK.if rfl (fun c1 => ?_) (fun c1 => ?_)
    · have _t1 := True.intro
      have e5 : madeTo x (k + 1) = ⟨(madeTo x k).bats ++ [batAt x (5 * k)], (madeTo x k).gens⟩ := by rw [madeTo, if_pos (by omega)]
      refine XK.seq ?_
      refine XK.region rfl ?_
      refine XO.q (Q.move rfl) ?_
      refine XO.q (Q.move rfl) ?_
      refine XO.ix rfl rfl (by omega) (by omega) fun i22 => ?_
      refine XO.q (Q.ldE rfl (by first | assumption | omega) rfl) ?_
      refine XO.q (Q.conv rfl) ?_
      rw [wrap64_of ⟨by omega, by omega⟩]
      refine XO.q (Q.mul rfl rfl ⟨by omega, by omega⟩) ?_
      refine XO.q (Q.assign rfl) ?_
      refine XO.done ?_
      refine XK.drawn [0, 2, 3, 4, 5, 6, 7, 8, 9, 10, 11, 12, 13, 14, 15, 16, 17, 18, 19, 20, 21, 22, 23, 24, 25, 28] [] [] (.q 0 (.q 2 (.q 3 (.q 4 (.q 5 (.q 6 (.q 7 (.q 8 (.q 9 (.q 10 (.q 11 (.q 12 (.q 13 (.q 14 (.q 15 (.q 16 (.q 17 (.q 18 (.q 19 (.q 20 (.q 21 (.q 22 (.q 23 (.q 24 (.q 25 (.br 1 true (.br 26 true (.br 27 true (.q 28 (.br 29 false .done .stop)) .stop) .stop) (.br 26 true (.br 1 true (.br 27 true (.q 28 (.br 29 false .done .stop)) .stop) .stop) .stop))))))))))))))))))))))))))) Try.mixed rfl (by kernel_rfl) ?_
      refine XT.q rfl rfl (Q.fieldAddr rfl) ?_
      refine XT.q rfl rfl (Q.move rfl) ?_
      refine XT.q rfl rfl (Q.move rfl) ?_
      refine XT.q rfl rfl (Q.move rfl) ?_
      refine XT.q rfl rfl (Q.add rfl rfl ⟨by omega, by omega⟩) ?_
      rw [show (((5 * k : Nat) : Int) + 1) = ((5 * k + 1 : Nat) : Int) from rfl]
      refine XT.ix rfl rfl rfl rfl (by omega) (by omega) fun i32 => ?_
      refine XT.q rfl rfl (Q.ldE rfl (by first | assumption | omega) rfl) ?_
      refine XT.q rfl rfl (Q.conv rfl) ?_
      rw [wrap64_of ⟨by omega, by omega⟩]
      have mq := mulLe (a := 40 * (((x.getD (5 * k) default).toNat : Nat) : Int)) (b := (((x.getD (5 * k + 1) default).toNat : Nat) : Int)) (m := 10200) (n := 255) (by omega) (by omega) (by omega) (by omega)
      refine XT.q rfl rfl (Q.mul rfl rfl ⟨by omega, by omega⟩) ?_
      refine XT.q rfl rfl (Q.quo rfl rfl (by omega) (by omega) (by omega)) ?_
      refine XT.q rfl rfl (Q.move rfl) ?_
      refine XT.q rfl rfl (Q.move rfl) ?_
      refine XT.q rfl rfl (Q.move rfl) ?_
      refine XT.q rfl rfl (Q.add rfl rfl ⟨by omega, by omega⟩) ?_
      rw [show (((5 * k : Nat) : Int) + 2) = ((5 * k + 2 : Nat) : Int) from rfl]
      refine XT.ix rfl rfl rfl rfl (by omega) (by omega) fun i41 => ?_
      refine XT.q rfl rfl (Q.ldE rfl (by first | assumption | omega) rfl) ?_
      refine XT.q rfl rfl (Q.conv rfl) ?_
      rw [wrap64_of ⟨by omega, by omega⟩]
      refine XT.q rfl rfl (Q.move rfl) ?_
      refine XT.q rfl rfl (Q.move rfl) ?_
      refine XT.q rfl rfl (Q.add rfl rfl ⟨by omega, by omega⟩) ?_
      rw [show (((5 * k : Nat) : Int) + 3) = ((5 * k + 3 : Nat) : Int) from rfl]
      refine XT.ix rfl rfl rfl rfl (by omega) (by omega) fun i47 => ?_
      refine XT.q rfl rfl (Q.ldE rfl (by first | assumption | omega) rfl) ?_
      refine XT.q rfl rfl (Q.rem rfl rfl (by omega) (by omega)) ?_
      refine XT.q rfl rfl (Q.conv rfl) ?_
      rw [wrap64_of ⟨by omega, by omega⟩]
      refine XT.q rfl rfl (Q.build [_, _, _, _] (.c 0 1 rfl rfl rfl (.c 1 1 rfl rfl rfl (.c 2 1 rfl rfl rfl (.c 3 1 rfl rfl rfl (.n _)))))) ?_
      refine XT.qs rfl rfl (Q.ld rfl rfl) ⟨inferInstance, ?_⟩ ?_
      · skip
        refine XT.lit [_, _, _, _] [_, _, _, _] [batAt x (5 * k)] encBat rfl rfl (by rfl) (by rfl) rfl (by rfl) (by exact .c 0 4 rfl rfl rfl (.n _)) (fun _ => rfl) (by rfl) rfl (by infer_instance) rfl (fun v52 h52 O52 => ⟨inferInstance, ?_⟩) XT.stop
        refine XT.append rfl rfl rfl rfl rfl rfl (by first | omega | (simp; omega)) (fun v53 h53 O53 => ⟨inferInstance, ?_⟩) XT.stop
        refine XT.q rfl rfl (Q.fieldAddr rfl) ?_
        refine XT.st rfl rfl rfl rfl rfl ⟨inferInstance, ?_⟩ XT.stop
        refine XT.done ?_
        refine XK.inBlock ?_
        refine XK.region rfl ?_
        refine XO.q (Q.move rfl) ?_
        refine XO.q (Q.add rfl rfl ⟨by omega, by omega⟩) ?_
        refine XO.q (Q.assign rfl) ?_
        refine XO.done ?_
        rw [show ((5 * k : Nat) : Int) + 5 = ((5 * (k + 1) : Nat) : Int) by omega]
        exact ih0 (k + 1, v53, vg, h53, kg) _ _ ⟨by dsimp only; omega, by dsimp only; omega, by dsimp only; rw [e5]; exact O53, by dsimp only; rw [e5]; exact OG⟩ (by first | omega | (dsimp only; omega)) (.c rfl (.base 144 rfl rfl)) inferInstance
      · skip
        refine XT.lit [_, _, _, _] [_, _, _, _] [batAt x (5 * k)] encBat rfl rfl (by rfl) (by rfl) rfl (by rfl) (by exact .c 0 4 rfl rfl rfl (.n _)) (fun _ => rfl) (by rfl) rfl (by infer_instance) rfl (fun v52 h52 O52 => ⟨inferInstance, ?_⟩) XT.stop
        refine XT.qs rfl rfl (Q.ld rfl rfl) ⟨inferInstance, ?_⟩ XT.stop
        refine XT.append rfl rfl rfl rfl rfl rfl (by first | omega | (simp; omega)) (fun v53 h53 O53 => ⟨inferInstance, ?_⟩) XT.stop
        refine XT.q rfl rfl (Q.fieldAddr rfl) ?_
        refine XT.st rfl rfl rfl rfl rfl ⟨inferInstance, ?_⟩ XT.stop
        refine XT.done ?_
        refine XK.inBlock ?_
        refine XK.region rfl ?_
        refine XO.q (Q.move rfl) ?_
        refine XO.q (Q.add rfl rfl ⟨by omega, by omega⟩) ?_
        refine XO.q (Q.assign rfl) ?_
        refine XO.done ?_
        rw [show ((5 * k : Nat) : Int) + 5 = ((5 * (k + 1) : Nat) : Int) by omega]
        exact ih0 (k + 1, v53, vg, h53, kg) _ _ ⟨by dsimp only; omega, by dsimp only; omega, by dsimp only; rw [e5]; exact O53, by dsimp only; rw [e5]; exact OG⟩ (by first | omega | (dsimp only; omega)) (.c rfl (.base 144 rfl rfl)) inferInstance
    · have _t1 := True.intro
      have e5 : madeTo x (k + 1) = ⟨(madeTo x k).bats, (madeTo x k).gens ++ [genAt x (5 * k)]⟩ := by rw [madeTo, if_neg (by omega)]
      refine XK.drawn [0, 2, 3, 4, 5, 6, 7, 8, 9, 10, 11, 12, 13, 14, 15, 16, 17, 18, 19, 20, 21, 22, 23, 24, 25, 26, 27, 28, 29, 30, 31, 32, 33, 34, 35, 36, 37, 40] [] [] (.q 0 (.q 2 (.q 3 (.q 4 (.q 5 (.q 6 (.q 7 (.q 8 (.q 9 (.q 10 (.q 11 (.q 12 (.q 13 (.q 14 (.q 15 (.q 16 (.q 17 (.q 18 (.q 19 (.q 20 (.q 21 (.q 22 (.q 23 (.q 24 (.q 25 (.q 26 (.q 27 (.q 28 (.q 29 (.q 30 (.q 31 (.q 32 (.q 33 (.q 34 (.q 35 (.q 36 (.q 37 (.br 1 true (.br 38 true (.br 39 true (.q 40 (.br 41 false .done .stop)) .stop) .stop) (.br 38 true (.br 1 true (.br 39 true (.q 40 (.br 41 false .done .stop)) .stop) .stop) .stop))))))))))))))))))))))))))))))))))))))) Try.mixed rfl (by kernel_rfl) ?_
      refine XT.q rfl rfl (Q.fieldAddr rfl) ?_
      refine XT.q rfl rfl (Q.move rfl) ?_
      refine XT.q rfl rfl (Q.move rfl) ?_
      refine XT.ix rfl rfl rfl rfl (by omega) (by omega) fun i59 => ?_
      refine XT.q rfl rfl (Q.ldE rfl (by first | assumption | omega) rfl) ?_
      refine XT.q rfl rfl (Q.conv rfl) ?_
      rw [wrap64_of ⟨by omega, by omega⟩]
      refine XT.q rfl rfl (Q.move rfl) ?_
      refine XT.q rfl rfl (Q.move rfl) ?_
      refine XT.q rfl rfl (Q.add rfl rfl ⟨by omega, by omega⟩) ?_
      rw [show (((5 * k : Nat) : Int) + 1) = ((5 * k + 1 : Nat) : Int) from rfl]
      refine XT.ix rfl rfl rfl rfl (by omega) (by omega) fun i65 => ?_
      refine XT.q rfl rfl (Q.ldE rfl (by first | assumption | omega) rfl) ?_
      refine XT.q rfl rfl (Q.rem rfl rfl (by omega) (by omega)) ?_
      refine XT.q rfl rfl (Q.conv rfl) ?_
      rw [wrap64_of ⟨by omega, by omega⟩]
      refine XT.q rfl rfl (Q.add rfl rfl ⟨by omega, by omega⟩) ?_
      refine XT.q rfl rfl (Q.move rfl) ?_
      refine XT.q rfl rfl (Q.move rfl) ?_
      refine XT.q rfl rfl (Q.add rfl rfl ⟨by omega, by omega⟩) ?_
      rw [show (((5 * k : Nat) : Int) + 2) = ((5 * k + 2 : Nat) : Int) from rfl]
      refine XT.ix rfl rfl rfl rfl (by omega) (by omega) fun i73 => ?_
      refine XT.q rfl rfl (Q.ldE rfl (by first | assumption | omega) rfl) ?_
      refine XT.q rfl rfl (Q.rem rfl rfl (by omega) (by omega)) ?_
      refine XT.q rfl rfl (Q.conv rfl) ?_
      rw [wrap64_of ⟨by omega, by omega⟩]
      refine XT.q rfl rfl (Q.move rfl) ?_
      refine XT.q rfl rfl (Q.move rfl) ?_
      refine XT.q rfl rfl (Q.add rfl rfl ⟨by omega, by omega⟩) ?_
      rw [show (((5 * k : Nat) : Int) + 3) = ((5 * k + 3 : Nat) : Int) from rfl]
      refine XT.ix rfl rfl rfl rfl (by omega) (by omega) fun i80 => ?_
      refine XT.q rfl rfl (Q.ldE rfl (by first | assumption | omega) rfl) ?_
      refine XT.q rfl rfl (Q.rem rfl rfl (by omega) (by omega)) ?_
      refine XT.q rfl rfl (Q.conv rfl) ?_
      rw [wrap64_of ⟨by omega, by omega⟩]
      refine XT.q rfl rfl (Q.move rfl) ?_
      refine XT.q rfl rfl (Q.move rfl) ?_
      refine XT.q rfl rfl (Q.add rfl rfl ⟨by omega, by omega⟩) ?_
      rw [show (((5 * k : Nat) : Int) + 4) = ((5 * k + 4 : Nat) : Int) from rfl]
      refine XT.ix rfl rfl rfl rfl (by omega) (by omega) fun i87 => ?_
      refine XT.q rfl rfl (Q.ldE rfl (by first | assumption | omega) rfl) ?_
      refine XT.q rfl rfl (Q.rem rfl rfl (by omega) (by omega)) ?_
      refine XT.q rfl rfl (Q.conv rfl) ?_
      rw [wrap64_of ⟨by omega, by omega⟩]
      refine XT.q rfl rfl (Q.add rfl rfl ⟨by omega, by omega⟩) ?_
      refine XT.q rfl rfl (Q.build [_, _, _, _, _] (.c 0 1 rfl rfl rfl (.c 1 1 rfl rfl rfl (.c 2 1 rfl rfl rfl (.c 3 1 rfl rfl rfl (.c 4 1 rfl rfl rfl (.n _))))))) ?_
      refine XT.qs rfl rfl (Q.ld rfl rfl) ⟨inferInstance, ?_⟩ ?_
      · skip
        refine XT.lit [_, _, _, _, _] [_, _, _, _, _] [genAt x (5 * k)] encGen rfl rfl (by rfl) (by rfl) rfl (by rfl) (by exact .c 0 5 rfl rfl rfl (.n _)) (fun _ => rfl) (by rfl) rfl (by infer_instance) rfl (fun v93 h93 O93 => ⟨inferInstance, ?_⟩) XT.stop
        refine XT.append rfl rfl rfl rfl rfl rfl (by first | omega | (simp; omega)) (fun v94 h94 O94 => ⟨inferInstance, ?_⟩) XT.stop
        refine XT.q rfl rfl (Q.fieldAddr rfl) ?_
        refine XT.st rfl rfl rfl rfl rfl ⟨inferInstance, ?_⟩ XT.stop
        refine XT.done ?_
        refine XK.inBlock ?_
        refine XK.region rfl ?_
        refine XO.q (Q.move rfl) ?_
        refine XO.q (Q.add rfl rfl ⟨by omega, by omega⟩) ?_
        refine XO.q (Q.assign rfl) ?_
        refine XO.done ?_
        rw [show ((5 * k : Nat) : Int) + 5 = ((5 * (k + 1) : Nat) : Int) by omega]
        exact ih0 (k + 1, vb, v94, kb, h94) _ _ ⟨by dsimp only; omega, by dsimp only; omega, by dsimp only; rw [e5]; exact OB, by dsimp only; rw [e5]; exact O94⟩ (by first | omega | (dsimp only; omega)) (.c rfl (.base 149 rfl rfl)) inferInstance
      · skip
        refine XT.lit [_, _, _, _, _] [_, _, _, _, _] [genAt x (5 * k)] encGen rfl rfl (by rfl) (by rfl) rfl (by rfl) (by exact .c 0 5 rfl rfl rfl (.n _)) (fun _ => rfl) (by rfl) rfl (by infer_instance) rfl (fun v93 h93 O93 => ⟨inferInstance, ?_⟩) XT.stop
        refine XT.qs rfl rfl (Q.ld rfl rfl) ⟨inferInstance, ?_⟩ XT.stop
        refine XT.append rfl rfl rfl rfl rfl rfl (by first | omega | (simp; omega)) (fun v94 h94 O94 => ⟨inferInstance, ?_⟩) XT.stop
        refine XT.q rfl rfl (Q.fieldAddr rfl) ?_
        refine XT.st rfl rfl rfl rfl rfl ⟨inferInstance, ?_⟩ XT.stop
        refine XT.done ?_
        refine XK.inBlock ?_
        refine XK.region rfl ?_
        refine XO.q (Q.move rfl) ?_
        refine XO.q (Q.add rfl rfl ⟨by omega, by omega⟩) ?_
        refine XO.q (Q.assign rfl) ?_
        refine XO.done ?_
        rw [show ((5 * k : Nat) : Int) + 5 = ((5 * (k + 1) : Nat) : Int) by omega]
        exact ih0 (k + 1, vb, v94, kb, h94) _ _ ⟨by dsimp only; omega, by dsimp only; omega, by dsimp only; rw [e5]; exact OB, by dsimp only; rw [e5]; exact O94⟩ (by first | omega | (dsimp only; omega)) (.c rfl (.base 149 rfl rfl)) inferInstance
  · have _t0 := True.intro
    have hkn : k = min 7 (x.length / 5) := by omega
    refine XK.exit rfl ?_
    refine XK.seq ?_
    refine XK.region rfl ?_
    refine XO.q (Q.ldA [_, _] rfl rfl rfl) ?_
    refine XO.st rfl rfl rfl ?_
    refine XO.done ?_
    refine XK.rt [kb, kg] Try.func28 Try.results28 (.cell [_, _] rfl rfl rfl (.n)) ?_
    subst hkn
    exact ⟨vb, vg, kb, kg, rfl, rfl, OB, OG⟩
theorem loaded06 (vx : Value) (hx : PHeap) (x : List UInt8) [jx : Arr vx encU8 1 hx x] : Spec Try.prog 31 #[vx] [] [hx] (fun v hs => ∃ kl, hs = [kl] ∧ OArr v encSpan 2 38 kl (loadP x)) := by
  have hb := fun i => byt_ok x i
  unfold byt at hb
  have nS : OArr (.slice none 0 0) encSpan 2 38 emp ([] : List BSpan) := OArr.nil (fun _ => rfl)
  refine Spec.intro (fn := Try.f31) (N := 34) Try.func31 rfl Try.ntmps31 rfl fun B => ?_
  refine XK.seq ?_
  refine XK.region rfl ?_
  refine XO.q (Q.assign rfl) ?_
  refine XO.done ?_
  refine XK.seq ?_
  refine XK.region rfl ?_
  refine XO.q (Q.assign rfl) ?_
  refine XO.done ?_
  refine XK.seq ?_
  refine XK.seq ?_
  refine XK.region rfl ?_
  refine XO.q (Q.assign rfl) ?_
  refine XO.done ?_
  refine XK.block ?_
  refine XK.while (X := Nat × Value × PHeap) [3, 4, 5, 6, 7, 8, 9, 10, 11, 12, 13, 14, 15, 16, 17, 18, 19, 20, 21, 22, 23, 24, 25, 26, 27, 28, 29, 30, 31, 32] (fun ⟨k, vl, kl⟩ => [(4, some (.int .i64 ((2 * k : Nat) : Int))), (3, some (vl))]) (fun ⟨k, vl, kl⟩ => [kl]) (fun ⟨k, vl, kl⟩ => 2 * k ≤ x.length ∧ k ≤ 8 ∧ OArr vl encSpan 2 38 kl (loadTo x k)) (fun ⟨k, vl, kl⟩ => 8 - k) (0, .slice none 0 0, emp) [emp] rfl ⟨by omega, by omega, nS⟩ (.c rfl (.c rfl (.base 0 rfl rfl))) ?_
  rintro ⟨k, vl, kl⟩ ⟨hk, hk8, OL⟩ ih0
  dsimp only [List.cons_append, List.nil_append] at ih0 ⊢
  refine XK.seq ?_
  refine XK.seq ?_
  refine XK.region rfl ?_
  refine XO.q (Q.move rfl) ?_
  refine XO.q (Q.add rfl rfl ⟨by omega, by omega⟩) ?_
  refine XO.q (Q.move rfl) ?_
  refine XO.len rfl fun l8 => ?_
  refine XO.q (Q.lss rfl rfl) ?_
  refine XO.q (Q.move rfl) ?_
  refine XO.q (Quiet.guardT rfl rfl fun g11 p11 => Q.move rfl) ?_
  refine XO.q (Quiet.guardT rfl rfl fun g12 p12 => Q.lss (lzv g12 rfl) rfl) ?_
  refine XO.q (Q.and rfl (fun hp => lzv hp rfl)) ?_
  refine XO.done ?_
  refine XK.if rfl (fun c0 => ?_) (fun c0 => ?_)
  · have _t0 := True.intro
    have hb0 := hb (2 * k)
    have hb1 := hb (2 * k + 1)
    have ll := (loadTo_ok x k).2
    refine XK.skip ?_
    refine XK.seq ?_
    refine XK.block ?_
    refine XK.drawn [0, 1, 2, 3, 4, 5, 6, 7, 8, 9, 10, 11, 12, 13, 14, 17] [] [] (.q 0 (.q 1 (.q 2 (.q 3 (.q 4 (.q 5 (.q 6 (.q 7 (.q 8 (.q 9 (.q 10 (.q 11 (.q 12 (.q 13 (.q 14 (.br 15 true (.br 16 true (.q 17 .done) .stop) .stop)))))))))))))))) Try.mixed rfl (by kernel_rfl) ?_
    refine XT.q rfl rfl (Q.move rfl) ?_
    refine XT.q rfl rfl (Q.move rfl) ?_
    refine XT.q rfl rfl (Q.move rfl) ?_
    refine XT.ix rfl rfl rfl rfl (by omega) (by omega) fun i19 => ?_
    refine XT.q rfl rfl (Q.ldE rfl (by first | assumption | omega) rfl) ?_
    refine XT.q rfl rfl (Q.rem rfl rfl (by omega) (by omega)) ?_
    refine XT.q rfl rfl (Q.conv rfl) ?_
    rw [wrap64_of ⟨by omega, by omega⟩]
    refine XT.q rfl rfl (Q.add rfl rfl ⟨by omega, by omega⟩) ?_
    refine XT.q rfl rfl (Q.move rfl) ?_
    refine XT.q rfl rfl (Q.move rfl) ?_
    refine XT.q rfl rfl (Q.add rfl rfl ⟨by omega, by omega⟩) ?_
    rw [show (((2 * k : Nat) : Int) + 1) = ((2 * k + 1 : Nat) : Int) from rfl]
    refine XT.ix rfl rfl rfl rfl (by omega) (by omega) fun i27 => ?_
    refine XT.q rfl rfl (Q.ldE rfl (by first | assumption | omega) rfl) ?_
    refine XT.q rfl rfl (Q.conv rfl) ?_
    rw [wrap64_of ⟨by omega, by omega⟩]
    refine XT.q rfl rfl (Q.build [_, _] (.c 0 1 rfl rfl rfl (.c 1 1 rfl rfl rfl (.n _)))) ?_
    refine XT.lit [_, _] [_, _] [spanAt x (2 * k)] encSpan rfl rfl (by rfl) (by rfl) rfl (by rfl) (by exact .c 0 2 rfl rfl rfl (.n _)) (fun _ => rfl) (by rfl) rfl (by infer_instance) rfl (fun v31 h31 O31 => ⟨inferInstance, ?_⟩) XT.stop
    refine XT.append rfl rfl rfl rfl rfl rfl (by first | omega | (simp; omega)) (fun v32 h32 O32 => ⟨inferInstance, ?_⟩) XT.stop
    refine XT.q rfl rfl (Q.assign rfl) ?_
    refine XT.done ?_
    refine XK.inBlock ?_
    refine XK.region rfl ?_
    refine XO.q (Q.move rfl) ?_
    refine XO.q (Q.add rfl rfl ⟨by omega, by omega⟩) ?_
    refine XO.q (Q.assign rfl) ?_
    refine XO.done ?_
    rw [show ((2 * k : Nat) : Int) + 2 = ((2 * (k + 1) : Nat) : Int) by omega]
    exact ih0 (k + 1, v32, h32) _ _ ⟨by dsimp only; omega, by dsimp only; omega, O32⟩ (by first | omega | (dsimp only; omega)) (.c rfl (.c rfl (.base 62 rfl rfl))) inferInstance
  · have _t0 := True.intro
    have hkn : k = min 8 (x.length / 2) := by omega
    refine XK.exit rfl ?_
    refine XK.seq ?_
    refine XK.region rfl ?_
    refine XO.q (Q.move rfl) ?_
    refine XO.q (Q.assign rfl) ?_
    refine XO.done ?_
    refine XK.rt [kl] Try.func31 Try.results31 (.t rfl .n) ?_
    subst hkn
    exact ⟨kl, rfl, OL⟩
theorem failed06 (b : BBank) (vb vg : Value) (hb hg : PHeap) [ib : Arr vb encBat 4 hb b.bats] [ig : Arr vg encGen 5 hg b.gens] (ok : BOk b) (vx : Value) (hx : PHeap) (x : List UInt8) [jx : Arr vx encU8 1 hx x] : Spec Try.prog 29 #[.agg #[vb, vg], vx] [] [hb, hg, hx] (fun v hs => ∃ kf, hs = [kf] ∧ OArr v encI 1 3 kf (failP b x)) := by
  have hby := fun i => byt_ok x i
  unfold byt at hby
  have n6 := ok.ng
  have lx := jx.le
  have nF : OArr (.slice none 0 0) encI 1 3 emp ([] : List Int) := OArr.nil (fun _ => rfl)
  refine Spec.intro (fn := Try.f29) (N := 36) Try.func29 rfl Try.ntmps29 rfl fun B => ?_
  refine XK.seq ?_
  refine XK.region rfl ?_
  refine XO.box rfl fun b2 => ?_
  refine XO.q (Q.assign rfl) ?_
  refine XO.done ?_
  refine XK.seq ?_
  refine XK.region rfl ?_
  refine XO.q (Q.assign rfl) ?_
  refine XO.done ?_
  refine XK.seq ?_
  refine XK.seq ?_
  refine XK.region rfl ?_
  refine XO.q (Q.fieldAddr rfl) ?_
  refine XO.q (Q.ld rfl rfl) ?_
  refine XO.len rfl fun l11 => ?_
  refine XO.q (Q.move rfl) ?_
  refine XO.done ?_
  refine XK.block ?_
  refine XK.while (X := Nat × Value × PHeap) [5, 6, 7, 8, 12, 13, 14, 15, 16, 17, 18, 19, 20, 21, 22, 23, 24, 25, 26, 27, 28, 29, 30, 31, 32, 33, 34] (fun ⟨i, vf, kf⟩ => [(12, some (.int .i64 (i : Nat))), (5, some (vf))]) (fun ⟨i, vf, kf⟩ => [kf]) (fun ⟨i, vf, kf⟩ => i ≤ b.gens.length ∧ OArr vf encI 1 3 kf (failTo b x i)) (fun ⟨i, vf, kf⟩ => b.gens.length - i) (0, .slice none 0 0, emp) [emp] rfl ⟨by omega, nF⟩ (.c rfl (.c rfl (.base 0 rfl rfl))) ?_
  rintro ⟨i, vf, kf⟩ ⟨hi, OF⟩ ih0
  dsimp only [List.cons_append, List.nil_append] at ih0 ⊢
  refine XK.seq ?_
  refine XK.region rfl ?_
  refine XO.q (Q.lss rfl rfl) ?_
  refine XO.done ?_
  refine XK.seq ?_
  refine XK.if rfl (fun c0 => ?_) (fun c0 => ?_)
  · have _t0 := True.intro
    have hb0 := hby i
    have fl := failTo_len b x i
    have gk := ok.gen _ (getD_memB (show i < b.gens.length by omega))
    have g0 := gk.t0
    have g1 := gk.t1
    refine XK.skip ?_
    refine XK.seq ?_
    refine XK.block ?_
    refine XK.seq ?_
    refine XK.region rfl ?_
    refine XO.q (Q.move rfl) ?_
    refine XO.ix rfl rfl (by omega) (by omega) fun i15 => ?_
    refine XO.q (Q.ldEA [_, _, _, _, _] rfl (by first | assumption | omega) rfl rfl) ?_
    refine XO.alloc fun b7 => ?_
    refine XO.q (Q.assign rfl) ?_
    refine XO.st rfl rfl rfl ?_
    refine XO.done ?_
    refine XK.seq ?_
    refine XK.region rfl ?_
    refine XO.q (Q.assign rfl) ?_
    refine XO.done ?_
    refine XK.seq ?_
    refine XK.seq ?_
    refine XK.region rfl ?_
    refine XO.q (Q.move rfl) ?_
    refine XO.q (Q.move rfl) ?_
    refine XO.len rfl fun l19 => ?_
    refine XO.q (Q.lss rfl rfl) ?_
    refine XO.done ?_
    refine XK.meet (X := Unit) [8, 21, 22, 23, 24, 25, 26, 27, 28, 29] (fun _u => [(8, some (.int .i64 (failAt b x i)))]) (fun _u => []) (fun _u => True) [] ?_ ?_
    · rintro _u _
      dsimp only [List.cons_append, List.nil_append]
      refine XK.region rfl ?_
      refine XO.q (Q.move rfl) ?_
      refine XO.q (Q.move rfl) ?_
      refine XO.lit [_] [_] [failAt b x i] encI (by rfl) (by rfl) rfl (by rfl) (by exact .c 0 1 rfl rfl rfl (.n _)) (fun _ => rfl) (by rfl) rfl (by infer_instance) rfl fun v32 h32 O32 => ?_
      refine XO.append rfl rfl rfl rfl (by first | omega | (simp; omega)) fun v33 h33 O33 => ?_
      refine XO.q (Q.assign rfl) ?_
      refine XO.done ?_
      refine XK.inBlock ?_
      refine XK.region rfl ?_
      refine XO.q (Q.add rfl rfl ⟨by omega, by omega⟩) ?_
      refine XO.q (Q.move rfl) ?_
      refine XO.done ?_
      exact ih0 (i + 1, v33, h33) _ _ ⟨by dsimp only; omega, O33⟩ (by first | omega | (dsimp only; omega)) (.c rfl (.c rfl (.base 58 rfl rfl))) inferInstance
    · intro mt1
      dsimp only [List.cons_append, List.nil_append] at mt1
      refine XK.if rfl (fun c1 => ?_) (fun c1 => ?_)
      · have _t1 := True.intro
        refine XK.drawn [0, 1, 2, 3, 4, 5, 6, 7, 8, 9] [b7] [] (.q 0 (.q 1 (.q 2 (.q 3 (.q 4 (.q 5 (.q 6 (.q 7 (.q 8 (.q 9 .done)))))))))) Try.mixed rfl (by kernel_rfl) ?_
        refine XT.q rfl rfl (Q.move rfl) ?_
        refine XT.q rfl rfl (Q.move rfl) ?_
        refine XT.ix rfl rfl rfl rfl (by omega) (by omega) fun i23 => ?_
        refine XT.q rfl rfl (Q.ldE rfl (by first | assumption | omega) rfl) ?_
        refine XT.q rfl rfl (Q.conv rfl) ?_
        rw [wrap64_of ⟨by omega, by omega⟩]
        refine XT.q rfl rfl (Q.fieldAddr rfl) ?_
        refine XT.q rfl rfl (Q.ld rfl rfl) ?_
        refine XT.q rfl rfl (Q.add rfl rfl ⟨by omega, by omega⟩) ?_
        refine XT.q rfl rfl (Q.rem rfl rfl (by omega) (by omega)) ?_
        rw [show (((x.getD i default).toNat : Nat) : Int) % ((b.gens.getD i default).tries + 1) = failAt b x i by rw [failAt, if_pos (by omega)]; rfl]
        refine XT.q rfl rfl (Q.assign rfl) ?_
        refine XT.done ?_
        exact mt1 (()) _ _ trivial (.c rfl (.base 10 rfl rfl)) inferInstance
      · have _t1 := True.intro
        refine XK.skip ?_
        rw [show failAt b x i = 0 by rw [failAt, if_neg (by omega)]] at mt1
        exact mt1 (()) _ _ trivial (.c rfl (.base 0 rfl rfl)) inferInstance
  · have _t0 := True.intro
    have hin : i = b.gens.length := by omega
    refine XK.exit rfl ?_
    refine XK.seq ?_
    refine XK.region rfl ?_
    refine XO.q (Q.move rfl) ?_
    refine XO.q (Q.assign rfl) ?_
    refine XO.done ?_
    refine XK.rt [kf] Try.func29 Try.results29 (.t rfl .n) ?_
    subst hin
    exact ⟨kf, rfl, OF⟩
theorem later06 (a c : Int) : Spec Try.prog 33 #[.int .i64 a, .int .i64 c] [] [] (fun v hs => v = .bool (laterP a c) ∧ hs = []) := by
  refine Spec.intro (fn := Try.f33) (N := 16) Try.func33 rfl Try.ntmps33 rfl fun B => ?_
  refine XK.seq ?_
  refine XK.region rfl ?_
  refine XO.q (Q.assign rfl) ?_
  refine XO.done ?_
  refine XK.seq ?_
  refine XK.region rfl ?_
  refine XO.q (Q.move rfl) ?_
  refine XO.q (Q.lss rfl rfl) ?_
  refine XO.q (Q.move rfl) ?_
  refine XO.q (Quiet.guardF rfl rfl fun g8 p8 => Q.move rfl) ?_
  refine XO.q (Quiet.guardF rfl rfl fun g9 p9 => Q.geq (lzv g9 rfl) rfl) ?_
  refine XO.q (Quiet.guardF rfl rfl fun g10 p10 => Q.move (lzv g10 rfl)) ?_
  refine XO.q (Quiet.guard2 rfl rfl fun g11a g11b => have p11a := bpF g11a; have p11b := bpT g11b; Q.move rfl) ?_
  refine XO.q (Quiet.guard2 rfl rfl fun g12a g12b => have p12a := bpF g12a; have p12b := bpT g12b; Q.move rfl) ?_
  refine XO.q (Quiet.guard2 rfl rfl fun g13a g13b => have p13a := bpF g13a; have p13b := bpT g13b; Q.geq (lzv g13b (lzv g13a rfl)) (lzv g13b (lzv g13a rfl))) ?_
  refine XO.q (Quiet.guardF rfl rfl fun g14 p14 => Q.and (lzv g14 rfl) (fun hp => (lzv hp (lzv g14 rfl)))) ?_
  refine XO.q (Q.or rfl (fun hp => lzv hp rfl)) ?_
  refine XO.q (Q.assign rfl) ?_
  refine XO.done ?_
  refine XK.rt [] Try.func33 Try.results33 (.t rfl .n) ?_
  exact ⟨rfl, rfl⟩
end Go.X

set_option linter.unusedSimpArgs false
set_option linter.unusedVariables false
set_option maxRecDepth 20000
namespace Go.X
open Go.Proofs
theorem in06 (n m : Int) : Spec Try.prog 60 #[.int .i64 n, .int .i64 m] [] [] (fun v hs => v = .bool (inR n m) ∧ hs = []) := by
  refine Spec.intro (fn := Try.f60) (N := 12) Try.func60 rfl Try.ntmps60 rfl fun B => ?_
  refine XK.seq ?_
  refine XK.region rfl ?_
  refine XO.q (Q.assign rfl) ?_
  refine XO.done ?_
  refine XK.seq ?_
  refine XK.region rfl ?_
  refine XO.q (Q.move rfl) ?_
  refine XO.q (Q.geq rfl rfl) ?_
  refine XO.q (Q.move rfl) ?_
  refine XO.q (Quiet.guardT rfl rfl fun g8 p8 => Q.move rfl) ?_
  refine XO.q (Quiet.guardT rfl rfl fun g9 p9 => Q.move rfl) ?_
  refine XO.q (Quiet.guardT rfl rfl fun g10 p10 => Q.leq (lzv g10 rfl) (lzv g10 rfl)) ?_
  refine XO.q (Q.and rfl (fun hp => lzv hp rfl)) ?_
  refine XO.q (Q.assign rfl) ?_
  refine XO.done ?_
  refine XK.rt [] Try.func60 Try.results60 (.t rfl .n) ?_
  exact ⟨rfl, rfl⟩
theorem rightG06 (g : BGen) : Spec Try.prog 72 #[genV g] [] [] (fun v hs => v = .bool (genOk g) ∧ hs = []) := by
  refine Spec.intro (fn := Try.f72) (N := 31) Try.func72 rfl Try.ntmps72 rfl fun B => ?_
  refine XK.seq ?_
  refine XK.region rfl ?_
  refine XO.box rfl fun b1 => ?_
  refine XO.q (Q.assign rfl) ?_
  refine XO.done ?_
  refine XK.seq ?_
  refine XK.region rfl ?_
  refine XO.q (Q.fieldAddr rfl) ?_
  refine XO.q (Q.ld rfl rfl) ?_
  refine XO.call Try.call60 rfl rfl rfl (in06 _ _) fun v5 s5 R5 => ?_
  obtain ⟨rfl, rfl⟩ := R5
  dsimp only [List.cons_append, List.nil_append]
  refine XO.q (Q.move rfl) ?_
  refine XO.q (Quiet.guardT rfl rfl fun g7 p7 => Q.fieldAddr rfl) ?_
  refine XO.q (Quiet.guardT rfl rfl fun g8 p8 => Q.ld (lzv g8 rfl) rfl) ?_
  refine XO.gcallT rfl rfl Try.call60 rfl (fun g9 => .c (lzv g9 rfl) (.c rfl .n)) rfl (fun g9 p9 => in06 _ _) ?_
  refine XO.q (Q.and rfl (fun hp => lzv hp rfl)) ?_
  refine XO.q (Q.move rfl) ?_
  refine XO.q (Quiet.guardT rfl rfl fun g12 p12 => Q.fieldAddr rfl) ?_
  refine XO.q (Quiet.guardT rfl rfl fun g13 p13 => Q.ld (lzv g13 rfl) rfl) ?_
  refine XO.gcallT rfl rfl Try.call60 rfl (fun g14 => .c (lzv g14 rfl) (.c rfl .n)) rfl (fun g14 p14 => in06 _ _) ?_
  refine XO.q (Q.and rfl (fun hp => lzv hp rfl)) ?_
  refine XO.q (Q.move rfl) ?_
  refine XO.q (Quiet.guardT rfl rfl fun g17 p17 => Q.fieldAddr rfl) ?_
  refine XO.q (Quiet.guardT rfl rfl fun g18 p18 => Q.ld (lzv g18 rfl) rfl) ?_
  refine XO.gcallT rfl rfl Try.call60 rfl (fun g19 => .c (lzv g19 rfl) (.c rfl .n)) rfl (fun g19 p19 => in06 _ _) ?_
  refine XO.q (Q.and rfl (fun hp => lzv hp rfl)) ?_
  refine XO.q (Q.move rfl) ?_
  refine XO.q (Quiet.guardT rfl rfl fun g22 p22 => Q.fieldAddr rfl) ?_
  refine XO.q (Quiet.guardT rfl rfl fun g23 p23 => Q.ld (lzv g23 rfl) rfl) ?_
  refine XO.q (Quiet.guardT rfl rfl fun g24 p24 => Q.gtr (lzv g24 rfl) rfl) ?_
  refine XO.q (Q.and rfl (fun hp => lzv hp rfl)) ?_
  refine XO.q (Q.move rfl) ?_
  refine XO.q (Quiet.guardT rfl rfl fun g27 p27 => Q.fieldAddr rfl) ?_
  refine XO.q (Quiet.guardT rfl rfl fun g28 p28 => Q.ld (lzv g28 rfl) rfl) ?_
  refine XO.q (Quiet.guardT rfl rfl fun g29 p29 => Q.lss (lzv g29 rfl) rfl) ?_
  refine XO.q (Q.and rfl (fun hp => lzv hp rfl)) ?_
  refine XO.q (Q.assign rfl) ?_
  refine XO.done ?_
  refine XK.rt [] Try.func72 Try.results72 (.t rfl .n) ?_
  exact ⟨by rw [← genOk_ref g], rfl⟩
theorem any_snoc {α : Type} [Inhabited α] {p : α → Bool} {l : List α} {i : Nat} (h : (l.take i).any p = false) (hi : i < l.length) (hp : p (l.getD i default) = false) : (l.take (i + 1)).any p = false := by
  rw [take_snocB hi, List.any_append, h, List.any_cons, List.any_nil, hp]; rfl
theorem RCheck_spec (b : BBank) (vb vg : Value) (hb hg : PHeap) [ib : Arr vb encBat 4 hb b.bats] [ig : Arr vg encGen 5 hg b.gens] : Spec Try.prog 39 #[.agg #[vb, vg]] [] [hb, hg] (fun v hs => v = .int .i64 (bcheck b) ∧ hs = []) := by
  have lb := ib.le
  have lg := ig.le
  refine Spec.intro (fn := Try.f39) (N := 66) Try.func39 rfl Try.ntmps39 rfl fun B => ?_
  refine XK.seq ?_
  refine XK.region rfl ?_
  refine XO.box rfl fun b1 => ?_
  refine XO.q (Q.assign rfl) ?_
  refine XO.done ?_
  refine XK.seq ?_
  refine XK.seq ?_
  refine XK.region rfl ?_
  refine XO.q (Q.fieldAddr rfl) ?_
  refine XO.q (Q.ld rfl rfl) ?_
  refine XO.len rfl fun l8 => ?_
  refine XO.q (Q.gtr rfl rfl) ?_
  refine XO.q (Q.move rfl) ?_
  refine XO.q (Quiet.guardF rfl rfl fun g11 p11 => Q.fieldAddr rfl) ?_
  refine XO.q (Quiet.guardF rfl rfl fun g12 p12 => Q.ld (lzv g12 rfl) rfl) ?_
  refine XO.q (Quiet.guardF rfl rfl fun g13 p13 => Q.len (lzv g13 rfl)) ?_
  refine XO.q (Quiet.guardF rfl rfl fun g14 p14 => Q.gtr (lzv g14 rfl) rfl) ?_
  refine XO.q (Q.or rfl (fun hp => lzv hp rfl)) ?_
  refine XO.done ?_
  refine XK.if rfl (fun c0 => ?_) (fun c0 => ?_)
  · have _t0 := True.intro
    refine XK.seq ?_
    refine XK.region rfl ?_
    refine XO.q (Q.assign rfl) ?_
    refine XO.done ?_
    refine XK.rt [] Try.func39 Try.results39 (.t rfl .n) ?_
    exact ⟨by rw [bcheck, if_pos (by omega)], rfl⟩
  · have _t0 := True.intro
    refine XK.skip ?_
    refine XK.seq ?_
    refine XK.seq ?_
    refine XK.region rfl ?_
    refine XO.q (Q.assign rfl) ?_
    refine XO.done ?_
    refine XK.block ?_
    refine XK.while (X := Nat) [2, 3, 4, 16, 17, 18, 19, 20, 21, 22, 23, 24, 25, 26, 27, 28, 29, 30, 31, 32, 33, 34, 35, 36, 37, 38, 39, 40, 41, 42, 43, 44, 45, 46, 47, 48, 49, 50, 51] (fun i => [(3, some (.int .i64 (i : Nat)))]) (fun i => []) (fun i => i ≤ b.bats.length ∧ (b.bats.take i).any (fun x => !batOk x) = false) (fun i => b.bats.length - i) (0) [] rfl ⟨by omega, rfl⟩ (.c rfl (.base 0 rfl rfl)) ?_
    rintro i ⟨hi, ha⟩ ih0
    dsimp only [List.cons_append, List.nil_append] at ih0 ⊢
    refine XK.seq ?_
    refine XK.seq ?_
    refine XK.region rfl ?_
    refine XO.q (Q.move rfl) ?_
    refine XO.q (Q.fieldAddr rfl) ?_
    refine XO.q (Q.ld rfl rfl) ?_
    refine XO.len rfl fun l19 => ?_
    refine XO.q (Q.lss rfl rfl) ?_
    refine XO.done ?_
    refine XK.if rfl (fun c1 => ?_) (fun c1 => ?_)
    · have _t1 := True.intro
      refine XK.skip ?_
      refine XK.seq ?_
      refine XK.block ?_
      refine XK.seq ?_
      refine XK.region rfl ?_
      refine XO.q (Q.fieldAddr rfl) ?_
      refine XO.q (Q.ld rfl rfl) ?_
      refine XO.q (Q.move rfl) ?_
      refine XO.ix rfl rfl (by omega) (by omega) fun i26 => ?_
      refine XO.q (Q.ldEA [_, _, _, _] rfl (by first | assumption | omega) rfl rfl) ?_
      refine XO.alloc fun b4 => ?_
      refine XO.st rfl rfl rfl ?_
      refine XO.done ?_
      refine XK.seq ?_
      refine XK.region rfl ?_
      refine XO.q (Q.fieldAddr rfl) ?_
      refine XO.q (Q.ld rfl rfl) ?_
      refine XO.call Try.call60 rfl rfl rfl (in06 _ _) fun v30 s30 R30 => ?_
      obtain ⟨rfl, rfl⟩ := R30
      dsimp only [List.cons_append, List.nil_append]
      refine XO.q (Q.not rfl) ?_
      refine XO.q (Q.move rfl) ?_
      refine XO.q (Quiet.guardF rfl rfl fun g33 p33 => Q.fieldAddr rfl) ?_
      refine XO.q (Quiet.guardF rfl rfl fun g34 p34 => Q.ld (lzv g34 rfl) rfl) ?_
      refine XO.q (Quiet.guardF rfl rfl fun g35 p35 => Q.fieldAddr rfl) ?_
      refine XO.q (Quiet.guardF rfl rfl fun g36 p36 => Q.ld (lzv g36 rfl) rfl) ?_
      refine XO.gcallF rfl rfl Try.call60 rfl (fun g37 => .c (lzv g37 rfl) (.c (lzv g37 rfl) .n)) rfl (fun g37 p37 => in06 _ _) ?_
      refine XO.q (Quiet.guardF rfl rfl fun g38 p38 => Q.not (lzv g38 rfl)) ?_
      refine XO.q (Q.or rfl (fun hp => lzv hp rfl)) ?_
      refine XO.q (Q.move rfl) ?_
      refine XO.q (Quiet.guardF rfl rfl fun g41 p41 => Q.fieldAddr rfl) ?_
      refine XO.q (Quiet.guardF rfl rfl fun g42 p42 => Q.ld (lzv g42 rfl) rfl) ?_
      refine XO.gcallF rfl rfl Try.call60 rfl (fun g43 => .c (lzv g43 rfl) (.c rfl .n)) rfl (fun g43 p43 => in06 _ _) ?_
      refine XO.q (Quiet.guardF rfl rfl fun g44 p44 => Q.not (lzv g44 rfl)) ?_
      refine XO.q (Q.or rfl (fun hp => lzv hp rfl)) ?_
      refine XO.q (Q.move rfl) ?_
      refine XO.q (Quiet.guardF rfl rfl fun g47 p47 => Q.fieldAddr rfl) ?_
      refine XO.q (Quiet.guardF rfl rfl fun g48 p48 => Q.ld (lzv g48 rfl) rfl) ?_
      refine XO.gcallF rfl rfl Try.call60 rfl (fun g49 => .c (lzv g49 rfl) (.c rfl .n)) rfl (fun g49 p49 => in06 _ _) ?_
      refine XO.q (Quiet.guardF rfl rfl fun g50 p50 => Q.not (lzv g50 rfl)) ?_
      refine XO.q (Q.or rfl (fun hp => lzv hp rfl)) ?_
      refine XO.done ?_
      refine XK.if rfl (fun c2 => ?_) (fun c2 => ?_)
      · have _t2 := True.intro
        refine XK.seq ?_
        refine XK.region rfl ?_
        refine XO.q (Q.assign rfl) ?_
        refine XO.done ?_
        refine XK.rt [] Try.func39 Try.results39 (.t rfl .n) ?_
        have hb2 : batOk (b.bats.getD i default) = false := by rw [Bool.eq_false_iff]; exact fun h => batOk_ref.2 h c2
        exact ⟨by rw [bcheck, if_neg (by omega), if_pos (.inl (List.any_eq_true.2 ⟨_, getD_memB (by omega), by rw [hb2]; rfl⟩))], rfl⟩
      · have _t2 := True.intro
        refine XK.skip ?_
        refine XK.inBlock ?_
        refine XK.region rfl ?_
        refine XO.q (Q.move rfl) ?_
        refine XO.q (Q.add rfl rfl ⟨by omega, by omega⟩) ?_
        refine XO.q (Q.assign rfl) ?_
        refine XO.done ?_
        exact ih0 (i + 1) _ _ ⟨by omega, any_snoc ha (by omega) (by rw [batOk_ref.1 c2]; rfl)⟩ (by first | omega | (dsimp only; omega)) (.c rfl (.base 78 rfl rfl)) inferInstance
    · have _t1 := True.intro
      have hil : i = b.bats.length := by omega
      subst hil
      rw [List.take_length] at ha
      refine XK.exit rfl ?_
      refine XK.seq ?_
      refine XK.seq ?_
      refine XK.region rfl ?_
      refine XO.q (Q.assign rfl) ?_
      refine XO.done ?_
      refine XK.block ?_
      refine XK.while (X := Nat) [2, 5, 52, 53, 54, 55, 56, 57, 58, 59, 60, 61, 62, 63, 64, 65] (fun i => [(5, some (.int .i64 (i : Nat)))]) (fun i => []) (fun i => i ≤ b.gens.length ∧ (b.gens.take i).any (fun x => !genOk x) = false) (fun i => b.gens.length - i) (0) [] rfl ⟨by omega, rfl⟩ (.c rfl (.base 0 rfl rfl)) ?_
      rintro i ⟨hi, hg2⟩ ih1
      dsimp only [List.cons_append, List.nil_append] at ih1 ⊢
      refine XK.seq ?_
      refine XK.seq ?_
      refine XK.region rfl ?_
      refine XO.q (Q.move rfl) ?_
      refine XO.q (Q.fieldAddr rfl) ?_
      refine XO.q (Q.ld rfl rfl) ?_
      refine XO.len rfl fun l55 => ?_
      refine XO.q (Q.lss rfl rfl) ?_
      refine XO.done ?_
      refine XK.if rfl (fun c3 => ?_) (fun c3 => ?_)
      · have _t3 := True.intro
        refine XK.skip ?_
        refine XK.seq ?_
        refine XK.block ?_
        refine XK.seq ?_
        refine XK.region rfl ?_
        refine XO.q (Q.fieldAddr rfl) ?_
        refine XO.q (Q.ld rfl rfl) ?_
        refine XO.q (Q.move rfl) ?_
        refine XO.ix rfl rfl (by omega) (by omega) fun i62 => ?_
        refine XO.q (Q.ldEA [_, _, _, _, _] rfl (by first | assumption | omega) rfl rfl) ?_
        refine XO.call Try.call72 rfl rfl rfl (rightG06 (b.gens.getD i default)) fun v64 s64 R64 => ?_
        obtain ⟨rfl, rfl⟩ := R64
        dsimp only [List.cons_append, List.nil_append]
        refine XO.q (Q.not rfl) ?_
        refine XO.done ?_
        refine XK.if rfl (fun c4 => ?_) (fun c4 => ?_)
        · have _t4 := True.intro
          refine XK.seq ?_
          refine XK.region rfl ?_
          refine XO.q (Q.assign rfl) ?_
          refine XO.done ?_
          refine XK.rt [] Try.func39 Try.results39 (.t rfl .n) ?_
          exact ⟨by rw [bcheck, if_neg (by omega), if_pos (.inr (List.any_eq_true.2 ⟨_, getD_memB (show i < b.gens.length by omega), by rw [Bool.eq_false_iff.2 c4]; rfl⟩))], rfl⟩
        · have _t4 := True.intro
          refine XK.skip ?_
          refine XK.inBlock ?_
          refine XK.region rfl ?_
          refine XO.q (Q.move rfl) ?_
          refine XO.q (Q.add rfl rfl ⟨by omega, by omega⟩) ?_
          refine XO.q (Q.assign rfl) ?_
          refine XO.done ?_
          exact ih1 (i + 1) _ _ ⟨by omega, any_snoc hg2 (by omega) (by rw [Decidable.of_not_not c4]; rfl)⟩ (by first | omega | (dsimp only; omega)) (.c rfl (.base 32 rfl rfl)) inferInstance
      · have _t3 := True.intro
        have hil : i = b.gens.length := by omega
        subst hil
        rw [List.take_length] at hg2
        refine XK.exit rfl ?_
        refine XK.seq ?_
        refine XK.region rfl ?_
        refine XO.q (Q.assign rfl) ?_
        refine XO.done ?_
        refine XK.rt [] Try.func39 Try.results39 (.t rfl .n) ?_
        exact ⟨by rw [bcheck, if_neg (by omega), if_neg (by rw [ha, hg2]; decide)], rfl⟩
theorem Start_spec (g : BGen) (f : Int) : Spec Try.prog 40 #[genV g, .int .i64 f] [] [] (fun v hs => v = .tuple #[.int .i64 (startQ g f).1, .int .i64 (startQ g f).2] ∧ hs = []) := by
  refine Spec.intro (fn := Try.f40) (N := 22) Try.func40 rfl Try.ntmps40 rfl fun B => ?_
  refine XK.seq ?_
  refine XK.region rfl ?_
  refine XO.box rfl fun b2 => ?_
  refine XO.q (Q.assign rfl) ?_
  refine XO.q (Q.assign rfl) ?_
  refine XO.done ?_
  refine XK.seq ?_
  refine XK.block ?_
  refine XK.seq ?_
  refine XK.region rfl ?_
  refine XO.q (Q.ldA [_, _, _, _, _] rfl rfl rfl) ?_
  refine XO.call Try.call71 rfl rfl rfl (genRight g) fun v8 s8 R8 => ?_
  obtain ⟨rfl, rfl⟩ := R8
  dsimp only [List.cons_append, List.nil_append]
  refine XO.q (Q.not rfl) ?_
  refine XO.q (Q.assign rfl) ?_
  refine XO.done ?_
  refine XK.if rfl (fun c0 => ?_) (fun c0 => ?_)
  · have _t0 := True.intro
    refine XK.seq ?_
    refine XK.region rfl ?_
    refine XO.q (Q.assign rfl) ?_
    refine XO.q (Q.assign rfl) ?_
    refine XO.done ?_
    refine XK.rt [] Try.func40 Try.results40 (.t rfl (.t rfl .n)) ?_
    exact ⟨by rw [startQ, if_pos c0], rfl⟩
  · have _t0 := True.intro
    refine XK.seq ?_
    refine XK.region rfl ?_
    refine XO.q (Q.move rfl) ?_
    refine XO.q (Q.lss rfl rfl) ?_
    refine XO.q (Q.move rfl) ?_
    refine XO.q (Quiet.guardF rfl rfl fun g14 p14 => Q.move rfl) ?_
    refine XO.q (Quiet.guardF rfl rfl fun g15 p15 => Q.fieldAddr rfl) ?_
    refine XO.q (Quiet.guardF rfl rfl fun g16 p16 => Q.ld (lzv g16 rfl) rfl) ?_
    refine XO.q (Quiet.guardF rfl rfl fun g17 p17 => Q.gtr (lzv g17 rfl) (lzv g17 rfl)) ?_
    refine XO.q (Q.or rfl (fun hp => lzv hp rfl)) ?_
    refine XO.q (Q.assign rfl) ?_
    refine XO.done ?_
    refine XK.if rfl (fun c1 => ?_) (fun c1 => ?_)
    · have _t1 := True.intro
      refine XK.seq ?_
      refine XK.region rfl ?_
      refine XO.q (Q.assign rfl) ?_
      refine XO.q (Q.assign rfl) ?_
      refine XO.done ?_
      refine XK.rt [] Try.func40 Try.results40 (.t rfl (.t rfl .n)) ?_
      exact ⟨by rw [startQ, if_neg c0, if_pos c1], rfl⟩
    · have _t1 := True.intro
      refine XK.skip ?_
      refine XK.inBlock ?_
      refine XK.seq ?_
      refine XK.region rfl ?_
      refine XO.q (Q.ldA [_, _, _, _, _] rfl rfl rfl) ?_
      refine XO.q (Q.move rfl) ?_
      have gk := genOk_iff.1 (Decidable.of_not_not c0)
      refine XO.call Try.call73 rfl rfl rfl (start_spec g gk f (by omega) (by omega)) fun v21 s21 R21 => ?_
      obtain ⟨rfl, rfl⟩ := R21
      dsimp only [List.cons_append, List.nil_append]
      refine XO.q (Q.assign rfl) ?_
      refine XO.q (Q.assign rfl) ?_
      refine XO.done ?_
      refine XK.rt [] Try.func40 Try.results40 (.t rfl (.t rfl .n)) ?_
      exact ⟨by rw [startQ, if_neg c0, if_neg c1], rfl⟩
theorem RStart_spec (g : BGen) (f : Int) : Spec Try.prog 41 #[genV g, .int .i64 f] [] [] (fun v hs => v = .tuple #[.int .i64 (startQ g f).1, .int .i64 (startQ g f).2] ∧ hs = []) := by
  refine Spec.intro (fn := Try.f41) (N := 37) Try.func41 rfl Try.ntmps41 rfl fun B => ?_
  refine XK.seq ?_
  refine XK.region rfl ?_
  refine XO.box rfl fun b2 => ?_
  refine XO.q (Q.assign rfl) ?_
  refine XO.q (Q.assign rfl) ?_
  refine XO.done ?_
  refine XK.seq ?_
  refine XK.seq ?_
  refine XK.region rfl ?_
  refine XO.q (Q.ldA [_, _, _, _, _] rfl rfl rfl) ?_
  refine XO.call Try.call72 rfl rfl rfl (rightG06 g) fun v9 s9 R9 => ?_
  obtain ⟨rfl, rfl⟩ := R9
  dsimp only [List.cons_append, List.nil_append]
  refine XO.q (Q.not rfl) ?_
  refine XO.done ?_
  refine XK.if rfl (fun c0 => ?_) (fun c0 => ?_)
  · have _t0 := True.intro
    refine XK.seq ?_
    refine XK.region rfl ?_
    refine XO.q (Q.assign rfl) ?_
    refine XO.q (Q.assign rfl) ?_
    refine XO.done ?_
    refine XK.rt [] Try.func41 Try.results41 (.t rfl (.t rfl .n)) ?_
    exact ⟨by rw [startQ, if_pos c0], rfl⟩
  · have _t0 := True.intro
    have gk := genOk_iff.1 (Decidable.of_not_not c0)
    refine XK.skip ?_
    refine XK.seq ?_
    refine XK.seq ?_
    refine XK.region rfl ?_
    refine XO.q (Q.move rfl) ?_
    refine XO.q (Q.lss rfl rfl) ?_
    refine XO.q (Q.move rfl) ?_
    refine XO.q (Quiet.guardF rfl rfl fun g14 p14 => Q.move rfl) ?_
    refine XO.q (Quiet.guardF rfl rfl fun g15 p15 => Q.fieldAddr rfl) ?_
    refine XO.q (Quiet.guardF rfl rfl fun g16 p16 => Q.ld (lzv g16 rfl) rfl) ?_
    refine XO.q (Quiet.guardF rfl rfl fun g17 p17 => Q.gtr (lzv g17 rfl) (lzv g17 rfl)) ?_
    refine XO.q (Q.or rfl (fun hp => lzv hp rfl)) ?_
    refine XO.done ?_
    refine XK.if rfl (fun c1 => ?_) (fun c1 => ?_)
    · have _t1 := True.intro
      refine XK.seq ?_
      refine XK.region rfl ?_
      refine XO.q (Q.assign rfl) ?_
      refine XO.q (Q.assign rfl) ?_
      refine XO.done ?_
      refine XK.rt [] Try.func41 Try.results41 (.t rfl (.t rfl .n)) ?_
      exact ⟨by rw [startQ, if_neg c0, if_pos c1], rfl⟩
    · have _t1 := True.intro
      obtain ⟨m, rfl⟩ := Int.eq_ofNat_of_zero_le (show 0 ≤ f by omega)
      have gd := gk.d0
      have gd1 := gk.d1
      have gq := gk.q0
      have gq1 := gk.q1
      have gt := gk.t1
      refine XK.skip ?_
      refine XK.seq ?_
      refine XK.region rfl ?_
      refine XO.q (Q.assign rfl) ?_
      refine XO.done ?_
      refine XK.seq ?_
      refine XK.seq ?_
      refine XK.region rfl ?_
      refine XO.q (Q.assign rfl) ?_
      refine XO.done ?_
      refine XK.block ?_
      refine XK.while (X := Nat) [4, 5, 6, 7, 19, 20, 21, 22, 23, 24, 25, 26, 27, 28, 29, 30, 31, 32, 33, 34, 35, 36] (fun n => [(6, some (.int .i64 (stepT g n))), (7, some (.int .i64 (n : Nat)))]) (fun n => []) (fun n => (n : Int) ≤ g.tries ∧ n ≤ m) (fun n => m - n) (0) [] rfl ⟨by have := gk.t0; omega, by omega⟩ (.c rfl (.c rfl (.base 0 rfl rfl))) ?_
      rintro n ⟨hn1, hn2⟩ ih0
      dsimp only [List.cons_append, List.nil_append] at ih0 ⊢
      refine XK.seq ?_
      refine XK.seq ?_
      refine XK.region rfl ?_
      refine XO.q (Q.move rfl) ?_
      refine XO.q (Q.fieldAddr rfl) ?_
      refine XO.q (Q.ld rfl rfl) ?_
      refine XO.q (Q.lss rfl rfl) ?_
      refine XO.done ?_
      refine XK.if rfl (fun c2 => ?_) (fun c2 => ?_)
      · have _t2 := True.intro
        have sr := stepT_rng gk n
        refine XK.skip ?_
        refine XK.seq ?_
        refine XK.block ?_
        refine XK.seq ?_
        refine XK.region rfl ?_
        refine XO.q (Q.move rfl) ?_
        refine XO.q (Q.fieldAddr rfl) ?_
        refine XO.q (Q.ld rfl rfl) ?_
        refine XO.q (Q.add rfl rfl ⟨by omega, by omega⟩) ?_
        refine XO.q (Q.assign rfl) ?_
        refine XO.done ?_
        refine XK.seq ?_
        refine XK.seq ?_
        refine XK.region rfl ?_
        refine XO.q (Q.move rfl) ?_
        refine XO.q (Q.move rfl) ?_
        refine XO.q (Q.geq rfl rfl) ?_
        refine XO.done ?_
        refine XK.if rfl (fun c3 => ?_) (fun c3 => ?_)
        · have _t3 := True.intro
          have hnm : n = m := by omega
          subst hnm
          refine XK.seq ?_
          refine XK.region rfl ?_
          refine XO.q (Q.move rfl) ?_
          refine XO.q (Q.assign rfl) ?_
          refine XO.q (Q.assign rfl) ?_
          refine XO.done ?_
          refine XK.rt [] Try.func41 Try.results41 (.t rfl (.t rfl .n)) ?_
          exact ⟨by rw [startQ, if_neg c0, if_neg c1, stepT_start (by omega)], rfl⟩
        · have _t3 := True.intro
          refine XK.skip ?_
          refine XK.region rfl ?_
          refine XO.q (Q.move rfl) ?_
          refine XO.q (Q.fieldAddr rfl) ?_
          refine XO.q (Q.ld rfl rfl) ?_
          refine XO.q (Q.add rfl rfl ⟨by omega, by omega⟩) ?_
          refine XO.q (Q.assign rfl) ?_
          refine XO.done ?_
          refine XK.inBlock ?_
          refine XK.region rfl ?_
          refine XO.q (Q.move rfl) ?_
          refine XO.q (Q.add rfl rfl ⟨by omega, by omega⟩) ?_
          refine XO.q (Q.assign rfl) ?_
          refine XO.done ?_
          exact ih0 (n + 1) _ _ ⟨by omega, by omega⟩ (by first | omega | (dsimp only; omega)) (.c rfl (.c rfl (.base 44 rfl rfl))) inferInstance
      · have _t2 := True.intro
        refine XK.exit rfl ?_
        refine XK.seq ?_
        refine XK.region rfl ?_
        refine XO.q (Q.assign rfl) ?_
        refine XO.q (Q.assign rfl) ?_
        refine XO.done ?_
        refine XK.rt [] Try.func41 Try.results41 (.t rfl (.t rfl .n)) ?_
        exact ⟨by rw [startQ, if_neg c0, if_neg c1, startP, if_pos (by omega)], rfl⟩
theorem Seconds_spec (l : List BSpan) (vl : Value) (hl : PHeap) [il : Arr vl encSpan 2 hl l] : Spec Try.prog 80 #[vl] [] [hl] (fun v hs => ∃ vp kp, v = .tuple #[vp, .int .i64 (loadedP l).2] ∧ hs = [kp] ∧ OArr vp encI 1 3 kp (if (loadedP l).2 = 0 then powers l else [])) := by
  have ll := il.le
  have nI : OArr (.slice none 0 0) encI 1 3 emp ([] : List Int) := OArr.nil (fun _ => rfl)
  refine Spec.intro (fn := Try.f80) (N := 74) Try.func80 rfl Try.ntmps80 rfl fun B => ?_
  refine XK.seq ?_
  refine XK.region rfl ?_
  refine XO.q (Q.assign rfl) ?_
  refine XO.q (Q.assign rfl) ?_
  refine XO.done ?_
  refine XK.seq ?_
  refine XK.seq ?_
  refine XK.region rfl ?_
  refine XO.q (Q.move rfl) ?_
  refine XO.len rfl fun l10 => ?_
  refine XO.q (Q.gtr rfl rfl) ?_
  refine XO.done ?_
  refine XK.if rfl (fun c0 => ?_) (fun c0 => ?_)
  · have _t0 := True.intro
    refine XK.seq ?_
    refine XK.region rfl ?_
    refine XO.q (Q.assign rfl) ?_
    refine XO.q (Q.assign rfl) ?_
    refine XO.done ?_
    refine XK.rt [emp] Try.func80 Try.results80 (.t rfl (.t rfl .n)) ?_
    have e : loadedP l = (0, 2) := by rw [loadedP, if_pos (by omega)]
    rw [e]
    exact ⟨.slice none 0 0, emp, rfl, rfl, nI⟩
  · have _t0 := True.intro
    refine XK.skip ?_
    refine XK.seq ?_
    refine XK.region rfl ?_
    refine XO.q (Q.assign rfl) ?_
    refine XO.done ?_
    refine XK.seq ?_
    refine XK.seq ?_
    refine XK.region rfl ?_
    refine XO.q (Q.assign rfl) ?_
    refine XO.done ?_
    refine XK.block ?_
    refine XK.while (X := Nat) [2, 3, 4, 5, 12, 13, 14, 15, 16, 17, 18, 19, 20, 21, 22, 23, 24, 25, 26, 27, 28, 29, 30, 31, 32, 33, 34, 35, 36, 37, 38, 39, 40, 41, 42, 43, 44, 45, 46, 47] (fun i => [(4, some (.int .i64 (secs l i))), (5, some (.int .i64 (i : Nat)))]) (fun i => []) (fun i => i ≤ l.length ∧ i ≤ 64 ∧ (l.take i).any badSpan = false ∧ 0 ≤ secs l i ∧ secs l i ≤ 3600 * i) (fun i => l.length - i) (0) [] rfl ⟨by omega, by omega, rfl, by simp [secs], by simp [secs]⟩ (.c rfl (.c rfl (.base 0 rfl rfl))) ?_
    rintro i ⟨hi, hi2, ha, hs0, hs1⟩ ih0
    dsimp only [List.cons_append, List.nil_append] at ih0 ⊢
    refine XK.seq ?_
    refine XK.seq ?_
    refine XK.region rfl ?_
    refine XO.q (Q.move rfl) ?_
    refine XO.q (Q.move rfl) ?_
    refine XO.len rfl fun l14 => ?_
    refine XO.q (Q.lss rfl rfl) ?_
    refine XO.done ?_
    refine XK.if rfl (fun c1 => ?_) (fun c1 => ?_)
    · have _t1 := True.intro
      refine XK.skip ?_
      refine XK.seq ?_
      refine XK.block ?_
      refine XK.seq ?_
      refine XK.seq ?_
      refine XK.region rfl ?_
      refine XO.q (Q.move rfl) ?_
      refine XO.q (Q.move rfl) ?_
      refine XO.ix rfl rfl (by omega) (by omega) fun i20 => ?_
      refine XO.q (Q.fieldQ rfl (by first | assumption | omega)) ?_
      refine XO.q (Q.ldE rfl (by first | assumption | omega) rfl) ?_
      refine XO.q (Q.lss rfl rfl) ?_
      refine XO.q (Q.move rfl) ?_
      refine XO.q (Quiet.guardF rfl rfl fun g25 p25 => Q.move rfl) ?_
      refine XO.q (Quiet.guardF rfl rfl fun g26 p26 => Q.move rfl) ?_
      refine XO.q (Quiet.guardF rfl rfl fun g27 p27 => Q.ix (lzv g27 rfl) (lzv g27 rfl) (by omega) (by omega)) ?_
      refine XO.q (Quiet.guardF rfl rfl fun g28 p28 => Q.fieldQ (lzv g28 rfl) (by first | assumption | omega)) ?_
      refine XO.q (Quiet.guardF rfl rfl fun g29 p29 => Q.ldE (lzv g29 rfl) (by first | assumption | omega) rfl) ?_
      refine XO.q (Quiet.guardF rfl rfl fun g30 p30 => Q.gtr (lzv g30 rfl) rfl) ?_
      refine XO.q (Q.or rfl (fun hp => lzv hp rfl)) ?_
      refine XO.q (Q.move rfl) ?_
      refine XO.q (Quiet.guardF rfl rfl fun g33 p33 => Q.move rfl) ?_
      refine XO.q (Quiet.guardF rfl rfl fun g34 p34 => Q.move rfl) ?_
      refine XO.q (Quiet.guardF rfl rfl fun g35 p35 => Q.ix (lzv g35 rfl) (lzv g35 rfl) (by omega) (by omega)) ?_
      refine XO.q (Quiet.guardF rfl rfl fun g36 p36 => Q.fieldQ (lzv g36 rfl) (by first | assumption | omega)) ?_
      refine XO.q (Quiet.guardF rfl rfl fun g37 p37 => Q.ldE (lzv g37 rfl) (by first | assumption | omega) rfl) ?_
      refine XO.gcallF rfl rfl Try.call60 rfl (fun g38 => .c (lzv g38 rfl) (.c rfl .n)) rfl (fun g38 p38 => in06 _ _) ?_
      refine XO.q (Quiet.guardF rfl rfl fun g39 p39 => Q.not (lzv g39 rfl)) ?_
      refine XO.q (Q.or rfl (fun hp => lzv hp rfl)) ?_
      refine XO.done ?_
      refine XK.if rfl (fun c2 => ?_) (fun c2 => ?_)
      · have _t2 := True.intro
        refine XK.seq ?_
        refine XK.region rfl ?_
        refine XO.q (Q.assign rfl) ?_
        refine XO.q (Q.assign rfl) ?_
        refine XO.done ?_
        refine XK.rt [emp] Try.func80 Try.results80 (.t rfl (.t rfl .n)) ?_
        have hb2 : badSpan (l.getD i default) = true := badSpan_ref.2 c2
        have e : loadedP l = (0, 6) := by rw [loadedP, if_neg (by omega), if_pos (List.any_eq_true.2 ⟨_, getD_memB (by omega), hb2⟩)]
        rw [e]
        exact ⟨.slice none 0 0, emp, rfl, rfl, nI⟩
      · have _t2 := True.intro
        have bs : badSpan (l.getD i default) = false := by
          rw [Bool.eq_false_iff]
          intro hh
          have hg := badSpan_ref.1 hh
          exact c2 hg
        have bt := badSpan_false.1 bs
        refine XK.skip ?_
        refine XK.region rfl ?_
        refine XO.q (Q.move rfl) ?_
        refine XO.q (Q.move rfl) ?_
        refine XO.q (Q.move rfl) ?_
        refine XO.ix rfl rfl (by omega) (by omega) fun i44 => ?_
        refine XO.q (Q.fieldQ rfl (by first | assumption | omega)) ?_
        refine XO.q (Q.ldE rfl (by first | assumption | omega) rfl) ?_
        refine XO.q (Q.add rfl rfl ⟨by omega, by omega⟩) ?_
        refine XO.q (Q.assign rfl) ?_
        refine XO.done ?_
        refine XK.inBlock ?_
        refine XK.region rfl ?_
        refine XO.q (Q.move rfl) ?_
        refine XO.q (Q.add rfl rfl ⟨by omega, by omega⟩) ?_
        refine XO.q (Q.assign rfl) ?_
        refine XO.done ?_
        exact ih0 (i + 1) _ _ ⟨by omega, by omega, any_snoc ha (by omega) bs, by rw [secs]; omega, by rw [secs]; omega⟩ (by first | omega | (dsimp only; omega)) (.c rfl (.c rfl (.base 80 rfl rfl))) inferInstance
    · have _t1 := True.intro
      have hil : i = l.length := by omega
      subst hil
      rw [List.take_length] at ha
      refine XK.exit rfl ?_
      refine XK.seq ?_
      refine XK.seq ?_
      refine XK.region rfl ?_
      refine XO.q (Q.move rfl) ?_
      refine XO.q (Q.gtr rfl rfl) ?_
      refine XO.done ?_
      refine XK.if rfl (fun c3 => ?_) (fun c3 => ?_)
      · have _t3 := True.intro
        refine XK.seq ?_
        refine XK.region rfl ?_
        refine XO.q (Q.assign rfl) ?_
        refine XO.q (Q.assign rfl) ?_
        refine XO.done ?_
        refine XK.rt [emp] Try.func80 Try.results80 (.t rfl (.t rfl .n)) ?_
        have e : loadedP l = (0, 60) := by rw [loadedP, if_neg (by omega), if_neg (by rw [ha]; decide), if_pos (by omega)]
        rw [e]
        exact ⟨.slice none 0 0, emp, rfl, rfl, nI⟩
      · have _t3 := True.intro
        have lk : LOk l := loadedP_iff.1 (by rw [loadedP, if_neg (by omega), if_neg (by rw [ha]; decide), if_neg (by omega)])
        have hp20 := powers_len lk
        refine XK.skip ?_
        refine XK.seq ?_
        refine XK.region rfl ?_
        refine XO.q (Q.assign rfl) ?_
        refine XO.done ?_
        refine XK.seq ?_
        refine XK.seq ?_
        refine XK.region rfl ?_
        refine XO.q (Q.assign rfl) ?_
        refine XO.done ?_
        refine XK.block ?_
        refine XK.while (X := Nat × Value × PHeap) [6, 7, 8, 50, 51, 52, 53, 54, 55, 56, 57, 58, 59, 60, 61, 62, 63, 64, 65, 66, 67, 68, 69, 70, 71, 72] (fun ⟨i, vp, kp⟩ => [(6, some (vp)), (7, some (.int .i64 (i : Nat)))]) (fun ⟨i, vp, kp⟩ => [kp]) (fun ⟨i, vp, kp⟩ => i ≤ l.length ∧ OArr vp encI 1 3 kp (powers (l.take i))) (fun ⟨i, vp, kp⟩ => l.length - i) (0, .slice none 0 0, emp) [emp] rfl ⟨by omega, nI⟩ (.c rfl (.c rfl (.base 0 rfl rfl))) ?_
        rintro ⟨i, vp, kp⟩ ⟨hi, OP⟩ ih1
        dsimp only [List.cons_append, List.nil_append] at ih1 ⊢
        refine XK.seq ?_
        refine XK.seq ?_
        refine XK.region rfl ?_
        refine XO.q (Q.move rfl) ?_
        refine XO.q (Q.move rfl) ?_
        refine XO.len rfl fun l52 => ?_
        refine XO.q (Q.lss rfl rfl) ?_
        refine XO.done ?_
        refine XK.if rfl (fun c4 => ?_) (fun c4 => ?_)
        · have _t4 := True.intro
          have sk := lk.s _ (getD_memB (show i < l.length by omega))
          have hct := cnt_take l i (by omega)
          refine XK.skip ?_
          refine XK.seq ?_
          refine XK.block ?_
          refine XK.seq ?_
          refine XK.region rfl ?_
          refine XO.q (Q.assign rfl) ?_
          refine XO.done ?_
          refine XK.block ?_
          refine XK.while (X := Nat × Value × PHeap) [6, 8, 56, 57, 58, 59, 60, 61, 62, 63, 64, 65, 66, 67, 68, 69, 70, 71, 72] (fun ⟨j, vq, kq⟩ => [(6, some (vq)), (8, some (.int .i64 (j : Nat)))]) (fun ⟨j, vq, kq⟩ => [kq]) (fun ⟨j, vq, kq⟩ => (j : Int) ≤ (l.getD i default).seconds ∧ OArr vq encI 1 3 kq (powers (l.take i) ++ List.replicate (j) (l.getD i default).power)) (fun ⟨j, vq, kq⟩ => (l.getD i default).seconds.toNat - j) (0, vp, kp) [kp] rfl ⟨by omega, by rw [List.replicate_zero, List.append_nil]; exact OP⟩ (.c rfl (.c rfl (.base 0 rfl rfl))) ?_
          rintro ⟨j, vq, kq⟩ ⟨hj, OQ⟩ ih2
          dsimp only [List.cons_append, List.nil_append] at ih2 ⊢
          refine XK.seq ?_
          refine XK.seq ?_
          refine XK.region rfl ?_
          refine XO.q (Q.move rfl) ?_
          refine XO.q (Q.move rfl) ?_
          refine XO.q (Q.move rfl) ?_
          refine XO.ix rfl rfl (by omega) (by omega) fun i59 => ?_
          refine XO.q (Q.fieldQ rfl (by first | assumption | omega)) ?_
          refine XO.q (Q.ldE rfl (by first | assumption | omega) rfl) ?_
          refine XO.q (Q.lss rfl rfl) ?_
          refine XO.done ?_
          refine XK.if rfl (fun c5 => ?_) (fun c5 => ?_)
          · have _t5 := True.intro
            obtain ⟨hp1, hp2⟩ := powers_at l (i := i) (j := j) (by omega) (by omega)
            refine XK.skip ?_
            refine XK.seq ?_
            refine XK.block ?_
            refine XK.region rfl ?_
            refine XO.q (Q.move rfl) ?_
            refine XO.q (Q.move rfl) ?_
            refine XO.q (Q.move rfl) ?_
            refine XO.ix rfl rfl (by omega) (by omega) fun i68 => ?_
            refine XO.q (Q.fieldQ rfl (by first | assumption | omega)) ?_
            refine XO.q (Q.ldE rfl (by first | assumption | omega) rfl) ?_
            refine XO.lit [_] [_] [(l.getD i default).power] encI (by rfl) (by rfl) rfl (by rfl) (by exact .c 0 1 rfl rfl rfl (.n _)) (fun _ => rfl) (by rfl) rfl (by infer_instance) rfl fun v71 h71 O71 => ?_
            refine XO.append rfl rfl rfl rfl (by rw [List.length_append, hct, List.length_replicate]; simp; omega) fun v72 h72 O72 => ?_
            refine XO.q (Q.assign rfl) ?_
            refine XO.done ?_
            refine XK.inBlock ?_
            refine XK.region rfl ?_
            refine XO.q (Q.move rfl) ?_
            refine XO.q (Q.add rfl rfl ⟨by omega, by omega⟩) ?_
            refine XO.q (Q.assign rfl) ?_
            refine XO.done ?_
            exact ih2 (j + 1, v72, h72) _ _ ⟨by dsimp only; omega, by dsimp only; rw [List.replicate_succ', ← List.append_assoc]; exact O72⟩ (by first | omega | (dsimp only; omega)) (.c rfl (.c rfl (.base 40 rfl rfl))) inferInstance
          · have _t5 := True.intro
            have hjs : powers (l.take (i + 1)) = (powers (l.take i) ++ List.replicate (j) (l.getD i default).power) := by rw [take_snocB (by omega), powers_append, powers, powers, List.append_nil, show (l.getD i default).seconds.toNat = j by omega]
            refine XK.exit rfl ?_
            refine XK.inBlock ?_
            refine XK.region rfl ?_
            refine XO.q (Q.move rfl) ?_
            refine XO.q (Q.add rfl rfl ⟨by omega, by omega⟩) ?_
            refine XO.q (Q.assign rfl) ?_
            refine XO.done ?_
            exact ih1 (i + 1, vq, kq) _ _ ⟨by dsimp only; omega, by dsimp only; rw [hjs]; exact OQ⟩ (by first | omega | (dsimp only; omega)) (.c rfl (.c rfl (.base 64 rfl rfl))) inferInstance
        · have _t4 := True.intro
          refine XK.exit rfl ?_
          refine XK.seq ?_
          refine XK.region rfl ?_
          refine XO.q (Q.move rfl) ?_
          refine XO.q (Q.assign rfl) ?_
          refine XO.q (Q.assign rfl) ?_
          refine XO.done ?_
          refine XK.rt [kp] Try.func80 Try.results80 (.t rfl (.t rfl .n)) ?_
          have hil : i = l.length := by omega
          rw [hil, List.take_length] at OP
          rw [if_pos (loadedP_iff.2 lk), loadedP_iff.2 lk]
          exact ⟨vp, kp, rfl, rfl, OP⟩
end Go.X

set_option linter.unusedSimpArgs false
set_option linter.unusedVariables false
set_option maxRecDepth 20000
namespace Go.X
open Go.Proofs
theorem copyInts (v : Value) (h : PHeap) (xs : List Int) [s : Arr v encI 1 h xs] (hl : xs.length ≤ 68719476736) : Spec Try.prog 83 #[v] [] [h] (fun v' hs => ∃ h', hs = [h'] ∧ OArr v' encI 1 3 h' xs) := by
  have nI : OArr (.slice none 0 0) encI 1 3 emp ([] : List Int) := OArr.nil (fun _ => rfl)
  refine Spec.intro (fn := Try.f83) (N := 7) Try.func83 rfl Try.ntmps83 rfl fun B => ?_
  refine XK.seq ?_
  refine XK.region rfl ?_
  refine XO.q (Q.assign rfl) ?_
  refine XO.done ?_
  refine XK.seq ?_
  refine XK.region rfl ?_
  refine XO.q (Q.assign rfl) ?_
  refine XO.done ?_
  refine XK.seq ?_
  refine XK.region rfl ?_
  refine XO.q (Q.move rfl) ?_
  refine XO.q (Q.move rfl) ?_
  refine XO.drop (o' := [emp]) ?_
  refine XO.append rfl rfl rfl rfl (by simp; omega) fun v6 h6 O6 => ?_
  refine XO.q (Q.assign rfl) ?_
  refine XO.done ?_
  refine XK.rt [h6] Try.func83 Try.results83 (.t rfl .n) ?_
  exact ⟨h6, rfl, O6⟩
theorem fit_in {b : BBank} {fs : List Int} {i : Nat} : inR (fs.getD i default) (b.gens.getD i default).tries = true ↔ badFail b fs i = false := by
  rw [inR_iff, badFail, Bool.or_eq_false_iff, decide_eq_false_iff_not, decide_eq_false_iff_not]; omega
theorem Rready_spec (b : BBank) (vb vg : Value) (hb hg : PHeap) [ib : Arr vb encBat 4 hb b.bats] [ig : Arr vg encGen 5 hg b.gens] (l : List BSpan) (vl : Value) (hl : PHeap) [il : Arr vl encSpan 2 hl l] (fs : List Int) (vf : Value) (hf : PHeap) [jf : Arr vf encI 1 hf fs] : Spec Try.prog 74 #[.agg #[vb, vg], vl, vf] [] [hb, hg, hl, hf] (fun v hs => ∃ vp kp, v = .tuple #[vp, .int .i64 (readyP b l fs)] ∧ hs = [kp] ∧ OArr vp encI 1 3 kp (if readyP b l fs = 0 then powers l else [])) := by
  have lg := ig.le
  have lf := jf.le
  have nI : OArr (.slice none 0 0) encI 1 3 emp ([] : List Int) := OArr.nil (fun _ => rfl)
  refine Spec.intro (fn := Try.f74) (N := 50) Try.func74 rfl Try.ntmps74 rfl fun B => ?_
  refine XK.seq ?_
  refine XK.region rfl ?_
  refine XO.box rfl fun b3 => ?_
  refine XO.q (Q.assign rfl) ?_
  refine XO.q (Q.assign rfl) ?_
  refine XO.done ?_
  refine XK.seq ?_
  refine XK.seq ?_
  refine XK.region rfl ?_
  refine XO.q (Q.ldA [_, _] rfl rfl rfl) ?_
  refine XO.call Try.call39 rfl rfl rfl (RCheck_spec b vb vg hb hg) fun v13 s13 R13 => ?_
  obtain ⟨rfl, rfl⟩ := R13
  dsimp only [List.cons_append, List.nil_append]
  refine XO.q (Q.assign rfl) ?_
  refine XO.done ?_
  refine XK.seq ?_
  refine XK.region rfl ?_
  refine XO.q (Q.move rfl) ?_
  refine XO.q (Q.neq rfl rfl) ?_
  refine XO.done ?_
  refine XK.if rfl (fun c0 => ?_) (fun c0 => ?_)
  · have _t0 := True.intro
    refine XK.seq ?_
    refine XK.region rfl ?_
    refine XO.q (Q.move rfl) ?_
    refine XO.q (Q.assign rfl) ?_
    refine XO.q (Q.assign rfl) ?_
    refine XO.done ?_
    refine XK.rt [emp] Try.func74 Try.results74 (.t rfl (.t rfl .n)) ?_
    have e : readyP b l fs = bcheck b := by rw [readyP, if_pos c0]
    rw [if_neg (by rw [e]; exact c0), e]
    exact ⟨.slice none 0 0, emp, rfl, rfl, nI⟩
  · have _t0 := True.intro
    refine XK.skip ?_
    refine XK.seq ?_
    refine XK.region rfl ?_
    refine XO.q (Q.move rfl) ?_
    refine XO.call Try.call80 rfl rfl rfl (Seconds_spec l vl hl) fun v19 s19 R19 => ?_
    obtain ⟨vp, kp, rfl, rfl, OP⟩ := R19
    dsimp only [List.cons_append, List.nil_append]
    refine XO.q (Q.move rfl) ?_
    refine XO.q (Q.extract rfl rfl) ?_
    refine XO.q (Q.extract rfl rfl) ?_
    refine XO.q (Q.assign rfl) ?_
    refine XO.q (Q.assign rfl) ?_
    refine XO.done ?_
    refine XK.seq ?_
    refine XK.seq ?_
    refine XK.region rfl ?_
    refine XO.q (Q.move rfl) ?_
    refine XO.q (Q.neq rfl rfl) ?_
    refine XO.done ?_
    refine XK.if rfl (fun c1 => ?_) (fun c1 => ?_)
    · have _t1 := True.intro
      refine XK.seq ?_
      refine XK.region rfl ?_
      refine XO.q (Q.move rfl) ?_
      refine XO.q (Q.assign rfl) ?_
      refine XO.q (Q.assign rfl) ?_
      refine XO.done ?_
      refine XK.rt [emp] Try.func74 Try.results74 (.t rfl (.t rfl .n)) ?_
      have e : readyP b l fs = (loadedP l).2 := by rw [readyP, if_neg c0, if_pos c1]
      rw [if_neg (by rw [e]; exact c1), e]
      exact ⟨.slice none 0 0, emp, rfl, rfl, nI⟩
    · have _t1 := True.intro
      have e0 := Decidable.of_not_not c1
      rw [if_pos e0] at OP
      refine XK.skip ?_
      refine XK.seq ?_
      refine XK.seq ?_
      refine XK.region rfl ?_
      refine XO.q (Q.move rfl) ?_
      refine XO.len rfl fun l26 => ?_
      refine XO.q (Q.fieldAddr rfl) ?_
      refine XO.q (Q.ld rfl rfl) ?_
      refine XO.len rfl fun l29 => ?_
      refine XO.q (Q.neq rfl rfl) ?_
      refine XO.done ?_
      refine XK.if rfl (fun c2 => ?_) (fun c2 => ?_)
      · have _t2 := True.intro
        refine XK.seq ?_
        refine XK.region rfl ?_
        refine XO.q (Q.assign rfl) ?_
        refine XO.q (Q.assign rfl) ?_
        refine XO.done ?_
        refine XK.rt [emp] Try.func74 Try.results74 (.t rfl (.t rfl .n)) ?_
        have e : readyP b l fs = 1 := by rw [readyP, if_neg c0, if_neg c1, if_pos (by rw [fitP, decide_eq_false (by omega), Bool.false_and]; decide)]
        rw [if_neg (by rw [e]; decide), e]
        exact ⟨.slice none 0 0, emp, rfl, rfl, nI⟩
      · have _t2 := True.intro
        refine XK.skip ?_
        refine XK.seq ?_
        refine XK.seq ?_
        refine XK.region rfl ?_
        refine XO.q (Q.assign rfl) ?_
        refine XO.done ?_
        refine XK.block ?_
        refine XK.while (X := Nat) [6, 7, 11, 31, 32, 33, 34, 35, 36, 37, 38, 39, 40, 41, 42, 43, 44, 45, 46, 47, 48] (fun i => [(11, some (.int .i64 (i : Nat)))]) (fun i => []) (fun i => i ≤ fs.length ∧ allTo (fun i => !badFail b fs i) i = true) (fun i => fs.length - i) (0) [] rfl ⟨by omega, rfl⟩ (.c rfl (.base 0 rfl rfl)) ?_
        rintro i ⟨hi, ha⟩ ih0
        dsimp only [List.cons_append, List.nil_append] at ih0 ⊢
        refine XK.seq ?_
        refine XK.seq ?_
        refine XK.region rfl ?_
        refine XO.q (Q.move rfl) ?_
        refine XO.q (Q.move rfl) ?_
        refine XO.len rfl fun l33 => ?_
        refine XO.q (Q.lss rfl rfl) ?_
        refine XO.done ?_
        refine XK.if rfl (fun c3 => ?_) (fun c3 => ?_)
        · have _t3 := True.intro
          have fl : i < b.gens.length := by omega
          refine XK.skip ?_
          refine XK.seq ?_
          refine XK.block ?_
          refine XK.seq ?_
          refine XK.drawn [0, 1, 2, 3, 4, 5, 6, 7, 8, 9, 11] [b3] [] (.q 0 (.q 1 (.q 2 (.q 3 (.q 4 (.q 5 (.q 6 (.q 7 (.q 8 (.q 9 (.br 10 true (.q 11 .done) .stop))))))))))) Try.mixed rfl (by kernel_rfl) ?_
          refine XT.q rfl rfl (Q.move rfl) ?_
          refine XT.q rfl rfl (Q.move rfl) ?_
          refine XT.ix rfl rfl rfl rfl (by omega) (by omega) fun i39 => ?_
          refine XT.q rfl rfl (Q.ldE rfl (by first | assumption | omega) rfl) ?_
          refine XT.q rfl rfl (Q.fieldAddr rfl) ?_
          refine XT.q rfl rfl (Q.ld rfl rfl) ?_
          refine XT.q rfl rfl (Q.move rfl) ?_
          refine XT.ix rfl rfl rfl rfl (by omega) (by omega) fun i44 => ?_
          refine XT.q rfl rfl (Q.fieldQ rfl (by first | assumption | omega)) ?_
          refine XT.q rfl rfl (Q.ldE rfl (by first | assumption | omega) rfl) ?_
          refine XT.call rfl rfl Try.call60 rfl rfl rfl (in06 _ _) (fun v47 s47 R47 => ?_) XT.stop
          obtain ⟨rfl, rfl⟩ := R47
          dsimp only [List.cons_append, List.nil_append]
          refine ⟨inferInstance, ?_⟩
          refine XT.q rfl rfl (Q.not rfl) ?_
          refine XT.done ?_
          refine XK.if rfl (fun c4 => ?_) (fun c4 => ?_)
          · have _t4 := True.intro
            refine XK.seq ?_
            refine XK.region rfl ?_
            refine XO.q (Q.assign rfl) ?_
            refine XO.q (Q.assign rfl) ?_
            refine XO.done ?_
            refine XK.rt [emp] Try.func74 Try.results74 (.t rfl (.t rfl .n)) ?_
            have e : readyP b l fs = 1 := by rw [readyP, if_neg c0, if_neg c1, if_pos (by rw [fitP, allTo_false (s := i) (by omega) (by rw [Bool.not_eq_false']; cases hb : badFail b fs i with | true => rfl | false => exact absurd (fit_in.2 hb) c4), Bool.and_false]; decide)]
            rw [if_neg (by rw [e]; decide), e]
            exact ⟨.slice none 0 0, emp, rfl, rfl, nI⟩
          · have _t4 := True.intro
            refine XK.skip ?_
            refine XK.inBlock ?_
            refine XK.region rfl ?_
            refine XO.q (Q.move rfl) ?_
            refine XO.q (Q.add rfl rfl ⟨by omega, by omega⟩) ?_
            refine XO.q (Q.assign rfl) ?_
            refine XO.done ?_
            exact ih0 (i + 1) _ _ ⟨by omega, by rw [allTo_succ, ha, Bool.true_and, Bool.not_eq_true']; exact fit_in.1 (Decidable.of_not_not c4)⟩ (by first | omega | (dsimp only; omega)) (.c rfl (.base 41 rfl rfl)) inferInstance
        · have _t3 := True.intro
          refine XK.exit rfl ?_
          refine XK.seq ?_
          refine XK.region rfl ?_
          refine XO.q (Q.move rfl) ?_
          refine XO.q (Q.assign rfl) ?_
          refine XO.q (Q.assign rfl) ?_
          refine XO.done ?_
          refine XK.rt [kp] Try.func74 Try.results74 (.t rfl (.t rfl .n)) ?_
          have hil : i = b.gens.length := by omega
          subst hil
          have e : readyP b l fs = 0 := by rw [readyP, if_neg c0, if_neg c1, if_neg (by rw [fitP, ha, decide_eq_true (by omega)]; decide)]
          rw [if_pos e, e]
          exact ⟨vp, kp, rfl, rfl, OP⟩
theorem startQ_ok {g : BGen} (gk : GenOk g) {f : Int} (h0 : 0 ≤ f) (h1 : f ≤ g.tries) : startQ g f = (startP g f, 0) := by
  rw [startQ, if_neg (by rw [genOk_iff.2 gk]; decide), if_neg (by omega)]
theorem Rcan_spec (b : BBank) (vb vg : Value) (hb hg : PHeap) [ib : Arr vb encBat 4 hb b.bats] [ig : Arr vg encGen 5 hg b.gens] (fs : List Int) (vf : Value) (hf : PHeap) [jf : Arr vf encI 1 hf fs] (ok : BOk b) (fk : FOk b fs) (t : Int) (ht0 : 0 ≤ t) (ht : t ≤ 20000) : Spec Try.prog 82 #[.agg #[vb, vg], vf, .int .i64 t] [] [hb, hg, hf] (fun v hs => ∃ kc, hs = [kc] ∧ OArr v encI 1 3 kc (cansTo b.gens (startsP b fs) t b.gens.length)) := by
  have lg := ig.le
  have n6 := ok.ng
  have nf := fk.n
  have nI : OArr (.slice none 0 0) encI 1 3 emp ([] : List Int) := OArr.nil (fun _ => rfl)
  have sl : (startsP b fs).length = b.gens.length := startsTo_len _ _ _
  have sat : ∀ i, i < b.gens.length → (startsP b fs).getD i default = startP (b.gens.getD i default) (fs.getD i default) := fun i hi => startsTo_at _ _ _ hi
  refine Spec.intro (fn := Try.f82) (N := 56) Try.func82 rfl Try.ntmps82 rfl fun B => ?_
  refine XK.seq ?_
  refine XK.region rfl ?_
  refine XO.box rfl fun b3 => ?_
  refine XO.q (Q.assign rfl) ?_
  refine XO.done ?_
  refine XK.seq ?_
  refine XK.region rfl ?_
  refine XO.q (Q.assign rfl) ?_
  refine XO.done ?_
  refine XK.seq ?_
  refine XK.seq ?_
  refine XK.region rfl ?_
  refine XO.q (Q.assign rfl) ?_
  refine XO.done ?_
  refine XK.block ?_
  refine XK.while (X := Nat × Value × PHeap) [7, 8, 9, 10, 11, 12, 13, 14, 15, 16, 17, 18, 19, 20, 21, 22, 23, 24, 25, 26, 27, 28, 29, 30, 31, 32, 33, 34, 35, 36, 37, 38, 39, 40, 41, 42, 43, 44, 45, 46, 47, 48, 49, 50, 51, 52, 53, 54] (fun ⟨i, vc, kc⟩ => [(7, some (vc)), (8, some (.int .i64 (i : Nat)))]) (fun ⟨i, vc, kc⟩ => [kc]) (fun ⟨i, vc, kc⟩ => i ≤ b.gens.length ∧ OArr vc encI 1 3 kc (cansTo b.gens (startsP b fs) t (i))) (fun ⟨i, vc, kc⟩ => b.gens.length - i) (0, .slice none 0 0, emp) [emp] rfl ⟨by omega, nI⟩ (.c rfl (.c rfl (.base 0 rfl rfl))) ?_
  rintro ⟨i, vc, kc⟩ ⟨hi, OC⟩ ih0
  dsimp only [List.cons_append, List.nil_append] at ih0 ⊢
  refine XK.seq ?_
  refine XK.seq ?_
  refine XK.region rfl ?_
  refine XO.q (Q.move rfl) ?_
  refine XO.q (Q.fieldAddr rfl) ?_
  refine XO.q (Q.ld rfl rfl) ?_
  refine XO.len rfl fun l16 => ?_
  refine XO.q (Q.lss rfl rfl) ?_
  refine XO.done ?_
  refine XK.if rfl (fun c0 => ?_) (fun c0 => ?_)
  · have _t0 := True.intro
    have gk := ok.gen _ (getD_memB (show i < b.gens.length by omega))
    have fi := fk.f i (by omega)
    have sp := startP_ok gk fi.1 fi.2
    have cl := cansTo_len b.gens (startsP b fs) t i
    have gr0 := gk.r0
    have gr1 := gk.r1
    have si := sat i (by omega)
    refine XK.skip ?_
    refine XK.seq ?_
    refine XK.block ?_
    refine XK.seq ?_
    refine XK.region rfl ?_
    refine XO.q (Q.fieldAddr rfl) ?_
    refine XO.q (Q.ld rfl rfl) ?_
    refine XO.q (Q.move rfl) ?_
    refine XO.ix rfl rfl (by omega) (by omega) fun i23 => ?_
    refine XO.q (Q.ldEA [_, _, _, _, _] rfl (by first | assumption | omega) rfl rfl) ?_
    refine XO.alloc fun b9 => ?_
    refine XO.st rfl rfl rfl ?_
    refine XO.done ?_
    refine XK.seq ?_
    refine XK.drawn [0, 1, 2, 3, 4, 6, 7, 8, 9, 10] [b9] [] (.q 0 (.q 1 (.q 2 (.q 3 (.q 4 (.br 5 true (.q 6 (.q 7 (.q 8 (.q 9 (.q 10 .done))))) .stop)))))) Try.mixed rfl (by kernel_rfl) ?_
    refine XT.q rfl rfl (Q.ldA [_, _, _, _, _] rfl rfl rfl) ?_
    refine XT.q rfl rfl (Q.move rfl) ?_
    refine XT.q rfl rfl (Q.move rfl) ?_
    refine XT.ix rfl rfl rfl rfl (by omega) (by omega) fun i29 => ?_
    refine XT.q rfl rfl (Q.ldE rfl (by first | assumption | omega) rfl) ?_
    refine XT.call rfl rfl Try.call41 rfl rfl rfl (RStart_spec (b.gens.getD i default) (fs.getD i default)) (fun v31 s31 R31 => ?_) XT.stop
    obtain ⟨rfl, rfl⟩ := R31
    dsimp only [List.cons_append, List.nil_append]
    refine ⟨inferInstance, ?_⟩
    rw [startQ_ok gk fi.1 fi.2]
    dsimp only
    refine XT.q rfl rfl (Q.move rfl) ?_
    refine XT.q rfl rfl (Q.extract rfl rfl) ?_
    refine XT.q rfl rfl (Q.extract rfl rfl) ?_
    refine XT.q rfl rfl (Q.assign rfl) ?_
    refine XT.q rfl rfl (Q.assign rfl) ?_
    refine XT.done ?_
    refine XK.seq ?_
    refine XK.region rfl ?_
    refine XO.q (Q.assign rfl) ?_
    refine XO.done ?_
    refine XK.seq ?_
    refine XK.seq ?_
    refine XK.region rfl ?_
    refine XO.q (Q.move rfl) ?_
    refine XO.q (Q.geq rfl rfl) ?_
    refine XO.q (Q.move rfl) ?_
    refine XO.q (Quiet.guardT rfl rfl fun g37 p37 => Q.move rfl) ?_
    refine XO.q (Quiet.guardT rfl rfl fun g38 p38 => Q.move rfl) ?_
    refine XO.q (Quiet.guardT rfl rfl fun g39 p39 => Q.geq (lzv g39 rfl) (lzv g39 rfl)) ?_
    refine XO.q (Q.and rfl (fun hp => lzv hp rfl)) ?_
    refine XO.done ?_
    refine XK.meet (X := Unit) [12, 41, 42, 43, 44, 45, 46, 47, 48, 49, 50] (fun _u => [(12, some (.int .i64 (canAt b.gens (startsP b fs) t i)))]) (fun _u => []) (fun _u => True) [] ?_ ?_
    · rintro _u _
      dsimp only [List.cons_append, List.nil_append]
      refine XK.region rfl ?_
      refine XO.q (Q.move rfl) ?_
      refine XO.q (Q.move rfl) ?_
      refine XO.lit [_] [_] [canAt b.gens (startsP b fs) t i] encI (by rfl) (by rfl) rfl (by rfl) (by exact .c 0 1 rfl rfl rfl (.n _)) (fun _ => rfl) (by rfl) rfl (by infer_instance) rfl fun v53 h53 O53 => ?_
      refine XO.append rfl rfl rfl rfl (by first | omega | (simp; omega)) fun v54 h54 O54 => ?_
      refine XO.q (Q.assign rfl) ?_
      refine XO.done ?_
      refine XK.inBlock ?_
      refine XK.region rfl ?_
      refine XO.q (Q.move rfl) ?_
      refine XO.q (Q.add rfl rfl ⟨by omega, by omega⟩) ?_
      refine XO.q (Q.assign rfl) ?_
      refine XO.done ?_
      exact ih0 (i + 1, v54, h54) _ _ ⟨by dsimp only; omega, O54⟩ (by first | omega | (dsimp only; omega)) (.c rfl (.c rfl (.base 100 rfl rfl))) inferInstance
    · intro mt1
      dsimp only [List.cons_append, List.nil_append] at mt1
      refine XK.if rfl (fun c1 => ?_) (fun c1 => ?_)
      · have _t1 := True.intro
        have m := mulLe (a := (b.gens.getD i default).ramp) (b := t - (startP (b.gens.getD i default) (fs.getD i default)) + 1) (m := 1000000) (n := 20002) gk.r0 gk.r1 (by omega) (by omega)
        refine XK.region rfl ?_
        refine XO.q (Q.fieldAddr rfl) ?_
        refine XO.q (Q.ld rfl rfl) ?_
        refine XO.q (Q.fieldAddr rfl) ?_
        refine XO.q (Q.ld rfl rfl) ?_
        refine XO.q (Q.move rfl) ?_
        refine XO.q (Q.move rfl) ?_
        refine XO.q (Q.sub rfl rfl ⟨by omega, by omega⟩) ?_
        refine XO.q (Q.add rfl rfl ⟨by omega, by omega⟩) ?_
        refine XO.q (Q.mul rfl rfl ⟨by omega, by omega⟩) ?_
        refine XO.q (Q.min rfl rfl) ?_
        refine XO.q (Q.assign rfl) ?_
        refine XO.done ?_
        rw [show canAt b.gens (startsP b fs) t i = min (b.gens.getD i default).power ((b.gens.getD i default).ramp * (t - (startP (b.gens.getD i default) (fs.getD i default)) + 1)) by rw [canAt, si, canP, if_neg (by omega)]] at mt1
        exact mt1 (()) _ _ trivial (.c rfl (.base 11 rfl rfl)) inferInstance
      · have _t1 := True.intro
        refine XK.skip ?_
        rw [show canAt b.gens (startsP b fs) t i = 0 by rw [canAt, si, canP, if_pos (by omega)]] at mt1
        exact mt1 (()) _ _ trivial (.c rfl (.base 0 rfl rfl)) inferInstance
  · have _t0 := True.intro
    have hil : i = b.gens.length := by omega
    refine XK.exit rfl ?_
    refine XK.seq ?_
    refine XK.region rfl ?_
    refine XO.q (Q.move rfl) ?_
    refine XO.q (Q.assign rfl) ?_
    refine XO.done ?_
    refine XK.rt [kc] Try.func82 Try.results82 (.t rfl .n) ?_
    subst hil
    exact ⟨kc, rfl, OC⟩
end Go.X

set_option linter.unusedSimpArgs false
set_option linter.unusedVariables false
set_option maxRecDepth 20000
namespace Go.X
open Go.Proofs
set_option maxHeartbeats 1000000 in
theorem one_spec (b : BBank) (vb vg : Value) (hb hg : PHeap) [ib : Arr vb encBat 4 hb b.bats] [ig : Arr vg encGen 5 hg b.gens] (ok : BOk b) (en : List Int) (ve : Value) (he : PHeap) [ie : Arr ve encI 1 he en] (ab : List Int) (va : Value) (ha : PHeap) [ia : Arr va encI 1 ha ab] (load : Int) (l0 : 0 ≤ load) (l1 : load ≤ 1000000)
    (nab : ab.length ≤ 6) (hab : ∀ j, j < ab.length → 0 ≤ ab.getD j default ∧ ab.getD j default ≤ 1000000) (s : BSt) (hen : en = energiesP s.cells) (hk : CellsOk b.bats.length s.cells) (hbt : Bats b.bats s.cells) :
    Spec Try.prog 81 #[.agg #[vb, vg], ve, va, .int .i64 load] [] [hb, hg, he, ha] (fun v hs => ∃ v1 v2 k1 k2, v = .tuple #[v1, v2, .int .i64 (oneP b.bats en ab load).2.2] ∧ hs = [k1, k2] ∧ OArr v1 encI 1 3 k1 (oneP b.bats en ab load).1 ∧ OArr v2 encI 1 3 k2 (oneP b.bats en ab load).2.1) := by
  have lb := ib.le
  have lg := ig.le
  have n8 := ok.nb
  have nel : en.length = b.bats.length := by rw [hen]; exact (energies_rng hk).1
  have g0 := fun i hi => rg0_ok hab l0 i hi
  have s0 := fun i hi => spR_ok hab l0 i hi
  have gN := g0 ab.length (Nat.le_refl _)
  have sN := s0 ab.length (Nat.le_refl _)
  have rv := fun i (hi : i ≤ b.bats.length) => rgive_ok hk hbt gN.2.1 hi
  have rt := fun i (hi : i ≤ b.bats.length) => rtake_ok hk hbt gN.1 sN.1 hi
  rw [← hen] at rv rt
  have glen := gN.1.len
  refine Spec.intro (fn := Try.f81) (N := 167) Try.func81 rfl Try.ntmps81 rfl fun B => ?_
  refine XK.seq ?_
  refine XK.region rfl ?_
  refine XO.box rfl fun b4 => ?_
  refine XO.q (Q.assign rfl) ?_
  refine XO.q (Q.assign rfl) ?_
  refine XO.q (Q.assign rfl) ?_
  refine XO.done ?_
  refine XK.seq ?_
  refine XK.region rfl ?_
  refine XO.q (Q.move rfl) ?_
  refine XO.call Try.call83 rfl rfl rfl (copyInts ve he en (by omega)) fun v23 s23 R23 => ?_
  obtain ⟨k23, rfl, O23⟩ := R23
  dsimp only [List.cons_append, List.nil_append]
  refine XO.q (Q.assign rfl) ?_
  refine XO.done ?_
  refine XK.seq ?_
  refine XK.region rfl ?_
  refine XO.q (Q.move rfl) ?_
  refine XO.len rfl fun l25 => ?_
  refine XO.make encI (0) rfl rfl rfl (by omega) (by omega) (fun _ => rfl) rfl rfl rfl (by dsimp only [encI]; infer_instance) fun v26 h26 O26 => ?_
  refine XO.q (Q.assign rfl) ?_
  refine XO.done ?_
  refine XK.seq ?_
  refine XK.region rfl ?_
  refine XO.q (Q.move rfl) ?_
  refine XO.q (Q.assign rfl) ?_
  refine XO.done ?_
  refine XK.seq ?_
  refine XK.region rfl ?_
  refine XO.q (Q.assign rfl) ?_
  refine XO.done ?_
  refine XK.seq ?_
  refine XK.seq ?_
  refine XK.region rfl ?_
  refine XO.q (Q.assign rfl) ?_
  refine XO.done ?_
  refine XK.block ?_
  refine XK.while (X := Nat × PHeap) [13, 14, 15, 28, 29, 30, 31, 32, 33, 34, 35, 36, 37, 38, 39, 40, 41, 42, 43, 44, 45, 46, 47, 48, 49, 50, 51, 52, 53, 54, 55, 56, 57, 58, 59] (fun ⟨i, kg⟩ => [(13, some (.int .i64 (rg0 ab load (i)).2)), (14, some (.int .i64 (spR (cL ab) (rg0 ab load) i))), (15, some (.int .i64 (i : Nat)))]) (fun ⟨i, kg⟩ => [kg]) (fun ⟨i, kg⟩ => i ≤ ab.length ∧ OArr v26 encI 1 3 kg (rg0 ab load (i)).1) (fun ⟨i, kg⟩ => ab.length - i) (0, h26) [h26] rfl ⟨by omega, O26⟩ (.c rfl (.c rfl (.c rfl (.base 0 rfl rfl)))) ?_
  rintro ⟨i, kg⟩ ⟨hi, OG⟩ ih0
  dsimp only [List.cons_append, List.nil_append] at ih0 ⊢
  have gi := g0 i hi
  have gil := gi.1.len
  have si := s0 i hi
  refine XK.seq ?_
  refine XK.seq ?_
  refine XK.region rfl ?_
  refine XO.q (Q.move rfl) ?_
  refine XO.q (Q.move rfl) ?_
  refine XO.len rfl fun l30 => ?_
  refine XO.q (Q.lss rfl rfl) ?_
  refine XO.done ?_
  refine XK.if rfl (fun c0 => ?_) (fun c0 => ?_)
  · have _t0 := True.intro
    have gz := gi.2.2.2 (by omega)
    have es := rg0_succ gz
    have sl : ((rg0 ab load (i)).1.set i (min (rg0 ab load (i)).2 (ab.getD i default))).length = (rg0 ab load (i)).1.length := List.length_set
    have ai := hab i (by omega)
    refine XK.skip ?_
    refine XK.seq ?_
    refine XK.block ?_
    refine XK.seq ?_
    refine XK.region rfl ?_
    refine XO.q (Q.move rfl) ?_
    refine XO.q (Q.move rfl) ?_
    refine XO.q (Q.move rfl) ?_
    refine XO.q (Q.move rfl) ?_
    refine XO.q (Q.move rfl) ?_
    refine XO.ix rfl rfl (by omega) (by omega) fun i39 => ?_
    refine XO.q (Q.ldE rfl (by first | assumption | omega) rfl) ?_
    refine XO.q (Q.min rfl rfl) ?_
    refine XO.ix rfl rfl (by omega) (by omega) fun i42 => ?_
    refine XO.stE _ rfl rfl rfl (by assumption) rfl rfl fun h8_9 O8_9 => ?_
    refine XO.done ?_
    refine XK.seq ?_
    refine XK.region rfl ?_
    refine XO.q (Q.move rfl) ?_
    refine XO.q (Q.move rfl) ?_
    refine XO.q (Q.move rfl) ?_
    refine XO.ix rfl rfl (by omega) (by omega) fun i46 => ?_
    refine XO.q (Q.ldE rfl (by first | assumption | omega) rfl) ?_
    rw [getD_set' (by omega), if_pos rfl]
    refine XO.q (Q.sub rfl rfl ⟨by omega, by omega⟩) ?_
    refine XO.q (Q.assign rfl) ?_
    refine XO.done ?_
    refine XK.drawn [0, 1, 2, 3, 4, 5, 6, 7, 8, 9, 10, 11] [] [h8_9] (.q 0 (.q 1 (.q 2 (.q 3 (.q 4 (.q 5 (.q 6 (.q 7 (.q 8 (.q 9 (.q 10 (.q 11 .done)))))))))))) Try.mixed rfl (by kernel_rfl) ?_
    refine XT.q rfl rfl (Q.move rfl) ?_
    refine XT.q rfl rfl (Q.move rfl) ?_
    refine XT.q rfl rfl (Q.move rfl) ?_
    refine XT.ix rfl rfl rfl rfl (by omega) (by omega) fun i52 => ?_
    refine XT.q rfl rfl (Q.ldE rfl (by first | assumption | omega) rfl) ?_
    refine XT.q rfl rfl (Q.add rfl rfl ⟨by omega, by omega⟩) ?_
    refine XT.q rfl rfl (Q.move rfl) ?_
    refine XT.q rfl rfl (Q.move rfl) ?_
    refine XT.ix rfl rfl rfl rfl (by omega) (by omega) fun i57 => ?_
    refine XT.q rfl rfl (Q.ldE rfl (by first | assumption | omega) rfl) ?_
    rw [getD_set' (by omega), if_pos rfl]
    refine XT.q rfl rfl (Q.sub rfl rfl ⟨by omega, by omega⟩) ?_
    refine XT.q rfl rfl (Q.assign rfl) ?_
    refine XT.done ?_
    refine XK.inBlock ?_
    refine XK.region rfl ?_
    refine XO.q (Q.move rfl) ?_
    refine XO.q (Q.add rfl rfl ⟨by omega, by omega⟩) ?_
    refine XO.q (Q.assign rfl) ?_
    refine XO.done ?_
    rw [show (rg0 ab load (i)).2 - min (rg0 ab load (i)).2 (ab.getD i default) = (rg0 ab load (i + 1)).2 by rw [es]]
    exact ih0 (i + 1, h8_9) _ _ ⟨by dsimp only; omega, by dsimp only; rw [es]; exact O8_9⟩ (by first | omega | (dsimp only; omega)) (.c rfl (.c rfl (.c rfl (.base 73 rfl rfl)))) inferInstance
  · have _t0 := True.intro
    have hil : i = ab.length := by omega
    subst hil
    clear ih0 gi gil si
    refine XK.exit rfl ?_
    refine XK.seq ?_
    refine XK.seq ?_
    refine XK.region rfl ?_
    refine XO.q (Q.move rfl) ?_
    refine XO.q (Q.gtr rfl rfl) ?_
    refine XO.done ?_
    refine XK.if rfl (fun c1 => ?_) (fun c1 => ?_)
    · have _t1 := True.intro
      refine XK.seq ?_
      refine XK.seq ?_
      refine XK.region rfl ?_
      refine XO.q (Q.assign rfl) ?_
      refine XO.done ?_
      refine XK.block ?_
      refine XK.while (X := Nat × PHeap) [13, 16, 17, 62, 63, 64, 65, 66, 67, 68, 69, 70, 71, 72, 73, 74, 75, 76, 77, 78, 79, 80, 81, 82, 83, 84, 85, 86, 87, 88, 89, 90, 91] (fun ⟨i, kn⟩ => [(13, some (.int .i64 (rgiveTo b.bats en (rg0 ab load (ab.length)).2 (i)).2)), (16, some (.int .i64 (i : Nat)))]) (fun ⟨i, kn⟩ => [kn]) (fun ⟨i, kn⟩ => i ≤ b.bats.length ∧ OArr v23 encI 1 3 kn (rgiveTo b.bats en (rg0 ab load (ab.length)).2 (i)).1) (fun ⟨i, kn⟩ => b.bats.length - i) (0, k23) [k23] rfl ⟨by omega, O23⟩ (.c rfl (.c rfl (.base 0 rfl rfl))) ?_
      rintro ⟨i, kn⟩ ⟨hi, ON⟩ ih1
      dsimp only [List.cons_append, List.nil_append] at ih1 ⊢
      obtain ⟨r1, r2, r3⟩ := rv i hi
      refine XK.seq ?_
      refine XK.seq ?_
      refine XK.region rfl ?_
      refine XO.q (Q.move rfl) ?_
      refine XO.q (Q.move rfl) ?_
      refine XO.len rfl fun l64 => ?_
      refine XO.q (Q.lss rfl rfl) ?_
      refine XO.done ?_
      refine XK.if rfl (fun c2 => ?_) (fun c2 => ?_)
      · have _t2 := True.intro
        have bi := ok.bat _ (getD_memB (show i < b.bats.length by omega))
        have p0 := bi.p0
        have p1 := bi.p1
        have ri := r3 i (by omega)
        refine XK.skip ?_
        refine XK.seq ?_
        refine XK.block ?_
        refine XK.seq ?_
        refine XK.drawn [0, 1, 2, 3, 4, 5, 6, 7, 8, 9, 10, 11, 12] [b4] [kn] (.q 0 (.q 1 (.q 2 (.q 3 (.q 4 (.q 5 (.q 6 (.q 7 (.q 8 (.q 9 (.q 10 (.q 11 (.q 12 .done))))))))))))) Try.mixed rfl (by kernel_rfl) ?_
        refine XT.q rfl rfl (Q.move rfl) ?_
        refine XT.q rfl rfl (Q.move rfl) ?_
        refine XT.q rfl rfl (Q.move rfl) ?_
        refine XT.ix rfl rfl rfl rfl (by omega) (by omega) fun i71 => ?_
        refine XT.q rfl rfl (Q.ldE rfl (by first | assumption | omega) rfl) ?_
        refine XT.q rfl rfl (Q.fieldAddr rfl) ?_
        refine XT.q rfl rfl (Q.ld rfl rfl) ?_
        refine XT.q rfl rfl (Q.move rfl) ?_
        refine XT.ix rfl rfl rfl rfl (by omega) (by omega) fun i76 => ?_
        refine XT.q rfl rfl (Q.fieldQ rfl (by first | assumption | omega)) ?_
        refine XT.q rfl rfl (Q.ldE rfl (by first | assumption | omega) rfl) ?_
        refine XT.q rfl rfl (Q.min3 rfl rfl rfl) ?_
        refine XT.q rfl rfl (Q.assign rfl) ?_
        refine XT.done ?_
        refine XK.seq ?_
        refine XK.region rfl ?_
        refine XO.q (Q.move rfl) ?_
        refine XO.q (Q.move rfl) ?_
        refine XO.q (Q.move rfl) ?_
        refine XO.q (Q.move rfl) ?_
        refine XO.ix rfl rfl (by omega) (by omega) fun i84 => ?_
        refine XO.q (Q.ldE rfl (by first | assumption | omega) rfl) ?_
        refine XO.q (Q.move rfl) ?_
        refine XO.q (Q.sub rfl rfl ⟨by omega, by omega⟩) ?_
        refine XO.ix rfl rfl (by omega) (by omega) fun i88 => ?_
        refine XO.stE _ rfl rfl rfl (by assumption) rfl rfl fun h16_9 O16_9 => ?_
        refine XO.done ?_
        refine XK.region rfl ?_
        refine XO.q (Q.move rfl) ?_
        refine XO.q (Q.move rfl) ?_
        refine XO.q (Q.sub rfl rfl ⟨by omega, by omega⟩) ?_
        refine XO.q (Q.assign rfl) ?_
        refine XO.done ?_
        refine XK.inBlock ?_
        refine XK.region rfl ?_
        refine XO.q (Q.move rfl) ?_
        refine XO.q (Q.add rfl rfl ⟨by omega, by omega⟩) ?_
        refine XO.q (Q.assign rfl) ?_
        refine XO.done ?_
        exact ih1 (i + 1, h16_9) _ _ ⟨by dsimp only; omega, by dsimp only; exact O16_9⟩ (by first | omega | (dsimp only; omega)) (.c rfl (.c rfl (.base 68 rfl rfl))) inferInstance
      · have _t2 := True.intro
        refine XK.exit rfl ?_
        refine XK.seq ?_
        refine XK.region rfl ?_
        refine XO.q (Q.move rfl) ?_
        refine XO.q (Q.move rfl) ?_
        refine XO.q (Q.move rfl) ?_
        refine XO.q (Q.assign rfl) ?_
        refine XO.q (Q.assign rfl) ?_
        refine XO.q (Q.assign rfl) ?_
        refine XO.done ?_
        refine XK.rt [kn, kg] Try.func81 Try.results81 (.t rfl (.t rfl (.t rfl .n))) ?_
        have hil : i = b.bats.length := by omega
        subst hil
        have e : oneP b.bats en ab load = ((rgiveTo b.bats en (rg0 ab load (ab.length)).2 (b.bats.length)).1, (rg0 ab load (ab.length)).1, (rgiveTo b.bats en (rg0 ab load (ab.length)).2 (b.bats.length)).2) := by rw [oneP, if_pos c1, nel]
        rw [e]
        exact ⟨v23, v26, kn, kg, rfl, rfl, ON, OG⟩
    · have _t1 := True.intro
      refine XK.skip ?_
      refine XK.seq ?_
      refine XK.seq ?_
      refine XK.region rfl ?_
      refine XO.q (Q.assign rfl) ?_
      refine XO.done ?_
      refine XK.block ?_
      refine XK.while (X := Nat × PHeap × PHeap) [14, 18, 19, 20, 21, 95, 96, 97, 98, 99, 100, 101, 102, 103, 104, 105, 106, 107, 108, 109, 110, 111, 112, 113, 114, 115, 116, 117, 118, 119, 120, 121, 122, 123, 124, 125, 126, 127, 128, 129, 130, 131, 132, 133, 134, 135, 136, 137, 138, 139, 140, 141, 142, 143, 144, 145, 146, 147, 148, 149, 150, 151, 152, 153, 154, 155, 156, 157, 158, 159, 160, 161, 162, 163, 164] (fun ⟨i, kn, kg⟩ => [(14, some (.int .i64 (rtakeTo b.bats (cL ab) ab.length ⟨en, (rg0 ab load (ab.length)).1, spR (cL ab) (rg0 ab load) ab.length⟩ (i)).spare)), (18, some (.int .i64 (i : Nat)))]) (fun ⟨i, kn, kg⟩ => [kn, kg]) (fun ⟨i, kn, kg⟩ => i ≤ b.bats.length ∧ OArr v23 encI 1 3 kn (rtakeTo b.bats (cL ab) ab.length ⟨en, (rg0 ab load (ab.length)).1, spR (cL ab) (rg0 ab load) ab.length⟩ (i)).now ∧ OArr v26 encI 1 3 kg (rtakeTo b.bats (cL ab) ab.length ⟨en, (rg0 ab load (ab.length)).1, spR (cL ab) (rg0 ab load) ab.length⟩ (i)).gives) (fun ⟨i, kn, kg⟩ => b.bats.length - i) (0, k23, kg) [k23, kg] rfl ⟨by omega, O23, OG⟩ (.c rfl (.c rfl (.base 0 rfl rfl))) ?_
      rintro ⟨i, kn, kg⟩ ⟨hi, ON, OG2⟩ ih2
      dsimp only [List.cons_append, List.nil_append] at ih2 ⊢
      obtain ⟨r1, r2, r3, r4⟩ := rt i hi
      refine XK.seq ?_
      refine XK.seq ?_
      refine XK.region rfl ?_
      refine XO.q (Q.move rfl) ?_
      refine XO.q (Q.move rfl) ?_
      refine XO.len rfl fun l97 => ?_
      refine XO.q (Q.lss rfl rfl) ?_
      refine XO.done ?_
      refine XK.if rfl (fun c3 => ?_) (fun c3 => ?_)
      · have _t3 := True.intro
        have bi := ok.bat _ (getD_memB (show i < b.bats.length by omega))
        have p0 := bi.c0
        have p1 := bi.c1
        have p2 := bi.f1
        have p3 := bi.e0
        have p4 := bi.ef
        have ri := r3 i (by omega)
        have rx := rtx_ok (bats := b.bats) (r := (rtakeTo b.bats (cL ab) ab.length ⟨en, (rg0 ab load (ab.length)).1, spR (cL ab) (rg0 ab load) ab.length⟩ (i))) (i := i) r2.1 p0 ri.2.1
        have rxx := rx
        unfold rtx at rxx
        refine XK.skip ?_
        refine XK.seq ?_
        refine XK.block ?_
        refine XK.seq ?_
        refine XK.drawn [0, 1, 2, 3, 4, 5, 6, 7, 8, 9, 10, 11, 12, 13, 14, 15, 16, 17, 18, 19] [b4] [kn] (.q 0 (.q 1 (.q 2 (.q 3 (.q 4 (.q 5 (.q 6 (.q 7 (.q 8 (.q 9 (.q 10 (.q 11 (.q 12 (.q 13 (.q 14 (.q 15 (.q 16 (.q 17 (.q 18 (.q 19 .done)))))))))))))))))))) Try.mixed rfl (by kernel_rfl) ?_
        refine XT.q rfl rfl (Q.move rfl) ?_
        refine XT.q rfl rfl (Q.fieldAddr rfl) ?_
        refine XT.q rfl rfl (Q.ld rfl rfl) ?_
        refine XT.q rfl rfl (Q.move rfl) ?_
        refine XT.ix rfl rfl rfl rfl (by omega) (by omega) fun i105 => ?_
        refine XT.q rfl rfl (Q.fieldQ rfl (by first | assumption | omega)) ?_
        refine XT.q rfl rfl (Q.ldE rfl (by first | assumption | omega) rfl) ?_
        refine XT.q rfl rfl (Q.fieldAddr rfl) ?_
        refine XT.q rfl rfl (Q.ld rfl rfl) ?_
        refine XT.q rfl rfl (Q.move rfl) ?_
        refine XT.ix rfl rfl rfl rfl (by omega) (by omega) fun i111 => ?_
        refine XT.q rfl rfl (Q.fieldQ rfl (by first | assumption | omega)) ?_
        refine XT.q rfl rfl (Q.ldE rfl (by first | assumption | omega) rfl) ?_
        refine XT.q rfl rfl (Q.move rfl) ?_
        refine XT.q rfl rfl (Q.move rfl) ?_
        refine XT.ix rfl rfl rfl rfl (by omega) (by omega) fun i116 => ?_
        refine XT.q rfl rfl (Q.ldE rfl (by first | assumption | omega) rfl) ?_
        refine XT.q rfl rfl (Q.sub rfl rfl ⟨by omega, by omega⟩) ?_
        refine XT.q rfl rfl (Q.min3 rfl rfl rfl) ?_
        refine XT.q rfl rfl (Q.assign rfl) ?_
        refine XT.done ?_
        refine XK.seq ?_
        refine XK.region rfl ?_
        refine XO.q (Q.move rfl) ?_
        refine XO.q (Q.move rfl) ?_
        refine XO.q (Q.move rfl) ?_
        refine XO.q (Q.move rfl) ?_
        refine XO.ix rfl rfl (by omega) (by omega) fun i124 => ?_
        refine XO.q (Q.ldE rfl (by first | assumption | omega) rfl) ?_
        refine XO.q (Q.move rfl) ?_
        refine XO.q (Q.add rfl rfl ⟨by omega, by omega⟩) ?_
        refine XO.ix rfl rfl (by omega) (by omega) fun i128 => ?_
        refine XO.stE _ rfl rfl rfl (by assumption) rfl rfl fun h23_9 O23_9 => ?_
        refine XO.done ?_
        refine XK.seq ?_
        refine XK.region rfl ?_
        refine XO.q (Q.move rfl) ?_
        refine XO.q (Q.move rfl) ?_
        refine XO.q (Q.sub rfl rfl ⟨by omega, by omega⟩) ?_
        refine XO.q (Q.assign rfl) ?_
        refine XO.done ?_
        refine XK.seq ?_
        refine XK.region rfl ?_
        refine XO.q (Q.assign rfl) ?_
        refine XO.done ?_
        refine XK.block ?_
        refine XK.while (X := Nat × PHeap) [19, 20, 21, 132, 133, 134, 135, 136, 137, 138, 139, 140, 141, 142, 143, 144, 145, 146, 147, 148, 149, 150, 151, 152, 153, 154, 155, 156, 157, 158, 159, 160, 161, 162, 163, 164] (fun ⟨k, kq⟩ => [(19, some (.int .i64 (genTo (cL ab) (rtakeTo b.bats (cL ab) ab.length ⟨en, (rg0 ab load (ab.length)).1, spR (cL ab) (rg0 ab load) ab.length⟩ (i)).gives (rtx b.bats (rtakeTo b.bats (cL ab) ab.length ⟨en, (rg0 ab load (ab.length)).1, spR (cL ab) (rg0 ab load) ab.length⟩ (i)) i) (k)).2)), (20, some (.int .i64 (k : Nat)))]) (fun ⟨k, kq⟩ => [kq]) (fun ⟨k, kq⟩ => k ≤ ab.length ∧ OArr v26 encI 1 3 kq (genTo (cL ab) (rtakeTo b.bats (cL ab) ab.length ⟨en, (rg0 ab load (ab.length)).1, spR (cL ab) (rg0 ab load) ab.length⟩ (i)).gives (rtx b.bats (rtakeTo b.bats (cL ab) ab.length ⟨en, (rg0 ab load (ab.length)).1, spR (cL ab) (rg0 ab load) ab.length⟩ (i)) i) (k)).1) (fun ⟨k, kq⟩ => ab.length - k) (0, kg) [kg] rfl ⟨by omega, OG2⟩ (.c rfl (.c rfl (.base 0 rfl rfl))) ?_
        rintro ⟨k, kq⟩ ⟨hkn, OQ⟩ ih3
        dsimp only [List.cons_append, List.nil_append] at ih3 ⊢
        have qk := genTo_ok r4 rx.1 k hkn
        have qkl := qk.1.len
        refine XK.seq ?_
        refine XK.seq ?_
        refine XK.region rfl ?_
        refine XO.q (Q.move rfl) ?_
        refine XO.q (Q.move rfl) ?_
        refine XO.len rfl fun l134 => ?_
        refine XO.q (Q.lss rfl rfl) ?_
        refine XO.q (Q.move rfl) ?_
        refine XO.q (Quiet.guardT rfl rfl fun g137 p137 => Q.move rfl) ?_
        refine XO.q (Quiet.guardT rfl rfl fun g138 p138 => Q.gtr (lzv g138 rfl) rfl) ?_
        refine XO.q (Q.and rfl (fun hp => lzv hp rfl)) ?_
        refine XO.done ?_
        refine XK.if rfl (fun c4 => ?_) (fun c4 => ?_)
        · have _t4 := True.intro
          have qb := qk.1.b k (by omega)
          have ai := hab k (by omega)
          have ec : cL ab k = ab.getD k default := rfl
          rw [ec] at qb
          refine XK.skip ?_
          refine XK.seq ?_
          refine XK.block ?_
          refine XK.seq ?_
          refine XK.drawn [0, 1, 2, 3, 4, 5, 6, 7, 8, 9, 10, 11] [] [kq] (.q 0 (.q 1 (.q 2 (.q 3 (.q 4 (.q 5 (.q 6 (.q 7 (.q 8 (.q 9 (.q 10 (.q 11 .done)))))))))))) Try.mixed rfl (by kernel_rfl) ?_
          refine XT.q rfl rfl (Q.move rfl) ?_
          refine XT.q rfl rfl (Q.move rfl) ?_
          refine XT.q rfl rfl (Q.move rfl) ?_
          refine XT.ix rfl rfl rfl rfl (by omega) (by omega) fun i145 => ?_
          refine XT.q rfl rfl (Q.ldE rfl (by first | assumption | omega) rfl) ?_
          refine XT.q rfl rfl (Q.move rfl) ?_
          refine XT.q rfl rfl (Q.move rfl) ?_
          refine XT.ix rfl rfl rfl rfl (by omega) (by omega) fun i149 => ?_
          refine XT.q rfl rfl (Q.ldE rfl (by first | assumption | omega) rfl) ?_
          refine XT.q rfl rfl (Q.sub rfl rfl ⟨by omega, by omega⟩) ?_
          refine XT.q rfl rfl (Q.min rfl rfl) ?_
          refine XT.q rfl rfl (Q.assign rfl) ?_
          refine XT.done ?_
          refine XK.seq ?_
          refine XK.region rfl ?_
          refine XO.q (Q.move rfl) ?_
          refine XO.q (Q.move rfl) ?_
          refine XO.q (Q.move rfl) ?_
          refine XO.q (Q.move rfl) ?_
          refine XO.ix rfl rfl (by omega) (by omega) fun i157 => ?_
          refine XO.q (Q.ldE rfl (by first | assumption | omega) rfl) ?_
          refine XO.q (Q.move rfl) ?_
          refine XO.q (Q.add rfl rfl ⟨by omega, by omega⟩) ?_
          refine XO.ix rfl rfl (by omega) (by omega) fun i161 => ?_
          refine XO.stE _ rfl rfl rfl (by assumption) rfl rfl fun h29_9 O29_9 => ?_
          refine XO.done ?_
          refine XK.region rfl ?_
          refine XO.q (Q.move rfl) ?_
          refine XO.q (Q.move rfl) ?_
          refine XO.q (Q.sub rfl rfl ⟨by omega, by omega⟩) ?_
          refine XO.q (Q.assign rfl) ?_
          refine XO.done ?_
          refine XK.inBlock ?_
          refine XK.region rfl ?_
          refine XO.q (Q.move rfl) ?_
          refine XO.q (Q.add rfl rfl ⟨by omega, by omega⟩) ?_
          refine XO.q (Q.assign rfl) ?_
          refine XO.done ?_
          exact ih3 (k + 1, h29_9) _ _ ⟨by dsimp only; omega, by dsimp only; exact O29_9⟩ (by first | omega | (dsimp only; omega)) (.c rfl (.c rfl (.base 74 rfl rfl))) inferInstance
        · have _t4 := True.intro
          have gx := gen_exit r4 rx.1 hkn (fun h => c4 ⟨by omega, h.2⟩)
          refine XK.exit rfl ?_
          refine XK.inBlock ?_
          refine XK.region rfl ?_
          refine XO.q (Q.move rfl) ?_
          refine XO.q (Q.add rfl rfl ⟨by omega, by omega⟩) ?_
          refine XO.q (Q.assign rfl) ?_
          refine XO.done ?_
          exact ih2 (i + 1, h23_9, kq) _ _ ⟨by dsimp only; omega, by dsimp only; exact O23_9, by dsimp only; show OArr _ _ _ _ _ (genTo _ _ _ _).1; rw [gx]; exact OQ⟩ (by first | omega | (dsimp only; omega)) (.c rfl (.c rfl (.base 164 rfl rfl))) inferInstance
      · have _t3 := True.intro
        have hil : i = b.bats.length := by omega
        subst hil
        refine XK.exit rfl ?_
        refine XK.seq ?_
        refine XK.region rfl ?_
        refine XO.q (Q.move rfl) ?_
        refine XO.q (Q.move rfl) ?_
        refine XO.q (Q.assign rfl) ?_
        refine XO.q (Q.assign rfl) ?_
        refine XO.q (Q.assign rfl) ?_
        refine XO.done ?_
        refine XK.rt [kn, kg] Try.func81 Try.results81 (.t rfl (.t rfl (.t rfl .n))) ?_
        have e : oneP b.bats en ab load = ((rtakeTo b.bats (cL ab) ab.length ⟨en, (rg0 ab load (ab.length)).1, spR (cL ab) (rg0 ab load) ab.length⟩ (b.bats.length)).now, (rtakeTo b.bats (cL ab) ab.length ⟨en, (rg0 ab load (ab.length)).1, spR (cL ab) (rg0 ab load) ab.length⟩ (b.bats.length)).gives, 0) := by rw [oneP, if_neg c1, nel]
        rw [e]
        exact ⟨v23, v26, kn, kg, rfl, rfl, ON, OG2⟩
end Go.X

set_option linter.unusedSimpArgs false
set_option linter.unusedVariables false
set_option maxRecDepth 20000
namespace Go.X
open Go.Proofs
theorem begun_energies (b : BBank) : energiesP (begun b).cells = b.bats.map (·.energy) := by
  unfold energiesP begun
  rw [List.map_map]; rfl
theorem energy_snoc {l : List BBat} {i : Nat} (hi : i < l.length) : (l.take (i + 1)).map (·.energy) = (l.take i).map (·.energy) ++ [(l.getD i default).energy] := take_map_snoc _ hi
set_option maxHeartbeats 2000000 in
theorem play_off (b : BBank) (vb vg : Value) (hb hg : PHeap) [ib : Arr vb encBat 4 hb b.bats] [ig : Arr vg encGen 5 hg b.gens] (pw : List Int) (vw : Value) (hw : PHeap) [jw : Arr vw encI 1 hw pw] (fs : List Int) (vf : Value) (hf : PHeap) [jf : Arr vf encI 1 hf fs] (ok : BOk b) (fk : FOk b fs) (wk : PwOk pw) : Spec Try.prog 56 #[.agg #[vb, vg], vw, vf, .bool false] [] [hb, hg, hw, hf] (fun v hs => ∃ ve vn vo ke kn ko us K, v = .tuple #[resV (runP b pw fs) ve vn, vo] ∧ hs = [ke, kn, ko, K] ∧ OArr ve encI 1 3 ke (runP b pw fs).energy ∧ OArr vn encI 1 3 kn (runP b pw fs).burnt ∧ OArr vo encV 1 39 ko us ∧ RowsK us K (traceP b pw fs)) := by
  have lb := ib.le
  have lg := ig.le
  have n8 := ok.nb
  have n6 := ok.ng
  have w20 := wk.n
  have nI : OArr (.slice none 0 0) encI 1 3 emp ([] : List Int) := OArr.nil (fun _ => rfl)
  have nV : OArr (.slice none 0 0) encV 1 39 emp ([] : List Value) := OArr.nil (fun _ => rfl)
  have pk := playOk ok fk
  have sl : (startsP b fs).length = b.gens.length := startsTo_len _ _ _
  have hst : ∀ i, i ≤ pw.length → StOk (startsP b fs) b.bats.length i (stateP b pw fs false (i)) := fun i hi => playTo_ok pk wk (begun_ok ok fk) false i hi
  have hla := fun i hi => lackAt_ok (i := i) pk wk (begun_ok ok fk) false hi
  have hlt := fun i hi => lackTo_ok ok fk wk i hi
  have ecan : ∀ m : Nat, m < pw.length → ∀ j, j < (cansTo b.gens (startsP b fs) (m : Nat) b.gens.length).length → 0 ≤ (cansTo b.gens (startsP b fs) (m : Nat) b.gens.length).getD j default ∧ (cansTo b.gens (startsP b fs) (m : Nat) b.gens.length).getD j default ≤ 1000000 := fun m hm j hj => by
    rw [cansTo_len] at hj
    rw [cansTo_at _ _ _ _ hj]
    exact canAt_ok pk (by omega) (by omega)
  refine Spec.intro (fn := Try.f56) (N := 119) Try.func56 rfl Try.ntmps56 rfl fun B => ?_
  refine XK.seq ?_
  refine XK.region rfl ?_
  refine XO.box rfl fun b4 => ?_
  refine XO.alloc fun b8 => ?_
  refine XO.q (Q.assign rfl) ?_
  refine XO.done ?_
  refine XK.seq ?_
  refine XK.region rfl ?_
  refine XO.alloc fun b10 => ?_
  refine XO.done ?_
  refine XK.seq ?_
  refine XK.region rfl ?_
  refine XO.q (Q.fieldAddr rfl) ?_
  refine XO.st rfl rfl rfl ?_
  refine XO.done ?_
  refine XK.seq ?_
  refine XK.seq ?_
  refine XK.region rfl ?_
  refine XO.q (Q.move rfl) ?_
  refine XO.done ?_
  refine XK.if rfl (fun c0 => ?_) (fun c0 => ?_)
  · have _t0 := True.intro
    simp at c0
  · have _t0 := True.intro
    refine XK.skip ?_
    refine XK.seq ?_
    refine XK.seq ?_
    refine XK.region rfl ?_
    refine XO.q (Q.assign rfl) ?_
    refine XO.done ?_
    refine XK.block ?_
    refine XK.while (X := Nat × Value × PHeap) [11, 21, 22, 23, 24, 25, 26, 27, 28, 29, 30, 31, 32, 33, 34, 35, 36, 37, 38] (fun ⟨i, ve, ke⟩ => [(11, some (.int .i64 (i : Nat)))]) (fun ⟨i, ve, ke⟩ => [blk b10 [.int .i64 (-1), ve, .slice none 0 0, .int .i64 0] 45, ke]) (fun ⟨i, ve, ke⟩ => i ≤ b.bats.length ∧ OArr ve encI 1 3 ke ((b.bats.take i).map (·.energy))) (fun ⟨i, ve, ke⟩ => b.bats.length - i) (0, .slice none 0 0, emp) [blk b10 [.int .i64 (-1), .slice none 0 0, .slice none 0 0, .int .i64 0] 45, emp] rfl ⟨by omega, nI⟩ (.c rfl (.base 0 rfl rfl)) ?_
    rintro ⟨i, ve, ke⟩ ⟨hi, OE0⟩ ih0
    dsimp only [List.cons_append, List.nil_append] at ih0 ⊢
    have el : ((b.bats.take i).map (·.energy)).length = i := by rw [List.length_map, List.length_take]; omega
    refine XK.seq ?_
    refine XK.seq ?_
    refine XK.region rfl ?_
    refine XO.q (Q.move rfl) ?_
    refine XO.q (Q.fieldAddr rfl) ?_
    refine XO.q (Q.ld rfl rfl) ?_
    refine XO.len rfl fun l24 => ?_
    refine XO.q (Q.lss rfl rfl) ?_
    refine XO.done ?_
    refine XK.if rfl (fun c1 => ?_) (fun c1 => ?_)
    · have _t1 := True.intro
      refine XK.skip ?_
      refine XK.seq ?_
      refine XK.block ?_
      refine XK.drawn [0, 2, 3, 4, 5, 6, 7, 10] [b4] [] (.q 0 (.q 2 (.q 3 (.q 4 (.q 5 (.q 6 (.q 7 (.br 1 true (.br 8 true (.br 9 true (.q 10 (.br 11 false .done .stop)) .stop) .stop) (.br 8 true (.br 1 true (.br 9 true (.q 10 (.br 11 false .done .stop)) .stop) .stop) .stop))))))))) Try.mixed rfl (by kernel_rfl) ?_
      refine XT.q rfl rfl (Q.fieldAddr rfl) ?_
      refine XT.q rfl rfl (Q.fieldAddr rfl) ?_
      refine XT.q rfl rfl (Q.ld rfl rfl) ?_
      refine XT.q rfl rfl (Q.move rfl) ?_
      refine XT.ix rfl rfl rfl rfl (by omega) (by omega) fun i33 => ?_
      refine XT.q rfl rfl (Q.fieldQ rfl (by first | assumption | omega)) ?_
      refine XT.q rfl rfl (Q.ldE rfl (by first | assumption | omega) rfl) ?_
      refine XT.qs rfl rfl (Q.ld rfl rfl) ⟨inferInstance, ?_⟩ ?_
      · skip
        refine XT.lit [_] [_] [(b.bats.getD i default).energy] encI rfl rfl (by rfl) (by rfl) rfl (by rfl) (by exact .c 0 1 rfl rfl rfl (.n _)) (fun _ => rfl) (by rfl) rfl (by infer_instance) rfl (fun v36 h36 O36 => ⟨inferInstance, ?_⟩) XT.stop
        refine XT.append rfl rfl rfl rfl rfl rfl (by first | omega | (simp; omega)) (fun v37 h37 O37 => ⟨inferInstance, ?_⟩) XT.stop
        refine XT.q rfl rfl (Q.fieldAddr rfl) ?_
        refine XT.st rfl rfl rfl rfl rfl ⟨inferInstance, ?_⟩ XT.stop
        refine XT.done ?_
        refine XK.inBlock ?_
        refine XK.region rfl ?_
        refine XO.q (Q.move rfl) ?_
        refine XO.q (Q.add rfl rfl ⟨by omega, by omega⟩) ?_
        refine XO.q (Q.assign rfl) ?_
        refine XO.done ?_
        exact ih0 (i + 1, v37, h37) _ _ ⟨by dsimp only; omega, by dsimp only; rw [energy_snoc (by omega)]; exact O37⟩ (by first | omega | (dsimp only; omega)) (.c rfl (.base 39 rfl rfl)) inferInstance
      · skip
        refine XT.lit [_] [_] [(b.bats.getD i default).energy] encI rfl rfl (by rfl) (by rfl) rfl (by rfl) (by exact .c 0 1 rfl rfl rfl (.n _)) (fun _ => rfl) (by rfl) rfl (by infer_instance) rfl (fun v36 h36 O36 => ⟨inferInstance, ?_⟩) XT.stop
        refine XT.qs rfl rfl (Q.ld rfl rfl) ⟨inferInstance, ?_⟩ XT.stop
        refine XT.append rfl rfl rfl rfl rfl rfl (by first | omega | (simp; omega)) (fun v37 h37 O37 => ⟨inferInstance, ?_⟩) XT.stop
        refine XT.q rfl rfl (Q.fieldAddr rfl) ?_
        refine XT.st rfl rfl rfl rfl rfl ⟨inferInstance, ?_⟩ XT.stop
        refine XT.done ?_
        refine XK.inBlock ?_
        refine XK.region rfl ?_
        refine XO.q (Q.move rfl) ?_
        refine XO.q (Q.add rfl rfl ⟨by omega, by omega⟩) ?_
        refine XO.q (Q.assign rfl) ?_
        refine XO.done ?_
        exact ih0 (i + 1, v37, h37) _ _ ⟨by dsimp only; omega, by dsimp only; rw [energy_snoc (by omega)]; exact O37⟩ (by first | omega | (dsimp only; omega)) (.c rfl (.base 39 rfl rfl)) inferInstance
    · have _t1 := True.intro
      have hil : i = b.bats.length := by omega
      subst hil
      rw [List.take_length, ← begun_energies] at OE0
      clear ih0
      refine XK.exit rfl ?_
      refine XK.seq ?_
      refine XK.region rfl ?_
      refine XO.q (Q.fieldAddr rfl) ?_
      refine XO.q (Q.ld rfl rfl) ?_
      refine XO.len rfl fun l41 => ?_
      refine XO.make encI (0) rfl rfl rfl (by omega) (by omega) (fun _ => rfl) rfl rfl rfl (by dsimp only [encI]; infer_instance) fun v42 h42 O42 => ?_
      refine XO.q (Q.fieldAddr rfl) ?_
      refine XO.st rfl rfl rfl ?_
      refine XO.done ?_
      refine XK.seq ?_
      refine XK.region rfl ?_
      refine XO.q (Q.assign rfl) ?_
      refine XO.done ?_
      refine XK.seq ?_
      refine XK.seq ?_
      refine XK.region rfl ?_
      refine XO.q (Q.assign rfl) ?_
      refine XO.done ?_
      refine XK.block ?_
      refine XK.while (X := Nat × Value × PHeap × PHeap × Value × PHeap × List Value × PHeap) [12, 13, 14, 15, 16, 17, 44, 45, 46, 47, 48, 49, 50, 51, 52, 53, 54, 55, 56, 57, 58, 59, 60, 61, 62, 63, 64, 65, 66, 67, 68, 69, 70, 71, 72, 73, 74, 75, 76, 77, 78, 79, 80, 81, 82, 83, 84, 85, 86, 87, 88, 89, 90, 91, 92, 93, 94, 95, 96, 97, 98, 99, 100, 101, 102, 103, 104, 105, 106, 107, 108, 109, 110, 111, 112, 113, 114, 115, 116] (fun ⟨m, ve, ke, kn, vo, ko, us, K⟩ => [(12, some (vo)), (13, some (.int .i64 (m : Nat)))]) (fun ⟨m, ve, ke, kn, vo, ko, us, K⟩ => [blk b10 [.int .i64 (-1), ve, v42, .int .i64 (stateP b pw fs false (m)).served] 45, ke, kn, ko, K]) (fun ⟨m, ve, ke, kn, vo, ko, us, K⟩ => m ≤ pw.length ∧ OArr ve encI 1 3 ke (energiesP (stateP b pw fs false (m)).cells) ∧ OArr v42 encI 1 3 kn (stateP b pw fs false (m)).burnt ∧ OArr vo encV 1 39 ko us ∧ us.length = m ∧ (∀ j, j < m → isDark b pw fs j = false) ∧ RowsK us K (rowsTo b pw fs m)) (fun ⟨m, ve, ke, kn, vo, ko, us, K⟩ => pw.length - m) (0, ve, ke, h42, .slice none 0 0, emp, [], emp) [blk b10 [.int .i64 (-1), ve, v42, .int .i64 0] 45, ke, h42, emp, emp] rfl ⟨by omega, OE0, O42, nV, rfl, fun j hj => by omega, RowsK.nil⟩ (.c rfl (.c rfl (.base 0 rfl rfl))) ?_
      rintro ⟨m, ve, ke, kn, vo, ko, us, K⟩ ⟨hm, OE, ON, OO, hul, DD, RR⟩ ih1
      dsimp only [List.cons_append, List.nil_append] at ih1 ⊢
      refine XK.seq ?_
      refine XK.seq ?_
      refine XK.region rfl ?_
      refine XO.q (Q.move rfl) ?_
      refine XO.q (Q.move rfl) ?_
      refine XO.len rfl fun l46 => ?_
      refine XO.q (Q.lss rfl rfl) ?_
      refine XO.done ?_
      refine XK.if rfl (fun c2 => ?_) (fun c2 => ?_)
      · have _t2 := True.intro
        have lw := wk.p m (by omega)
        have clen := cansTo_len b.gens (startsP b fs) ((m : Nat) : Int) b.gens.length
        refine XK.skip ?_
        refine XK.seq ?_
        refine XK.block ?_
        refine XK.seq ?_
        refine XK.drawn [0, 1, 2, 3, 4, 5, 7, 8, 9, 10, 12, 13, 14, 15, 16, 17, 18] [b4, b10] [] (.q 0 (.q 1 (.q 2 (.q 3 (.q 4 (.q 5 (.q 7 (.q 8 (.q 9 (.q 10 (.br 6 true (.br 11 true (.q 12 (.q 13 (.q 14 (.q 15 (.q 16 (.q 17 (.q 18 .done))))))) .stop) .stop))))))))))) Try.mixed rfl (by kernel_rfl) ?_
        refine XT.q rfl rfl (Q.ldA [_, _] rfl rfl rfl) ?_
        refine XT.q rfl rfl (Q.fieldAddr rfl) ?_
        refine XT.q rfl rfl (Q.ld rfl rfl) ?_
        refine XT.q rfl rfl (Q.ldA [_, _] rfl rfl rfl) ?_
        refine XT.q rfl rfl (Q.move rfl) ?_
        refine XT.q rfl rfl (Q.move rfl) ?_
        refine XT.q rfl rfl (Q.move rfl) ?_
        refine XT.q rfl rfl (Q.move rfl) ?_
        refine XT.ix rfl rfl rfl rfl (by omega) (by omega) fun i60 => ?_
        refine XT.q rfl rfl (Q.ldE rfl (by first | assumption | omega) rfl) ?_
        refine XT.call rfl rfl Try.call82 rfl rfl rfl (Rcan_spec b vb vg hb hg fs vf hf ok fk ((m : Nat) : Int) (by omega) (by omega)) (fun v57 s57 R57 => ?_) XT.stop
        obtain ⟨kc, rfl, OC⟩ := R57
        dsimp only [List.cons_append, List.nil_append]
        refine ⟨inferInstance, ?_⟩
        refine XT.call rfl rfl Try.call81 rfl rfl rfl (one_spec b vb vg hb hg ok (energiesP (stateP b pw fs false (m)).cells) ve ke (cansTo b.gens (startsP b fs) ((m : Nat) : Int) b.gens.length) v57 kc (pw.getD m default) lw.1 lw.2 (by omega) (ecan m (by omega)) (stateP b pw fs false (m)) rfl (hst m (by omega)).c (state_bats b pw fs false m (hst m (by omega)).c.len)) (fun v62 s62 R62 => ?_) XT.stop
        obtain ⟨w1, w2, q1, q2, rfl, rfl, P1, P2⟩ := R62
        dsimp only [List.cons_append, List.nil_append]
        refine ⟨inferInstance, ?_⟩
        have oe := one_eq pk (t := ((m : Nat) : Int)) (load := pw.getD m default) (by omega) lw.1 (hst m (by omega)) (state_bats b pw fs false m (hst m (by omega)).c.len)
        rw [sl] at oe
        rw [oe] at P1 P2 ⊢
        dsimp only at P1 P2 ⊢
        obtain ⟨eb, es⟩ := burnt_used (gens := b.gens) (sts := startsP b fs) (t := ((m : Nat) : Int)) (load := pw.getD m default) (s := (stateP b pw fs false (m)))
        rw [sl] at eb
        have eb : (stateP b pw fs false (m + 1)).burnt = addTo (stateP b pw fs false (m)).burnt (usedP b.gens (startsP b fs) ((m : Nat) : Int) (pw.getD m default) (stateP b pw fs false (m))) b.gens.length := eb
        have P1 : OArr w1 encI 1 3 q1 (energiesP (stateP b pw fs false (m + 1)).cells) := P1
        have la := hla m (by omega)
        have la : 0 ≤ (secondP b.gens (startsP b fs) ((m : Nat) : Int) (pw.getD m default) false (stateP b pw fs false (m))).1 ∧ (secondP b.gens (startsP b fs) ((m : Nat) : Int) (pw.getD m default) false (stateP b pw fs false (m))).1 ≤ 1000000 := la
        obtain ⟨lk, elk⟩ : ∃ lk, lk = (secondP b.gens (startsP b fs) ((m : Nat) : Int) (pw.getD m default) false (stateP b pw fs false (m))).1 := ⟨_, rfl⟩
        rw [← elk] at es la ⊢
        have es : (stateP b pw fs false (m + 1)).served = (stateP b pw fs false (m)).served + (pw.getD m default - lk) := es
        obtain ⟨us_, eus⟩ : ∃ u, u = (usedP b.gens (startsP b fs) ((m : Nat) : Int) (pw.getD m default) (stateP b pw fs false (m))) := ⟨_, rfl⟩
        rw [← eus] at eb P2
        have uk : UsedOk (canAt b.gens (startsP b fs) ((m : Nat) : Int)) b.gens.length us_ := by rw [eus, usedP, ← sl]; split; exact (gen0_ok pk (by omega) lw.1).1; exact gen1_ok pk (by omega) lw.1 (hst m (by omega))
        have ukl := uk.len
        have si := hst m (by omega)
        have s1 := si.s0
        have s2 := si.s1
        have sb := si.b
        have sbl := sb.len
        have so2 := hst (m + 1) (by omega)
        have e1l := (energies_rng so2.c).1
        have ed : isDark b pw fs m = decide (0 < lk) := by
          rw [elk]
          show decide (0 < lackAt b.gens (startsP b fs) true pw (begun b) m) = _
          rw [← lack_same b pw fs DD]; rfl
        refine XT.q rfl rfl (Q.move rfl) ?_
        refine XT.q rfl rfl (Q.extract rfl rfl) ?_
        refine XT.q rfl rfl (Q.extract rfl rfl) ?_
        refine XT.q rfl rfl (Q.extract rfl rfl) ?_
        refine XT.q rfl rfl (Q.assign rfl) ?_
        refine XT.q rfl rfl (Q.assign rfl) ?_
        refine XT.q rfl rfl (Q.assign rfl) ?_
        refine XT.done ?_
        refine XK.seq ?_
        refine XK.seq ?_
        refine XK.region rfl ?_
        refine XO.q (Q.move rfl) ?_
        refine XO.q (Q.gtr rfl rfl) ?_
        refine XO.q (Q.move rfl) ?_
        refine XO.q (Quiet.guardT rfl rfl fun g69 p69 => Q.move rfl) ?_
        refine XO.q (Quiet.guardT rfl rfl fun g70 p70 => Q.not (lzv g70 rfl)) ?_
        refine XO.q (Q.and rfl (fun hp => lzv hp rfl)) ?_
        refine XO.done ?_
        refine XK.if rfl (fun c3 => ?_) (fun c3 => ?_)
        · have _t3 := True.intro
          refine XK.seq ?_
          refine XK.region rfl ?_
          refine XO.q (Q.move rfl) ?_
          refine XO.q (Q.fieldAddr rfl) ?_
          refine XO.st rfl rfl rfl ?_
          refine XO.done ?_
          refine XK.exit rfl ?_
          refine XK.seq ?_
          refine XK.region rfl ?_
          refine XO.q (Q.ldA [_, _, _, _] rfl rfl rfl) ?_
          refine XO.q (Q.move rfl) ?_
          refine XO.st rfl rfl rfl ?_
          refine XO.q (Q.assign rfl) ?_
          refine XO.done ?_
          refine XK.rt [ke, kn, ko, K] Try.func56 Try.results56 (.cell [_, _, _, _] rfl rfl rfl (.t rfl .n)) ?_
          have hd : isDark b pw fs m = true := by rw [ed]; exact decide_eq_true c3.1
          obtain ⟨er, ee⟩ := run_here (by omega) DD hd
          have sm := state_same b pw fs m DD
          rw [er, ← sm]
          exact ⟨ve, v42, vo, ke, kn, ko, us, K, rfl, rfl, OE, ON, OO, by rw [traceP, ee]; exact RR⟩
        · have _t3 := True.intro
          have nlk : ¬ 0 < lk := fun h => c3 ⟨h, by simp⟩
          have nd : isDark b pw fs m = false := by rw [ed]; exact decide_eq_false nlk
          have same := state_same b pw fs (m + 1) (fun j hj => by rcases Nat.lt_or_ge j m with h3 | h3; exact DD j h3; rw [show j = m by omega]; exact nd)
          refine XK.skip ?_
          refine XK.seq ?_
          refine XK.seq ?_
          refine XK.region rfl ?_
          refine XO.q (Q.move rfl) ?_
          refine XO.done ?_
          refine XK.if rfl (fun c4 => ?_) (fun c4 => ?_)
          · have _t4 := True.intro
            simp at c4
          · have _t4 := True.intro
            refine XK.skip ?_
            refine XK.seq ?_
            refine XK.region rfl ?_
            refine XO.q (Q.move rfl) ?_
            refine XO.q (Q.fieldAddr rfl) ?_
            refine XO.st rfl rfl rfl ?_
            refine XO.done ?_
            refine XK.seq ?_
            refine XK.drawn [0, 2, 3, 4, 5, 7, 6, 8, 9] [] [] (.q 0 (.q 2 (.q 3 (.q 4 (.q 5 (.q 7 (.br 1 true (.q 6 (.q 8 (.q 9 (.br 10 false .done .stop)))) .stop))))))) Try.mixed rfl (by kernel_rfl) ?_
            refine XT.q rfl rfl (Q.fieldAddr rfl) ?_
            refine XT.q rfl rfl (Q.move rfl) ?_
            refine XT.q rfl rfl (Q.move rfl) ?_
            refine XT.ix rfl rfl rfl rfl (by omega) (by omega) fun i86 => ?_
            refine XT.q rfl rfl (Q.ldE rfl (by first | assumption | omega) rfl) ?_
            refine XT.q rfl rfl (Q.move rfl) ?_
            refine XT.qs rfl rfl (Q.ld rfl rfl) ⟨inferInstance, ?_⟩ XT.stop
            refine XT.q rfl rfl (Q.add rfl rfl ⟨by omega, by omega⟩) ?_
            refine XT.q rfl rfl (Q.sub rfl rfl ⟨by omega, by omega⟩) ?_
            rw [show (stateP b pw fs false (m)).served + pw.getD m default - lk = (stateP b pw fs false (m + 1)).served by rw [es]; omega]
            refine XT.q rfl rfl (Q.fieldAddr rfl) ?_
            refine XT.st rfl rfl rfl rfl rfl ⟨inferInstance, ?_⟩ XT.stop
            refine XT.done ?_
            refine XK.seq ?_
            refine XK.seq ?_
            refine XK.region rfl ?_
            refine XO.q (Q.assign rfl) ?_
            refine XO.done ?_
            refine XK.block ?_
            refine XK.while (X := Nat × PHeap) [17, 92, 93, 94, 95, 96, 97, 98, 99, 100, 101, 102, 103, 104, 105, 106, 107, 108, 109, 110, 111] (fun ⟨i, kb⟩ => [(17, some (.int .i64 (i : Nat)))]) (fun ⟨i, kb⟩ => [kb]) (fun ⟨i, kb⟩ => i ≤ b.gens.length ∧ OArr v42 encI 1 3 kb (addTo (stateP b pw fs false (m)).burnt us_ i)) (fun ⟨i, kb⟩ => b.gens.length - i) (0, kn) [kn] rfl ⟨by omega, ON⟩ (.c rfl (.base 0 rfl rfl)) ?_
            rintro ⟨i, kb⟩ ⟨hi, OB⟩ ih2
            dsimp only [List.cons_append, List.nil_append] at ih2 ⊢
            obtain ⟨al, aa⟩ := addTo_at (bs := (stateP b pw fs false (m)).burnt) (us := us_) i (by omega)
            refine XK.seq ?_
            refine XK.seq ?_
            refine XK.region rfl ?_
            refine XO.q (Q.move rfl) ?_
            refine XO.q (Q.move rfl) ?_
            refine XO.len rfl fun l94 => ?_
            refine XO.q (Q.lss rfl rfl) ?_
            refine XO.done ?_
            refine XK.if rfl (fun c5 => ?_) (fun c5 => ?_)
            · have _t5 := True.intro
              have bi := sb.b i (by omega)
              have ui := uk.b i (by omega)
              have ci := canAt_ok pk (t := ((m : Nat) : Int)) (by omega) (i := i) (by omega)
              have ai := aa i
              rw [if_neg (by omega)] at ai
              refine XK.skip ?_
              refine XK.seq ?_
              refine XK.block ?_
              refine XK.drawn [0, 1, 2, 3, 4, 5, 6, 8, 9, 10, 11, 12, 13] [b10] [q2] (.q 0 (.q 1 (.q 2 (.q 3 (.q 4 (.q 5 (.q 6 (.q 8 (.q 9 (.q 10 (.q 11 (.br 7 true (.q 12 (.q 13 (.br 14 false .done .stop))) .stop)))))))))))) Try.mixed rfl (by kernel_rfl) ?_
              refine XT.q rfl rfl (Q.fieldAddr rfl) ?_
              refine XT.q rfl rfl (Q.ld rfl rfl) ?_
              refine XT.q rfl rfl (Q.move rfl) ?_
              refine XT.q rfl rfl (Q.fieldAddr rfl) ?_
              refine XT.q rfl rfl (Q.ld rfl rfl) ?_
              refine XT.q rfl rfl (Q.move rfl) ?_
              refine XT.ix rfl rfl rfl rfl (by omega) (by omega) fun i104 => ?_
              refine XT.q rfl rfl (Q.move rfl) ?_
              refine XT.q rfl rfl (Q.move rfl) ?_
              refine XT.ix rfl rfl rfl rfl (by omega) (by omega) fun i108 => ?_
              refine XT.q rfl rfl (Q.ldE rfl (by first | assumption | omega) rfl) ?_
              refine XT.qs rfl rfl (Q.ldE rfl (by first | assumption | omega) rfl) ⟨inferInstance, ?_⟩ XT.stop
              refine XT.q rfl rfl (Q.add rfl rfl ⟨by omega, by omega⟩) ?_
              refine XT.ix rfl rfl rfl rfl (by omega) (by omega) fun i111 => ?_
              refine XT.stE _ rfl rfl rfl rfl rfl (by assumption) rfl rfl (fun h24_14 O24_14 => ⟨inferInstance, ?_⟩) XT.stop
              refine XT.done ?_
              refine XK.inBlock ?_
              refine XK.region rfl ?_
              refine XO.q (Q.move rfl) ?_
              refine XO.q (Q.add rfl rfl ⟨by omega, by omega⟩) ?_
              refine XO.q (Q.assign rfl) ?_
              refine XO.done ?_
              exact ih2 (i + 1, h24_14) _ _ ⟨by dsimp only; omega, O24_14⟩ (by first | omega | (dsimp only; omega)) (.c rfl (.base 43 rfl rfl)) inferInstance
            · have _t5 := True.intro
              have hil2 : i = b.gens.length := by omega
              subst hil2
              refine XK.exit rfl ?_
              refine XK.region rfl ?_
              refine XO.q (Q.move rfl) ?_
              refine XO.q (Q.move rfl) ?_
              refine XO.call Try.call83 rfl rfl rfl (copyInts w1 q1 (energiesP (stateP b pw fs false (m + 1)).cells) (by omega)) fun v114 s114 R114 => ?_
              obtain ⟨k114, rfl, O114⟩ := R114
              dsimp only [List.cons_append, List.nil_append]
              refine XO.lit [_] [_] [v114] encV (by rfl) (by rfl) rfl (by rfl) (by exact .c 0 1 rfl rfl rfl (.n _)) (fun _ => rfl) (by rfl) rfl (by infer_instance) rfl fun v115 h115 O115 => ?_
              refine XO.append rfl rfl rfl rfl (by first | omega | (simp; omega)) fun v116 h116 O116 => ?_
              refine XO.q (Q.assign rfl) ?_
              refine XO.done ?_
              refine XK.inBlock ?_
              refine XK.region rfl ?_
              refine XO.q (Q.move rfl) ?_
              refine XO.q (Q.add rfl rfl ⟨by omega, by omega⟩) ?_
              refine XO.q (Q.assign rfl) ?_
              refine XO.done ?_
              refine XK.cat K k114 fun l1 l2 => ?_
              exact ih1 (m + 1, w1, q1, kb, v116, h116, us ++ [v114], cat K k114) _ _ ⟨by dsimp only; omega, P1, by dsimp only; rw [eb]; exact OB, O116, by dsimp only; rw [List.length_append, hul]; rfl, fun j hj => (by rcases Nat.lt_or_ge j m with h3 | h3; exact DD j h3; rw [show j = m by dsimp only at hj; omega]; exact nd), by dsimp only; rw [rowsTo, ← same]; exact (RR.mono l1).snoc (Arr.le_heap (OArr.arr (s := O114)) l2)⟩ (by first | omega | (dsimp only; omega)) (.c rfl (.c rfl (.base 159 rfl rfl))) inferInstance
      · have _t2 := True.intro
        have hml : m = pw.length := by omega
        refine XK.exit rfl ?_
        refine XK.seq ?_
        refine XK.region rfl ?_
        refine XO.q (Q.ldA [_, _, _, _] rfl rfl rfl) ?_
        refine XO.q (Q.move rfl) ?_
        refine XO.st rfl rfl rfl ?_
        refine XO.q (Q.assign rfl) ?_
        refine XO.done ?_
        refine XK.rt [ke, kn, ko, K] Try.func56 Try.results56 (.cell [_, _, _, _] rfl rfl rfl (.t rfl .n)) ?_
        subst hml
        obtain ⟨er, ee⟩ := run_never DD
        have sm := state_same b pw fs pw.length DD
        rw [er, ← sm]
        exact ⟨ve, v42, vo, ke, kn, ko, us, K, rfl, rfl, OE, ON, OO, by rw [traceP, ee]; exact RR⟩
set_option maxHeartbeats 2000000 in
theorem play_on (b : BBank) (vb vg : Value) (hb hg : PHeap) [ib : Arr vb encBat 4 hb b.bats] [ig : Arr vg encGen 5 hg b.gens] (pw : List Int) (vw : Value) (hw : PHeap) [jw : Arr vw encI 1 hw pw] (fs : List Int) (vf : Value) (hf : PHeap) [jf : Arr vf encI 1 hf fs] (ok : BOk b) (fk : FOk b fs) (wk : PwOk pw) : Spec Try.prog 56 #[.agg #[vb, vg], vw, vf, .bool true] [] [hb, hg, hw, hf] (fun v hs => ∃ ve vn vo sv, v = .tuple #[.agg #[.int .i64 (lackP b pw fs), ve, vn, .int .i64 sv], vo] ∧ hs = [] ∧ One ve ∧ One vn ∧ One vo) := by
  have lb := ib.le
  have lg := ig.le
  have n8 := ok.nb
  have n6 := ok.ng
  have w20 := wk.n
  have nI : OArr (.slice none 0 0) encI 1 3 emp ([] : List Int) := OArr.nil (fun _ => rfl)
  have nV : OArr (.slice none 0 0) encV 1 39 emp ([] : List Value) := OArr.nil (fun _ => rfl)
  have pk := playOk ok fk
  have sl : (startsP b fs).length = b.gens.length := startsTo_len _ _ _
  have hst : ∀ i, i ≤ pw.length → StOk (startsP b fs) b.bats.length i (stateP b pw fs false (i)) := fun i hi => playTo_ok pk wk (begun_ok ok fk) false i hi
  have hla := fun i hi => lackAt_ok (i := i) pk wk (begun_ok ok fk) false hi
  have hlt := fun i hi => lackTo_ok ok fk wk i hi
  have ecan : ∀ m : Nat, m < pw.length → ∀ j, j < (cansTo b.gens (startsP b fs) (m : Nat) b.gens.length).length → 0 ≤ (cansTo b.gens (startsP b fs) (m : Nat) b.gens.length).getD j default ∧ (cansTo b.gens (startsP b fs) (m : Nat) b.gens.length).getD j default ≤ 1000000 := fun m hm j hj => by
    rw [cansTo_len] at hj
    rw [cansTo_at _ _ _ _ hj]
    exact canAt_ok pk (by omega) (by omega)
  refine Spec.intro (fn := Try.f56) (N := 119) Try.func56 rfl Try.ntmps56 rfl fun B => ?_
  refine XK.seq ?_
  refine XK.region rfl ?_
  refine XO.box rfl fun b4 => ?_
  refine XO.alloc fun b8 => ?_
  refine XO.q (Q.assign rfl) ?_
  refine XO.done ?_
  refine XK.seq ?_
  refine XK.region rfl ?_
  refine XO.alloc fun b10 => ?_
  refine XO.done ?_
  refine XK.seq ?_
  refine XK.region rfl ?_
  refine XO.q (Q.fieldAddr rfl) ?_
  refine XO.st rfl rfl rfl ?_
  refine XO.done ?_
  refine XK.seq ?_
  refine XK.seq ?_
  refine XK.region rfl ?_
  refine XO.q (Q.move rfl) ?_
  refine XO.done ?_
  refine XK.if rfl (fun c0 => ?_) (fun c0 => ?_)
  · have _t0 := True.intro
    refine XK.region rfl ?_
    refine XO.q (Q.fieldAddr rfl) ?_
    refine XO.st rfl rfl rfl ?_
    refine XO.done ?_
    refine XK.seq ?_
    refine XK.seq ?_
    refine XK.region rfl ?_
    refine XO.q (Q.assign rfl) ?_
    refine XO.done ?_
    refine XK.block ?_
    refine XK.while (X := Nat × Value × PHeap) [11, 21, 22, 23, 24, 25, 26, 27, 28, 29, 30, 31, 32, 33, 34, 35, 36, 37, 38] (fun ⟨i, ve, ke⟩ => [(11, some (.int .i64 (i : Nat)))]) (fun ⟨i, ve, ke⟩ => [blk b10 [.int .i64 0, ve, .slice none 0 0, .int .i64 0] 45, ke]) (fun ⟨i, ve, ke⟩ => i ≤ b.bats.length ∧ OArr ve encI 1 3 ke ((b.bats.take i).map (·.energy))) (fun ⟨i, ve, ke⟩ => b.bats.length - i) (0, .slice none 0 0, emp) [blk b10 [.int .i64 0, .slice none 0 0, .slice none 0 0, .int .i64 0] 45, emp] rfl ⟨by omega, nI⟩ (.c rfl (.base 0 rfl rfl)) ?_
    rintro ⟨i, ve, ke⟩ ⟨hi, OE0⟩ ih0
    dsimp only [List.cons_append, List.nil_append] at ih0 ⊢
    have el : ((b.bats.take i).map (·.energy)).length = i := by rw [List.length_map, List.length_take]; omega
    refine XK.seq ?_
    refine XK.seq ?_
    refine XK.region rfl ?_
    refine XO.q (Q.move rfl) ?_
    refine XO.q (Q.fieldAddr rfl) ?_
    refine XO.q (Q.ld rfl rfl) ?_
    refine XO.len rfl fun l24 => ?_
    refine XO.q (Q.lss rfl rfl) ?_
    refine XO.done ?_
    refine XK.if rfl (fun c1 => ?_) (fun c1 => ?_)
    · have _t1 := True.intro
      refine XK.skip ?_
      refine XK.seq ?_
      refine XK.block ?_
      refine XK.drawn [0, 2, 3, 4, 5, 6, 7, 10] [b4] [] (.q 0 (.q 2 (.q 3 (.q 4 (.q 5 (.q 6 (.q 7 (.br 1 true (.br 8 true (.br 9 true (.q 10 (.br 11 false .done .stop)) .stop) .stop) (.br 8 true (.br 1 true (.br 9 true (.q 10 (.br 11 false .done .stop)) .stop) .stop) .stop))))))))) Try.mixed rfl (by kernel_rfl) ?_
      refine XT.q rfl rfl (Q.fieldAddr rfl) ?_
      refine XT.q rfl rfl (Q.fieldAddr rfl) ?_
      refine XT.q rfl rfl (Q.ld rfl rfl) ?_
      refine XT.q rfl rfl (Q.move rfl) ?_
      refine XT.ix rfl rfl rfl rfl (by omega) (by omega) fun i33 => ?_
      refine XT.q rfl rfl (Q.fieldQ rfl (by first | assumption | omega)) ?_
      refine XT.q rfl rfl (Q.ldE rfl (by first | assumption | omega) rfl) ?_
      refine XT.qs rfl rfl (Q.ld rfl rfl) ⟨inferInstance, ?_⟩ ?_
      · skip
        refine XT.lit [_] [_] [(b.bats.getD i default).energy] encI rfl rfl (by rfl) (by rfl) rfl (by rfl) (by exact .c 0 1 rfl rfl rfl (.n _)) (fun _ => rfl) (by rfl) rfl (by infer_instance) rfl (fun v36 h36 O36 => ⟨inferInstance, ?_⟩) XT.stop
        refine XT.append rfl rfl rfl rfl rfl rfl (by first | omega | (simp; omega)) (fun v37 h37 O37 => ⟨inferInstance, ?_⟩) XT.stop
        refine XT.q rfl rfl (Q.fieldAddr rfl) ?_
        refine XT.st rfl rfl rfl rfl rfl ⟨inferInstance, ?_⟩ XT.stop
        refine XT.done ?_
        refine XK.inBlock ?_
        refine XK.region rfl ?_
        refine XO.q (Q.move rfl) ?_
        refine XO.q (Q.add rfl rfl ⟨by omega, by omega⟩) ?_
        refine XO.q (Q.assign rfl) ?_
        refine XO.done ?_
        exact ih0 (i + 1, v37, h37) _ _ ⟨by dsimp only; omega, by dsimp only; rw [energy_snoc (by omega)]; exact O37⟩ (by first | omega | (dsimp only; omega)) (.c rfl (.base 39 rfl rfl)) inferInstance
      · skip
        refine XT.lit [_] [_] [(b.bats.getD i default).energy] encI rfl rfl (by rfl) (by rfl) rfl (by rfl) (by exact .c 0 1 rfl rfl rfl (.n _)) (fun _ => rfl) (by rfl) rfl (by infer_instance) rfl (fun v36 h36 O36 => ⟨inferInstance, ?_⟩) XT.stop
        refine XT.qs rfl rfl (Q.ld rfl rfl) ⟨inferInstance, ?_⟩ XT.stop
        refine XT.append rfl rfl rfl rfl rfl rfl (by first | omega | (simp; omega)) (fun v37 h37 O37 => ⟨inferInstance, ?_⟩) XT.stop
        refine XT.q rfl rfl (Q.fieldAddr rfl) ?_
        refine XT.st rfl rfl rfl rfl rfl ⟨inferInstance, ?_⟩ XT.stop
        refine XT.done ?_
        refine XK.inBlock ?_
        refine XK.region rfl ?_
        refine XO.q (Q.move rfl) ?_
        refine XO.q (Q.add rfl rfl ⟨by omega, by omega⟩) ?_
        refine XO.q (Q.assign rfl) ?_
        refine XO.done ?_
        exact ih0 (i + 1, v37, h37) _ _ ⟨by dsimp only; omega, by dsimp only; rw [energy_snoc (by omega)]; exact O37⟩ (by first | omega | (dsimp only; omega)) (.c rfl (.base 39 rfl rfl)) inferInstance
    · have _t1 := True.intro
      have hil : i = b.bats.length := by omega
      subst hil
      rw [List.take_length, ← begun_energies] at OE0
      clear ih0
      refine XK.exit rfl ?_
      refine XK.seq ?_
      refine XK.region rfl ?_
      refine XO.q (Q.fieldAddr rfl) ?_
      refine XO.q (Q.ld rfl rfl) ?_
      refine XO.len rfl fun l41 => ?_
      refine XO.make encI (0) rfl rfl rfl (by omega) (by omega) (fun _ => rfl) rfl rfl rfl (by dsimp only [encI]; infer_instance) fun v42 h42 O42 => ?_
      refine XO.q (Q.fieldAddr rfl) ?_
      refine XO.st rfl rfl rfl ?_
      refine XO.done ?_
      refine XK.seq ?_
      refine XK.region rfl ?_
      refine XO.q (Q.assign rfl) ?_
      refine XO.done ?_
      refine XK.seq ?_
      refine XK.seq ?_
      refine XK.region rfl ?_
      refine XO.q (Q.assign rfl) ?_
      refine XO.done ?_
      refine XK.block ?_
      refine XK.while (X := Nat × Value × PHeap × PHeap × Value × PHeap × List Value) [12, 13, 14, 15, 16, 17, 44, 45, 46, 47, 48, 49, 50, 51, 52, 53, 54, 55, 56, 57, 58, 59, 60, 61, 62, 63, 64, 65, 66, 67, 68, 69, 70, 71, 72, 73, 74, 75, 76, 77, 78, 79, 80, 81, 82, 83, 84, 85, 86, 87, 88, 89, 90, 91, 92, 93, 94, 95, 96, 97, 98, 99, 100, 101, 102, 103, 104, 105, 106, 107, 108, 109, 110, 111, 112, 113, 114, 115, 116] (fun ⟨m, ve, ke, kn, vo, ko, us⟩ => [(12, some (vo)), (13, some (.int .i64 (m : Nat)))]) (fun ⟨m, ve, ke, kn, vo, ko, us⟩ => [blk b10 [.int .i64 (lackTo b pw fs m), ve, v42, .int .i64 (stateP b pw fs false (m)).served] 45, ke, kn, ko]) (fun ⟨m, ve, ke, kn, vo, ko, us⟩ => m ≤ pw.length ∧ OArr ve encI 1 3 ke (energiesP (stateP b pw fs false (m)).cells) ∧ OArr v42 encI 1 3 kn (stateP b pw fs false (m)).burnt ∧ OArr vo encV 1 39 ko us ∧ us.length = m) (fun ⟨m, ve, ke, kn, vo, ko, us⟩ => pw.length - m) (0, ve, ke, h42, .slice none 0 0, emp, []) [blk b10 [.int .i64 0, ve, v42, .int .i64 0] 45, ke, h42, emp] rfl ⟨by omega, OE0, O42, nV, rfl⟩ (.c rfl (.c rfl (.base 0 rfl rfl))) ?_
      rintro ⟨m, ve, ke, kn, vo, ko, us⟩ ⟨hm, OE, ON, OO, hul⟩ ih1
      dsimp only [List.cons_append, List.nil_append] at ih1 ⊢
      refine XK.seq ?_
      refine XK.seq ?_
      refine XK.region rfl ?_
      refine XO.q (Q.move rfl) ?_
      refine XO.q (Q.move rfl) ?_
      refine XO.len rfl fun l46 => ?_
      refine XO.q (Q.lss rfl rfl) ?_
      refine XO.done ?_
      refine XK.if rfl (fun c2 => ?_) (fun c2 => ?_)
      · have _t2 := True.intro
        have lw := wk.p m (by omega)
        have clen := cansTo_len b.gens (startsP b fs) ((m : Nat) : Int) b.gens.length
        refine XK.skip ?_
        refine XK.seq ?_
        refine XK.block ?_
        refine XK.seq ?_
        refine XK.drawn [0, 1, 2, 3, 4, 5, 7, 8, 9, 10, 12, 13, 14, 15, 16, 17, 18] [b4, b10] [] (.q 0 (.q 1 (.q 2 (.q 3 (.q 4 (.q 5 (.q 7 (.q 8 (.q 9 (.q 10 (.br 6 true (.br 11 true (.q 12 (.q 13 (.q 14 (.q 15 (.q 16 (.q 17 (.q 18 .done))))))) .stop) .stop))))))))))) Try.mixed rfl (by kernel_rfl) ?_
        refine XT.q rfl rfl (Q.ldA [_, _] rfl rfl rfl) ?_
        refine XT.q rfl rfl (Q.fieldAddr rfl) ?_
        refine XT.q rfl rfl (Q.ld rfl rfl) ?_
        refine XT.q rfl rfl (Q.ldA [_, _] rfl rfl rfl) ?_
        refine XT.q rfl rfl (Q.move rfl) ?_
        refine XT.q rfl rfl (Q.move rfl) ?_
        refine XT.q rfl rfl (Q.move rfl) ?_
        refine XT.q rfl rfl (Q.move rfl) ?_
        refine XT.ix rfl rfl rfl rfl (by omega) (by omega) fun i60 => ?_
        refine XT.q rfl rfl (Q.ldE rfl (by first | assumption | omega) rfl) ?_
        refine XT.call rfl rfl Try.call82 rfl rfl rfl (Rcan_spec b vb vg hb hg fs vf hf ok fk ((m : Nat) : Int) (by omega) (by omega)) (fun v57 s57 R57 => ?_) XT.stop
        obtain ⟨kc, rfl, OC⟩ := R57
        dsimp only [List.cons_append, List.nil_append]
        refine ⟨inferInstance, ?_⟩
        refine XT.call rfl rfl Try.call81 rfl rfl rfl (one_spec b vb vg hb hg ok (energiesP (stateP b pw fs false (m)).cells) ve ke (cansTo b.gens (startsP b fs) ((m : Nat) : Int) b.gens.length) v57 kc (pw.getD m default) lw.1 lw.2 (by omega) (ecan m (by omega)) (stateP b pw fs false (m)) rfl (hst m (by omega)).c (state_bats b pw fs false m (hst m (by omega)).c.len)) (fun v62 s62 R62 => ?_) XT.stop
        obtain ⟨w1, w2, q1, q2, rfl, rfl, P1, P2⟩ := R62
        dsimp only [List.cons_append, List.nil_append]
        refine ⟨inferInstance, ?_⟩
        have oe := one_eq pk (t := ((m : Nat) : Int)) (load := pw.getD m default) (by omega) lw.1 (hst m (by omega)) (state_bats b pw fs false m (hst m (by omega)).c.len)
        rw [sl] at oe
        rw [oe] at P1 P2 ⊢
        dsimp only at P1 P2 ⊢
        obtain ⟨eb, es⟩ := burnt_used (gens := b.gens) (sts := startsP b fs) (t := ((m : Nat) : Int)) (load := pw.getD m default) (s := (stateP b pw fs false (m)))
        rw [sl] at eb
        have eb : (stateP b pw fs false (m + 1)).burnt = addTo (stateP b pw fs false (m)).burnt (usedP b.gens (startsP b fs) ((m : Nat) : Int) (pw.getD m default) (stateP b pw fs false (m))) b.gens.length := eb
        have P1 : OArr w1 encI 1 3 q1 (energiesP (stateP b pw fs false (m + 1)).cells) := P1
        have la := hla m (by omega)
        have la : 0 ≤ (secondP b.gens (startsP b fs) ((m : Nat) : Int) (pw.getD m default) false (stateP b pw fs false (m))).1 ∧ (secondP b.gens (startsP b fs) ((m : Nat) : Int) (pw.getD m default) false (stateP b pw fs false (m))).1 ≤ 1000000 := la
        obtain ⟨lk, elk⟩ : ∃ lk, lk = (secondP b.gens (startsP b fs) ((m : Nat) : Int) (pw.getD m default) false (stateP b pw fs false (m))).1 := ⟨_, rfl⟩
        rw [← elk] at es la ⊢
        have es : (stateP b pw fs false (m + 1)).served = (stateP b pw fs false (m)).served + (pw.getD m default - lk) := es
        obtain ⟨us_, eus⟩ : ∃ u, u = (usedP b.gens (startsP b fs) ((m : Nat) : Int) (pw.getD m default) (stateP b pw fs false (m))) := ⟨_, rfl⟩
        rw [← eus] at eb P2
        have uk : UsedOk (canAt b.gens (startsP b fs) ((m : Nat) : Int)) b.gens.length us_ := by rw [eus, usedP, ← sl]; split; exact (gen0_ok pk (by omega) lw.1).1; exact gen1_ok pk (by omega) lw.1 (hst m (by omega))
        have ukl := uk.len
        have si := hst m (by omega)
        have s1 := si.s0
        have s2 := si.s1
        have sb := si.b
        have sbl := sb.len
        have so2 := hst (m + 1) (by omega)
        have e1l := (energies_rng so2.c).1
        have elt : lackTo b pw fs (m + 1) = lackTo b pw fs m + lk := by rw [elk]; rfl
        have lt := hlt m (by omega)
        refine XT.q rfl rfl (Q.move rfl) ?_
        refine XT.q rfl rfl (Q.extract rfl rfl) ?_
        refine XT.q rfl rfl (Q.extract rfl rfl) ?_
        refine XT.q rfl rfl (Q.extract rfl rfl) ?_
        refine XT.q rfl rfl (Q.assign rfl) ?_
        refine XT.q rfl rfl (Q.assign rfl) ?_
        refine XT.q rfl rfl (Q.assign rfl) ?_
        refine XT.done ?_
        refine XK.seq ?_
        refine XK.seq ?_
        refine XK.region rfl ?_
        refine XO.q (Q.move rfl) ?_
        refine XO.q (Q.gtr rfl rfl) ?_
        refine XO.q (Q.move rfl) ?_
        refine XO.q (Quiet.guardT rfl rfl fun g69 p69 => Q.move rfl) ?_
        refine XO.q (Quiet.guardT rfl rfl fun g70 p70 => Q.not (lzv g70 rfl)) ?_
        refine XO.q (Q.and rfl (fun hp => lzv hp rfl)) ?_
        refine XO.done ?_
        refine XK.if rfl (fun c3 => ?_) (fun c3 => ?_)
        · have _t3 := True.intro
          simp at c3
        · have _t3 := True.intro
          refine XK.skip ?_
          refine XK.seq ?_
          refine XK.seq ?_
          refine XK.region rfl ?_
          refine XO.q (Q.move rfl) ?_
          refine XO.done ?_
          refine XK.if rfl (fun c4 => ?_) (fun c4 => ?_)
          · have _t4 := True.intro
            refine XK.region rfl ?_
            refine XO.q (Q.fieldAddr rfl) ?_
            refine XO.q (Q.ld rfl rfl) ?_
            refine XO.q (Q.move rfl) ?_
            refine XO.q (Q.add rfl rfl ⟨by omega, by omega⟩) ?_
            rw [← elt]
            refine XO.q (Q.fieldAddr rfl) ?_
            refine XO.st rfl rfl rfl ?_
            refine XO.done ?_
            refine XK.seq ?_
            refine XK.region rfl ?_
            refine XO.q (Q.move rfl) ?_
            refine XO.q (Q.fieldAddr rfl) ?_
            refine XO.st rfl rfl rfl ?_
            refine XO.done ?_
            refine XK.seq ?_
            refine XK.drawn [0, 2, 3, 4, 5, 7, 6, 8, 9] [] [] (.q 0 (.q 2 (.q 3 (.q 4 (.q 5 (.q 7 (.br 1 true (.q 6 (.q 8 (.q 9 (.br 10 false .done .stop)))) .stop))))))) Try.mixed rfl (by kernel_rfl) ?_
            refine XT.q rfl rfl (Q.fieldAddr rfl) ?_
            refine XT.q rfl rfl (Q.move rfl) ?_
            refine XT.q rfl rfl (Q.move rfl) ?_
            refine XT.ix rfl rfl rfl rfl (by omega) (by omega) fun i86 => ?_
            refine XT.q rfl rfl (Q.ldE rfl (by first | assumption | omega) rfl) ?_
            refine XT.q rfl rfl (Q.move rfl) ?_
            refine XT.qs rfl rfl (Q.ld rfl rfl) ⟨inferInstance, ?_⟩ XT.stop
            refine XT.q rfl rfl (Q.add rfl rfl ⟨by omega, by omega⟩) ?_
            refine XT.q rfl rfl (Q.sub rfl rfl ⟨by omega, by omega⟩) ?_
            rw [show (stateP b pw fs false (m)).served + pw.getD m default - lk = (stateP b pw fs false (m + 1)).served by rw [es]; omega]
            refine XT.q rfl rfl (Q.fieldAddr rfl) ?_
            refine XT.st rfl rfl rfl rfl rfl ⟨inferInstance, ?_⟩ XT.stop
            refine XT.done ?_
            refine XK.seq ?_
            refine XK.seq ?_
            refine XK.region rfl ?_
            refine XO.q (Q.assign rfl) ?_
            refine XO.done ?_
            refine XK.block ?_
            refine XK.while (X := Nat × PHeap) [17, 92, 93, 94, 95, 96, 97, 98, 99, 100, 101, 102, 103, 104, 105, 106, 107, 108, 109, 110, 111] (fun ⟨i, kb⟩ => [(17, some (.int .i64 (i : Nat)))]) (fun ⟨i, kb⟩ => [kb]) (fun ⟨i, kb⟩ => i ≤ b.gens.length ∧ OArr v42 encI 1 3 kb (addTo (stateP b pw fs false (m)).burnt us_ i)) (fun ⟨i, kb⟩ => b.gens.length - i) (0, kn) [kn] rfl ⟨by omega, ON⟩ (.c rfl (.base 0 rfl rfl)) ?_
            rintro ⟨i, kb⟩ ⟨hi, OB⟩ ih2
            dsimp only [List.cons_append, List.nil_append] at ih2 ⊢
            obtain ⟨al, aa⟩ := addTo_at (bs := (stateP b pw fs false (m)).burnt) (us := us_) i (by omega)
            refine XK.seq ?_
            refine XK.seq ?_
            refine XK.region rfl ?_
            refine XO.q (Q.move rfl) ?_
            refine XO.q (Q.move rfl) ?_
            refine XO.len rfl fun l94 => ?_
            refine XO.q (Q.lss rfl rfl) ?_
            refine XO.done ?_
            refine XK.if rfl (fun c5 => ?_) (fun c5 => ?_)
            · have _t5 := True.intro
              have bi := sb.b i (by omega)
              have ui := uk.b i (by omega)
              have ci := canAt_ok pk (t := ((m : Nat) : Int)) (by omega) (i := i) (by omega)
              have ai := aa i
              rw [if_neg (by omega)] at ai
              refine XK.skip ?_
              refine XK.seq ?_
              refine XK.block ?_
              refine XK.drawn [0, 1, 2, 3, 4, 5, 6, 8, 9, 10, 11, 12, 13] [b10] [q2] (.q 0 (.q 1 (.q 2 (.q 3 (.q 4 (.q 5 (.q 6 (.q 8 (.q 9 (.q 10 (.q 11 (.br 7 true (.q 12 (.q 13 (.br 14 false .done .stop))) .stop)))))))))))) Try.mixed rfl (by kernel_rfl) ?_
              refine XT.q rfl rfl (Q.fieldAddr rfl) ?_
              refine XT.q rfl rfl (Q.ld rfl rfl) ?_
              refine XT.q rfl rfl (Q.move rfl) ?_
              refine XT.q rfl rfl (Q.fieldAddr rfl) ?_
              refine XT.q rfl rfl (Q.ld rfl rfl) ?_
              refine XT.q rfl rfl (Q.move rfl) ?_
              refine XT.ix rfl rfl rfl rfl (by omega) (by omega) fun i104 => ?_
              refine XT.q rfl rfl (Q.move rfl) ?_
              refine XT.q rfl rfl (Q.move rfl) ?_
              refine XT.ix rfl rfl rfl rfl (by omega) (by omega) fun i108 => ?_
              refine XT.q rfl rfl (Q.ldE rfl (by first | assumption | omega) rfl) ?_
              refine XT.qs rfl rfl (Q.ldE rfl (by first | assumption | omega) rfl) ⟨inferInstance, ?_⟩ XT.stop
              refine XT.q rfl rfl (Q.add rfl rfl ⟨by omega, by omega⟩) ?_
              refine XT.ix rfl rfl rfl rfl (by omega) (by omega) fun i111 => ?_
              refine XT.stE _ rfl rfl rfl rfl rfl (by assumption) rfl rfl (fun h24_14 O24_14 => ⟨inferInstance, ?_⟩) XT.stop
              refine XT.done ?_
              refine XK.inBlock ?_
              refine XK.region rfl ?_
              refine XO.q (Q.move rfl) ?_
              refine XO.q (Q.add rfl rfl ⟨by omega, by omega⟩) ?_
              refine XO.q (Q.assign rfl) ?_
              refine XO.done ?_
              exact ih2 (i + 1, h24_14) _ _ ⟨by dsimp only; omega, O24_14⟩ (by first | omega | (dsimp only; omega)) (.c rfl (.base 43 rfl rfl)) inferInstance
            · have _t5 := True.intro
              have hil2 : i = b.gens.length := by omega
              subst hil2
              refine XK.exit rfl ?_
              refine XK.region rfl ?_
              refine XO.q (Q.move rfl) ?_
              refine XO.q (Q.move rfl) ?_
              refine XO.call Try.call83 rfl rfl rfl (copyInts w1 q1 (energiesP (stateP b pw fs false (m + 1)).cells) (by omega)) fun v114 s114 R114 => ?_
              obtain ⟨k114, rfl, O114⟩ := R114
              dsimp only [List.cons_append, List.nil_append]
              refine XO.lit [_] [_] [v114] encV (by rfl) (by rfl) rfl (by rfl) (by exact .c 0 1 rfl rfl rfl (.n _)) (fun _ => rfl) (by rfl) rfl (by infer_instance) rfl fun v115 h115 O115 => ?_
              refine XO.append rfl rfl rfl rfl (by first | omega | (simp; omega)) fun v116 h116 O116 => ?_
              refine XO.q (Q.assign rfl) ?_
              refine XO.done ?_
              refine XK.inBlock ?_
              refine XK.region rfl ?_
              refine XO.q (Q.move rfl) ?_
              refine XO.q (Q.add rfl rfl ⟨by omega, by omega⟩) ?_
              refine XO.q (Q.assign rfl) ?_
              refine XO.done ?_
              exact ih1 (m + 1, w1, q1, kb, v116, h116, us ++ [v114]) _ _ ⟨by dsimp only; omega, P1, by dsimp only; rw [eb]; exact OB, O116, by dsimp only; rw [List.length_append, hul]; rfl⟩ (by first | omega | (dsimp only; omega)) (.c rfl (.c rfl (.base 164 rfl rfl))) inferInstance
          · have _t4 := True.intro
            simp at c4
      · have _t2 := True.intro
        have hml : m = pw.length := by omega
        refine XK.exit rfl ?_
        refine XK.seq ?_
        refine XK.region rfl ?_
        refine XO.q (Q.ldA [_, _, _, _] rfl rfl rfl) ?_
        refine XO.q (Q.move rfl) ?_
        refine XO.st rfl rfl rfl ?_
        refine XO.q (Q.assign rfl) ?_
        refine XO.done ?_
        refine XK.rt [] Try.func56 Try.results56 (.cell [_, _, _, _] rfl rfl rfl (.t rfl .n)) ?_
        subst hml
        exact ⟨ve, v42, vo, _, rfl, rfl, inferInstance, inferInstance, inferInstance⟩
  · have _t0 := True.intro
    simp at c0
end Go.X

set_option linter.unusedSimpArgs false
set_option linter.unusedVariables false
set_option maxRecDepth 20000
namespace Go.X
open Go.Proofs
theorem take_getL {α : Type} {l : List α} {n : Nat} (h : l.length ≤ n) : l.take n = l := List.take_of_length_le h
theorem sameInts (va vb : Value) (ha hb : PHeap) (a b : List Int) [ia : Arr va encI 1 ha a] [ib : Arr vb encI 1 hb b] : Spec Try.prog 37 #[va, vb] [] [ha, hb] (fun v hs => v = .bool (decide (a = b)) ∧ hs = []) := by
  have la := ia.le
  refine Spec.intro (fn := Try.f37) (N := 26) Try.func37 rfl Try.ntmps37 rfl fun B => ?_
  refine XK.seq ?_
  refine XK.region rfl ?_
  refine XO.q (Q.assign rfl) ?_
  refine XO.done ?_
  refine XK.seq ?_
  refine XK.seq ?_
  refine XK.region rfl ?_
  refine XO.q (Q.move rfl) ?_
  refine XO.len rfl fun l7 => ?_
  refine XO.q (Q.move rfl) ?_
  refine XO.len rfl fun l9 => ?_
  refine XO.q (Q.neq rfl rfl) ?_
  refine XO.done ?_
  refine XK.if rfl (fun c0 => ?_) (fun c0 => ?_)
  · have _t0 := True.intro
    refine XK.seq ?_
    refine XK.region rfl ?_
    refine XO.q (Q.assign rfl) ?_
    refine XO.done ?_
    refine XK.rt [] Try.func37 Try.results37 (.t rfl .n) ?_
    exact ⟨by rw [decide_eq_false (fun h => c0 (by rw [h]))], rfl⟩
  · have _t0 := True.intro
    refine XK.skip ?_
    refine XK.seq ?_
    refine XK.seq ?_
    refine XK.region rfl ?_
    refine XO.q (Q.assign rfl) ?_
    refine XO.done ?_
    refine XK.block ?_
    refine XK.while (X := Nat) [4, 5, 11, 12, 13, 14, 15, 16, 17, 18, 19, 20, 21, 22, 23, 24, 25] (fun i => [(5, some (.int .i64 (i : Nat)))]) (fun i => []) (fun i => i ≤ a.length ∧ a.take i = b.take i) (fun i => a.length - i) (0) [] rfl ⟨by omega, rfl⟩ (.c rfl (.base 0 rfl rfl)) ?_
    rintro i ⟨hi, ht⟩ ih0
    dsimp only [List.cons_append, List.nil_append] at ih0 ⊢
    refine XK.seq ?_
    refine XK.seq ?_
    refine XK.region rfl ?_
    refine XO.q (Q.move rfl) ?_
    refine XO.q (Q.move rfl) ?_
    refine XO.len rfl fun l13 => ?_
    refine XO.q (Q.lss rfl rfl) ?_
    refine XO.done ?_
    refine XK.if rfl (fun c1 => ?_) (fun c1 => ?_)
    · have _t1 := True.intro
      refine XK.skip ?_
      refine XK.seq ?_
      refine XK.block ?_
      refine XK.seq ?_
      refine XK.drawn [0, 1, 2, 3, 4, 5, 6, 7, 8] [] [] (.q 0 (.q 1 (.q 2 (.q 3 (.q 4 (.q 5 (.q 6 (.q 7 (.q 8 .done))))))))) Try.mixed rfl (by kernel_rfl) ?_
      refine XT.q rfl rfl (Q.move rfl) ?_
      refine XT.q rfl rfl (Q.move rfl) ?_
      refine XT.ix rfl rfl rfl rfl (by omega) (by omega) fun i19 => ?_
      refine XT.q rfl rfl (Q.ldE rfl (by first | assumption | omega) rfl) ?_
      refine XT.q rfl rfl (Q.move rfl) ?_
      refine XT.q rfl rfl (Q.move rfl) ?_
      refine XT.ix rfl rfl rfl rfl (by omega) (by omega) fun i23 => ?_
      refine XT.q rfl rfl (Q.ldE rfl (by first | assumption | omega) rfl) ?_
      refine XT.q rfl rfl (Q.neq rfl rfl) ?_
      refine XT.done ?_
      refine XK.if rfl (fun c2 => ?_) (fun c2 => ?_)
      · have _t2 := True.intro
        refine XK.seq ?_
        refine XK.region rfl ?_
        refine XO.q (Q.assign rfl) ?_
        refine XO.done ?_
        refine XK.rt [] Try.func37 Try.results37 (.t rfl .n) ?_
        exact ⟨by rw [decide_eq_false (fun h => c2 (by rw [h]))], rfl⟩
      · have _t2 := True.intro
        refine XK.skip ?_
        refine XK.inBlock ?_
        refine XK.region rfl ?_
        refine XO.q (Q.move rfl) ?_
        refine XO.q (Q.add rfl rfl ⟨by omega, by omega⟩) ?_
        refine XO.q (Q.assign rfl) ?_
        refine XO.done ?_
        exact ih0 (i + 1) _ _ ⟨by omega, take_step ht (by omega) (by omega) (Decidable.of_not_not c2)⟩ (by first | omega | (dsimp only; omega)) (.c rfl (.base 34 rfl rfl)) inferInstance
    · have _t1 := True.intro
      refine XK.exit rfl ?_
      refine XK.seq ?_
      refine XK.region rfl ?_
      refine XO.q (Q.assign rfl) ?_
      refine XO.done ?_
      refine XK.rt [] Try.func37 Try.results37 (.t rfl .n) ?_
      exact ⟨by rw [decide_eq_true (take_all ht c1 (by omega))], rfl⟩
set_option maxHeartbeats 2000000 in
set_option synthInstance.maxSize 1000 in
theorem BankBalance_spec (v0 : Value) (h0 : PHeap) (x0 : List UInt8) [i0 : Arr v0 encU8 1 h0 x0] (v1 : Value) (h1 : PHeap) (x1 : List UInt8) [i1 : Arr v1 encU8 1 h1 x1] (v2 : Value) (h2 : PHeap) (x2 : List UInt8) [i2 : Arr v2 encU8 1 h2 x2] : Spec Try.prog 8 #[v0, v1, v2] [] [h0, h1, h2] (fun v hs => v = .bool true ∧ hs = []) := by
  refine Spec.intro (fn := Try.f8) (N := 198) Try.func8 rfl Try.ntmps8 rfl fun B => ?_
  refine XK.seq ?_
  refine XK.region rfl ?_
  refine XO.q (Q.assign rfl) ?_
  refine XO.done ?_
  refine XK.seq ?_
  refine XK.region rfl ?_
  refine XO.q (Q.move rfl) ?_
  refine XO.call Try.call28 rfl rfl rfl (made06 v0 h0 x0) fun v29 s29 R29 => ?_
  obtain ⟨vb, vg, kb, kg, rfl, rfl, OB, OG⟩ := R29
  dsimp only [List.cons_append, List.nil_append]
  obtain ⟨b, eb⟩ : ∃ b, b = madeP x0 := ⟨_, rfl⟩
  obtain ⟨ok, nb4, ng3⟩ := made_ok x0
  rw [← eb] at OB OG ok nb4 ng3
  clear eb
  refine XO.alloc fun b7 => ?_
  refine XO.st rfl rfl rfl ?_
  refine XO.done ?_
  refine XK.seq ?_
  refine XK.drawn [0, 2, 3, 5, 6] [b7] [] (.q 0 (.q 2 (.q 3 (.br 1 true (.br 4 true (.q 5 (.q 6 .done)) .stop) .stop)))) Try.mixed rfl (by kernel_rfl) ?_
  refine XT.q rfl rfl (Q.move rfl) ?_
  refine XT.q rfl rfl (Q.ldA [_, _] rfl rfl rfl) ?_
  refine XT.q rfl rfl (Q.move rfl) ?_
  refine XT.call rfl rfl Try.call31 rfl rfl rfl (loaded06 v1 h1 x1) (fun v31 s31 R31 => ?_) XT.stop
  obtain ⟨kl, rfl, OL⟩ := R31
  dsimp only [List.cons_append, List.nil_append]
  refine ⟨inferInstance, ?_⟩
  obtain ⟨l, el⟩ : ∃ l, l = loadP x1 := ⟨_, rfl⟩
  obtain ⟨lk, lsp, l8, lp⟩ := load_ok x1
  rw [← el] at OL lk lsp l8 lp
  have hw := pwOk lk
  clear el
  refine XT.call rfl rfl Try.call29 rfl rfl rfl (failed06 b vb vg kb kg ok v2 h2 x2) (fun v34 s34 R34 => ?_) XT.stop
  obtain ⟨kf, rfl, OF⟩ := R34
  dsimp only [List.cons_append, List.nil_append]
  refine ⟨inferInstance, ?_⟩
  obtain ⟨f, ef⟩ : ∃ f, f = failP b x2 := ⟨_, rfl⟩
  have fk := fail_ok ok x2
  rw [← ef] at OF fk
  clear ef
  refine XT.q rfl rfl (Q.assign rfl) ?_
  refine XT.q rfl rfl (Q.assign rfl) ?_
  refine XT.done ?_
  refine XK.seq ?_
  refine XK.region rfl ?_
  have rd : readyP b l f = 0 := readyP_iff.2 ⟨ok, lk, fk⟩
  refine XO.q (Q.ldA [_, _] rfl rfl rfl) ?_
  refine XO.q (Q.move rfl) ?_
  refine XO.q (Q.move rfl) ?_
  refine XO.call Try.call30 rfl rfl rfl (Run_spec b vb vg kb kg l v31 kl f v34 kf) fun v39 s39 R39 => ?_
  obtain ⟨ve, vn, ke, kn, rfl, rfl, OE, ON⟩ := R39
  dsimp only [List.cons_append, List.nil_append]
  rw [if_pos rd] at OE ON
  rw [rd, if_pos rfl]
  obtain ⟨r, er⟩ : ∃ r, r = runP b (powers l) f := ⟨_, rfl⟩
  rw [← er] at OE ON ⊢
  refine XO.q (Q.move rfl) ?_
  refine XO.q (Q.extract rfl rfl) ?_
  refine XO.q (Q.extract rfl rfl) ?_
  refine XO.alloc fun b10 => ?_
  refine XO.st rfl rfl rfl ?_
  refine XO.q (Q.assign rfl) ?_
  refine XO.done ?_
  refine XK.seq ?_
  refine XK.region rfl ?_
  refine XO.q (Q.ldA [_, _] rfl rfl rfl) ?_
  refine XO.q (Q.move rfl) ?_
  refine XO.q (Q.move rfl) ?_
  refine XO.call Try.call36 rfl rfl rfl (Trace_spec b vb vg kb kg l v31 kl f v34 kf) fun v46 s46 R46 => ?_
  obtain ⟨vo, ho, us, K, rfl, rfl, OO, RR⟩ := R46
  dsimp only [List.cons_append, List.nil_append]
  rw [if_pos rd] at RR
  rw [rd]
  refine XO.q (Q.move rfl) ?_
  obtain ⟨L1, L2, L3, L4⟩ := balance_law ok fk hw
  obtain ⟨⟨R1, R2⟩, ⟨R3, R4⟩, R5, R6, R7, R8⟩ := run_rng ok fk hw
  have tl := trace_len b (powers l) f
  have eo := end_ok b (powers l) f
  have ur := RR.1
  have rok := fun i j hi hj => row_ok (i := i) (j := j) ok fk hw hi hj
  have dk : r.dark = darkP b (powers l) f := by rw [er]; rfl
  have tla := fun h => trace_last (b := b) (pw := powers l) (fs := f) h
  rw [← er] at L1 L2 L3 L4 R1 R2 R3 R4 R5 R6 R7 R8 tla
  rw [← dk] at eo
  have cl := cnt_all l
  have bb := fun j (hj : j < b.bats.length) => (ok.bat _ (getD_memB hj))
  have al : 0 < us.length → Arr (us.getD ((us.length : Int) - 1).toNat default) encI 1 K ((traceP b (powers l) f).getD ((us.length : Int) - 1).toNat default) := fun h => RR.2 _ (by omega)
  have w20 := hw.n
  refine XO.q (Q.extract rfl rfl) ?_
  refine XO.q (Q.extract rfl rfl) ?_
  refine XO.q (Q.assign rfl) ?_
  refine XO.q (Q.assign rfl) ?_
  refine XO.done ?_
  refine XK.seq ?_
  refine XK.seq ?_
  refine XK.region rfl ?_
  refine XO.q (Q.move rfl) ?_
  refine XO.q (Q.neq rfl rfl) ?_
  refine XO.q (Q.move rfl) ?_
  refine XO.q (Quiet.guardF rfl rfl fun g52 p52 => Q.move rfl) ?_
  refine XO.q (Quiet.guardF rfl rfl fun g53 p53 => Q.neq (lzv g53 rfl) rfl) ?_
  refine XO.q (Q.or rfl (fun hp => lzv hp rfl)) ?_
  refine XO.q (Q.move rfl) ?_
  refine XO.q (Quiet.guardF rfl rfl fun g56 p56 => Q.fieldAddr rfl) ?_
  refine XO.q (Quiet.guardF rfl rfl fun g57 p57 => Q.ld (lzv g57 rfl) rfl) ?_
  refine XO.q (Quiet.guardF rfl rfl fun g58 p58 => Q.len (lzv g58 rfl)) ?_
  refine XO.q (Quiet.guardF rfl rfl fun g59 p59 => Q.fieldAddr rfl) ?_
  refine XO.q (Quiet.guardF rfl rfl fun g60 p60 => Q.ld (lzv g60 rfl) rfl) ?_
  refine XO.q (Quiet.guardF rfl rfl fun g61 p61 => Q.len (lzv g61 rfl)) ?_
  refine XO.q (Quiet.guardF rfl rfl fun g62 p62 => Q.neq (lzv g62 rfl) (lzv g62 rfl)) ?_
  refine XO.q (Q.or rfl (fun hp => lzv hp rfl)) ?_
  refine XO.q (Q.move rfl) ?_
  refine XO.q (Quiet.guardF rfl rfl fun g65 p65 => Q.fieldAddr rfl) ?_
  refine XO.q (Quiet.guardF rfl rfl fun g66 p66 => Q.ld (lzv g66 rfl) rfl) ?_
  refine XO.q (Quiet.guardF rfl rfl fun g67 p67 => Q.len (lzv g67 rfl)) ?_
  refine XO.q (Quiet.guardF rfl rfl fun g68 p68 => Q.fieldAddr rfl) ?_
  refine XO.q (Quiet.guardF rfl rfl fun g69 p69 => Q.ld (lzv g69 rfl) rfl) ?_
  refine XO.q (Quiet.guardF rfl rfl fun g70 p70 => Q.len (lzv g70 rfl)) ?_
  refine XO.q (Quiet.guardF rfl rfl fun g71 p71 => Q.neq (lzv g71 rfl) (lzv g71 rfl)) ?_
  refine XO.q (Q.or rfl (fun hp => lzv hp rfl)) ?_
  refine XO.done ?_
  refine XK.if rfl (fun c0 => ?_) (fun c0 => ?_)
  · have _t0 := True.intro
    exact absurd c0 (by omega)
  · have _t0 := True.intro
    refine XK.skip ?_
    refine XK.seq ?_
    refine XK.region rfl ?_
    refine XO.q (Q.fieldAddr rfl) ?_
    refine XO.q (Q.ld rfl rfl) ?_
    refine XO.q (Q.assign rfl) ?_
    refine XO.done ?_
    refine XK.seq ?_
    refine XK.seq ?_
    refine XK.region rfl ?_
    refine XO.q (Q.fieldAddr rfl) ?_
    refine XO.q (Q.ld rfl rfl) ?_
    refine XO.len rfl fun l77 => ?_
    refine XO.q (Q.move rfl) ?_
    refine XO.done ?_
    refine XK.block ?_
    refine XK.while (X := Nat) [14, 15, 16, 78, 79, 80, 81, 82, 83, 84, 85, 86, 87, 88, 89, 90, 91, 92, 93] (fun i => [(78, some (.int .i64 (i : Nat))), (14, some (.int .i64 (accI r.served (fun j => r.energy.getD j default - (b.bats.getD j default).energy) (i))))]) (fun i => []) (fun i => i ≤ b.bats.length) (fun i => b.bats.length - i) (0) [] rfl (by omega) (.c rfl (.c rfl (.base 0 rfl rfl))) ?_
    rintro i hi ih0
    dsimp only [List.cons_append, List.nil_append] at ih0 ⊢
    refine XK.seq ?_
    refine XK.region rfl ?_
    refine XO.q (Q.lss rfl rfl) ?_
    refine XO.done ?_
    refine XK.seq ?_
    refine XK.if rfl (fun c1 => ?_) (fun c1 => ?_)
    · have _t1 := True.intro
      have bi := bb i (by omega)
      have b1 := bi.e0
      have b2 := bi.ef
      have b3 := bi.f1
      have ei := R5 i (by omega)
      have ac := accI_rng (s := r.served) (f := fun j => r.energy.getD j default - (b.bats.getD j default).energy) (B := 100000000000) (by decide) i (fun j hj => by have q := bb j (by omega); have q1 := q.e0; have q2 := q.ef; have q3 := q.f1; have q4 := R5 j (by omega); (try dsimp only); omega)
      refine XK.skip ?_
      refine XK.seq ?_
      refine XK.block ?_
      refine XK.seq ?_
      refine XK.region rfl ?_
      refine XO.q (Q.move rfl) ?_
      refine XO.ix rfl rfl (by omega) (by omega) fun i81 => ?_
      refine XO.q (Q.ldEA [_, _, _, _] rfl (by first | assumption | omega) rfl rfl) ?_
      refine XO.alloc fun b16 => ?_
      refine XO.q (Q.assign rfl) ?_
      refine XO.st rfl rfl rfl ?_
      refine XO.done ?_
      refine XK.drawn [0, 1, 2, 3, 4, 5, 6, 7, 8, 9, 10] [b10, b16] [ke] (.q 0 (.q 1 (.q 2 (.q 3 (.q 4 (.q 5 (.q 6 (.q 7 (.q 8 (.q 9 (.q 10 .done))))))))))) Try.mixed rfl (by kernel_rfl) ?_
      refine XT.q rfl rfl (Q.move rfl) ?_
      refine XT.q rfl rfl (Q.fieldAddr rfl) ?_
      refine XT.q rfl rfl (Q.ld rfl rfl) ?_
      refine XT.q rfl rfl (Q.move rfl) ?_
      refine XT.ix rfl rfl rfl rfl (by omega) (by omega) fun i87 => ?_
      refine XT.q rfl rfl (Q.ldE rfl (by first | assumption | omega) rfl) ?_
      refine XT.q rfl rfl (Q.fieldAddr rfl) ?_
      refine XT.q rfl rfl (Q.ld rfl rfl) ?_
      refine XT.q rfl rfl (Q.sub rfl rfl ⟨by omega, by omega⟩) ?_
      refine XT.q rfl rfl (Q.add rfl rfl ⟨by omega, by omega⟩) ?_
      refine XT.q rfl rfl (Q.assign rfl) ?_
      refine XT.done ?_
      refine XK.inBlock ?_
      refine XK.region rfl ?_
      refine XO.q (Q.add rfl rfl ⟨by omega, by omega⟩) ?_
      refine XO.q (Q.move rfl) ?_
      refine XO.done ?_
      exact ih0 (i + 1) _ _ (by omega) (by first | omega | (dsimp only; omega)) (.c rfl (.c rfl (.base 40 rfl rfl))) inferInstance
    · have _t1 := True.intro
      have hil : i = b.bats.length := by omega
      subst hil
      clear ih0
      have ac := accI_rng (s := r.served) (f := fun j => r.energy.getD j default - (b.bats.getD j default).energy) (B := 100000000000) (by decide) b.bats.length (fun j hj => by have q := bb j (by omega); have q1 := q.e0; have q2 := q.ef; have q3 := q.f1; have q4 := R5 j (by omega); (try dsimp only); omega)
      refine XK.exit rfl ?_
      refine XK.seq ?_
      refine XK.seq ?_
      refine XK.region rfl ?_
      refine XO.q (Q.fieldAddr rfl) ?_
      refine XO.q (Q.ld rfl rfl) ?_
      refine XO.len rfl fun l96 => ?_
      refine XO.q (Q.move rfl) ?_
      refine XO.done ?_
      refine XK.block ?_
      refine XK.while (X := Nat) [14, 18, 97, 98, 99, 100, 101, 102, 103, 104] (fun i => [(97, some (.int .i64 (i : Nat))), (14, some (.int .i64 (decI (accI r.served (fun j => r.energy.getD j default - (b.bats.getD j default).energy) (b.bats.length)) (fun j => r.burnt.getD j default) (i))))]) (fun i => []) (fun i => i ≤ b.gens.length) (fun i => b.gens.length - i) (0) [] rfl (by omega) (.c rfl (.c rfl (.base 0 rfl rfl))) ?_
      rintro i hi ih1
      dsimp only [List.cons_append, List.nil_append] at ih1 ⊢
      refine XK.seq ?_
      refine XK.region rfl ?_
      refine XO.q (Q.lss rfl rfl) ?_
      refine XO.done ?_
      refine XK.seq ?_
      refine XK.if rfl (fun c2 => ?_) (fun c2 => ?_)
      · have _t2 := True.intro
        have bi := R6 i (by omega)
        have ad := decI_rng (s := (accI r.served (fun j => r.energy.getD j default - (b.bats.getD j default).energy) (b.bats.length))) (f := fun j => r.burnt.getD j default) (B := 20000000000) (by decide) i (fun j hj => by have q4 := R6 j (by omega); (try dsimp only); omega)
        refine XK.skip ?_
        refine XK.seq ?_
        refine XK.block ?_
        refine XK.seq ?_
        refine XK.region rfl ?_
        refine XO.ix rfl rfl (by omega) (by omega) fun i99 => ?_
        refine XO.q (Q.ldE rfl (by first | assumption | omega) rfl) ?_
        refine XO.q (Q.assign rfl) ?_
        refine XO.done ?_
        refine XK.region rfl ?_
        refine XO.q (Q.move rfl) ?_
        refine XO.q (Q.move rfl) ?_
        refine XO.q (Q.sub rfl rfl ⟨by omega, by omega⟩) ?_
        refine XO.q (Q.assign rfl) ?_
        refine XO.done ?_
        refine XK.inBlock ?_
        refine XK.region rfl ?_
        refine XO.q (Q.add rfl rfl ⟨by omega, by omega⟩) ?_
        refine XO.q (Q.move rfl) ?_
        refine XO.done ?_
        exact ih1 (i + 1) _ _ (by omega) (by first | omega | (dsimp only; omega)) (.c rfl (.c rfl (.base 22 rfl rfl))) inferInstance
      · have _t2 := True.intro
        have hil : i = b.gens.length := by omega
        subst hil
        clear ih1
        refine XK.exit rfl ?_
        refine XK.seq ?_
        refine XK.region rfl ?_
        refine XO.q (Q.assign rfl) ?_
        refine XO.q (Q.assign rfl) ?_
        refine XO.done ?_
        refine XK.seq ?_
        refine XK.seq ?_
        refine XK.region rfl ?_
        refine XO.q (Q.move rfl) ?_
        refine XO.len rfl fun l106 => ?_
        refine XO.q (Q.move rfl) ?_
        refine XO.done ?_
        refine XK.block ?_
        refine XK.while (X := Nat) [19, 20, 22, 107, 108, 109, 110, 111, 112, 113, 114, 115, 116, 117, 118, 119, 120, 121, 122, 123, 124, 125, 126, 127, 128, 129, 130, 131] (fun i => [(107, some (.int .i64 (i : Nat))), (20, some (.int .i64 ((cnt l i : Nat) : Int))), (19, some (.int .i64 (accI 0 (fun j => if r.dark < 0 ∨ (j : Int) < r.dark then (powers l).getD j default else 0) (cnt l i))))]) (fun i => []) (fun i => i ≤ l.length) (fun i => l.length - i) (0) [] rfl (by omega) (.c rfl (.c rfl (.c rfl (.base 0 rfl rfl)))) ?_
        rintro i hi ih2
        dsimp only [List.cons_append, List.nil_append] at ih2 ⊢
        refine XK.seq ?_
        refine XK.region rfl ?_
        refine XO.q (Q.lss rfl rfl) ?_
        refine XO.done ?_
        refine XK.seq ?_
        refine XK.if rfl (fun c3 => ?_) (fun c3 => ?_)
        · have _t3 := True.intro
          have sk := lk.s _ (getD_memB (show i < l.length by omega))
          refine XK.skip ?_
          refine XK.seq ?_
          refine XK.block ?_
          refine XK.seq ?_
          refine XK.region rfl ?_
          refine XO.ix rfl rfl (by omega) (by omega) fun i109 => ?_
          refine XO.q (Q.ldEA [_, _] rfl (by first | assumption | omega) rfl rfl) ?_
          refine XO.alloc fun b22 => ?_
          refine XO.st rfl rfl rfl ?_
          refine XO.done ?_
          refine XK.seq ?_
          refine XK.region rfl ?_
          refine XO.q (Q.fieldAddr rfl) ?_
          refine XO.q (Q.ld rfl rfl) ?_
          refine XO.q (Q.move rfl) ?_
          refine XO.done ?_
          refine XK.block ?_
          refine XK.while (X := Nat) [19, 20, 113, 114, 115, 116, 117, 118, 119, 120, 121, 122, 123, 124, 125, 126, 127, 128, 129, 130] (fun j => [(113, some (.int .i64 (j : Nat))), (20, some (.int .i64 (((cnt l i + j : Nat)) : Int))), (19, some (.int .i64 (accI 0 (fun j => if r.dark < 0 ∨ (j : Int) < r.dark then (powers l).getD j default else 0) (cnt l i + j))))]) (fun j => []) (fun j => (j : Int) ≤ (l.getD i default).seconds) (fun j => (l.getD i default).seconds.toNat - j) (0) [] rfl (by omega) (.c rfl (.c rfl (.c rfl (.base 0 rfl rfl)))) ?_
          rintro j hj ih3
          dsimp only [List.cons_append, List.nil_append] at ih3 ⊢
          refine XK.seq ?_
          refine XK.region rfl ?_
          refine XO.q (Q.lss rfl rfl) ?_
          refine XO.done ?_
          refine XK.seq ?_
          refine XK.if rfl (fun c4 => ?_) (fun c4 => ?_)
          · have _t4 := True.intro
            obtain ⟨hp1, hp2⟩ := powers_at l (i := i) (j := j) (by omega) (by omega)
            have aw := accI_rng (s := 0) (f := (fun j => if r.dark < 0 ∨ (j : Int) < r.dark then (powers l).getD j default else 0)) (B := 1000000) (by decide) (cnt l i + j) (fun q hq => by have q1 := hw.p q (by omega); (try dsimp only); split <;> omega)
            have as3 := show (accI 0 (fun j => if r.dark < 0 ∨ (j : Int) < r.dark then (powers l).getD j default else 0) (cnt l i + j + 1)) = (accI 0 (fun j => if r.dark < 0 ∨ (j : Int) < r.dark then (powers l).getD j default else 0) (cnt l i + j)) + (if r.dark < 0 ∨ (((cnt l i + j : Nat)) : Int) < r.dark then (powers l).getD (cnt l i + j) default else 0) from rfl
            rw [hp2] at as3
            refine XK.skip ?_
            refine XK.seq ?_
            refine XK.block ?_
            refine XK.seq ?_
            refine XK.seq ?_
            refine XK.region rfl ?_
            refine XO.q (Q.fieldAddr rfl) ?_
            refine XO.q (Q.ld rfl rfl) ?_
            refine XO.q (Q.lss rfl rfl) ?_
            refine XO.q (Q.move rfl) ?_
            refine XO.q (Quiet.guardF rfl rfl fun g119 p119 => Q.move rfl) ?_
            refine XO.q (Quiet.guardF rfl rfl fun g120 p120 => Q.fieldAddr rfl) ?_
            refine XO.q (Quiet.guardF rfl rfl fun g121 p121 => Q.ld (lzv g121 rfl) rfl) ?_
            refine XO.q (Quiet.guardF rfl rfl fun g122 p122 => Q.lss (lzv g122 rfl) (lzv g122 rfl)) ?_
            refine XO.q (Q.or rfl (fun hp => lzv hp rfl)) ?_
            refine XO.done ?_
            refine XK.if rfl (fun c5 => ?_) (fun c5 => ?_)
            · have _t5 := True.intro
              refine XK.region rfl ?_
              refine XO.q (Q.move rfl) ?_
              refine XO.q (Q.fieldAddr rfl) ?_
              refine XO.q (Q.ld rfl rfl) ?_
              refine XO.q (Q.add rfl rfl ⟨by omega, by omega⟩) ?_
              refine XO.q (Q.assign rfl) ?_
              refine XO.done ?_
              refine XK.region rfl ?_
              refine XO.q (Q.move rfl) ?_
              refine XO.q (Q.add rfl rfl ⟨by omega, by omega⟩) ?_
              refine XO.q (Q.assign rfl) ?_
              refine XO.done ?_
              refine XK.inBlock ?_
              refine XK.region rfl ?_
              refine XO.q (Q.add rfl rfl ⟨by omega, by omega⟩) ?_
              refine XO.q (Q.move rfl) ?_
              refine XO.done ?_
              rw [if_pos c5] at as3
              rw [← as3]
              exact ih3 (j + 1) _ _ (by omega) (by first | omega | (dsimp only; omega)) (.c rfl (.c rfl (.c rfl (.base 43 rfl rfl)))) inferInstance
            · have _t5 := True.intro
              refine XK.skip ?_
              refine XK.region rfl ?_
              refine XO.q (Q.move rfl) ?_
              refine XO.q (Q.add rfl rfl ⟨by omega, by omega⟩) ?_
              refine XO.q (Q.assign rfl) ?_
              refine XO.done ?_
              refine XK.inBlock ?_
              refine XK.region rfl ?_
              refine XO.q (Q.add rfl rfl ⟨by omega, by omega⟩) ?_
              refine XO.q (Q.move rfl) ?_
              refine XO.done ?_
              rw [if_neg c5, Int.add_zero] at as3
              rw [← as3]
              exact ih3 (j + 1) _ _ (by omega) (by first | omega | (dsimp only; omega)) (.c rfl (.c rfl (.c rfl (.base 38 rfl rfl)))) inferInstance
          · have _t4 := True.intro
            have hjn : cnt l i + j = cnt l (i + 1) := by rw [cnt]; omega
            refine XK.exit rfl ?_
            refine XK.inBlock ?_
            refine XK.region rfl ?_
            refine XO.q (Q.add rfl rfl ⟨by omega, by omega⟩) ?_
            refine XO.q (Q.move rfl) ?_
            refine XO.done ?_
            rw [hjn]
            exact ih2 (i + 1) _ _ (by omega) (by first | omega | (dsimp only; omega)) (.c rfl (.c rfl (.c rfl (.base 64 rfl rfl)))) inferInstance
        · have _t3 := True.intro
          have hil : i = l.length := by omega
          subst hil
          clear ih2
          refine XK.exit rfl ?_
          refine XK.seq ?_
          refine XK.seq ?_
          refine XK.region rfl ?_
          refine XO.q (Q.move rfl) ?_
          refine XO.len rfl fun l133 => ?_
          refine XO.q (Q.move rfl) ?_
          refine XO.done ?_
          refine XK.block ?_
          refine XK.while (X := Nat) [6, 24, 25, 26, 134, 135, 136, 137, 138, 139, 140, 141, 142, 143, 144, 145, 146, 147, 148, 149, 150, 151, 152, 153, 154, 155, 156, 157, 158] (fun i => [(134, some (.int .i64 (i : Nat)))]) (fun i => []) (fun i => i ≤ us.length) (fun i => us.length - i) (0) [] rfl (by omega) (.c rfl (.base 0 rfl rfl)) ?_
          rintro i hi ih4
          dsimp only [List.cons_append, List.nil_append] at ih4 ⊢
          refine XK.seq ?_
          refine XK.region rfl ?_
          refine XO.q (Q.lss rfl rfl) ?_
          refine XO.done ?_
          refine XK.seq ?_
          refine XK.if rfl (fun c6 => ?_) (fun c6 => ?_)
          · have _t6 := True.intro
            have aa := RR.2 i (by omega)
            have rl := fun j hj => rok i j (by omega) hj
            have rle := row_len ok fk hw (i := i) (by omega)
            refine XK.skip ?_
            refine XK.seq ?_
            refine XK.block ?_
            refine XK.seq ?_
            refine XK.region rfl ?_
            refine XO.ix rfl rfl (by omega) (by omega) fun i136 => ?_
            refine XO.q (Q.ldE rfl (by first | assumption | omega) rfl) ?_
            refine XO.q (Q.assign rfl) ?_
            refine XO.done ?_
            refine XK.seq ?_
            refine XK.region rfl ?_
            refine XO.q (Q.move rfl) ?_
            refine XO.len rfl fun l139 => ?_
            refine XO.q (Q.move rfl) ?_
            refine XO.done ?_
            refine XK.block ?_
            refine XK.while (X := Nat) [6, 25, 26, 140, 141, 142, 143, 144, 145, 146, 147, 148, 149, 150, 151, 152, 153, 154, 155, 156, 157] (fun j => [(140, some (.int .i64 (j : Nat)))]) (fun j => []) (fun j => j ≤ ((traceP b (powers l) f).getD i default).length) (fun j => ((traceP b (powers l) f).getD i default).length - j) (0) [] rfl (by omega) (.c rfl (.base 0 rfl rfl)) ?_
            rintro j hj ih5
            dsimp only [List.cons_append, List.nil_append] at ih5 ⊢
            refine XK.seq ?_
            refine XK.region rfl ?_
            refine XO.q (Q.lss rfl rfl) ?_
            refine XO.done ?_
            refine XK.seq ?_
            refine XK.if rfl (fun c7 => ?_) (fun c7 => ?_)
            · have _t7 := True.intro
              have rw1 := (rl j (by omega))
              refine XK.skip ?_
              refine XK.seq ?_
              refine XK.block ?_
              refine XK.seq ?_
              refine XK.region rfl ?_
              refine XO.q (Q.move rfl) ?_
              refine XO.ix rfl rfl (by omega) (by omega) fun i143 => ?_
              refine XO.q (Q.ldE rfl (by first | assumption | omega) rfl) ?_
              refine XO.q (Q.assign rfl) ?_
              refine XO.q (Q.assign rfl) ?_
              refine XO.done ?_
              refine XK.seq ?_
              refine XK.region rfl ?_
              refine XO.q (Q.move rfl) ?_
              refine XO.q (Q.lss rfl rfl) ?_
              refine XO.q (Q.move rfl) ?_
              refine XO.q (Quiet.guardF rfl rfl fun g148 p148 => Q.move rfl) ?_
              refine XO.q (Quiet.guardF rfl rfl fun g149 p149 => Q.fieldAddr rfl) ?_
              refine XO.q (Quiet.guardF rfl rfl fun g150 p150 => Q.ld (lzv g150 rfl) rfl) ?_
              refine XO.q (Quiet.guardF rfl rfl fun g151 p151 => Q.move rfl) ?_
              refine XO.q (Quiet.guardF rfl rfl fun g152 p152 => Q.ix (lzv g152 rfl) (lzv g152 rfl) (by omega) (by omega)) ?_
              refine XO.q (Quiet.guardF rfl rfl fun g153 p153 => Q.fieldQ (lzv g153 rfl) (by first | assumption | omega)) ?_
              refine XO.q (Quiet.guardF rfl rfl fun g154 p154 => Q.ldE (lzv g154 rfl) (by first | assumption | omega) rfl) ?_
              refine XO.q (Quiet.guardF rfl rfl fun g155 p155 => Q.gtr (lzv g155 rfl) (lzv g155 rfl)) ?_
              refine XO.q (Q.or rfl (fun hp => lzv hp rfl)) ?_
              refine XO.done ?_
              refine XK.if rfl (fun c8 => ?_) (fun c8 => ?_)
              · have _t8 := True.intro
                exact absurd c8 (by omega)
              · have _t8 := True.intro
                refine XK.skip ?_
                refine XK.inBlock ?_
                refine XK.region rfl ?_
                refine XO.q (Q.add rfl rfl ⟨by omega, by omega⟩) ?_
                refine XO.q (Q.move rfl) ?_
                refine XO.done ?_
                exact ih5 (j + 1) _ _ (by omega) (by first | omega | (dsimp only; omega)) (.c rfl (.base 42 rfl rfl)) inferInstance
            · have _t7 := True.intro
              refine XK.exit rfl ?_
              refine XK.inBlock ?_
              refine XK.region rfl ?_
              refine XO.q (Q.add rfl rfl ⟨by omega, by omega⟩) ?_
              refine XO.q (Q.move rfl) ?_
              refine XO.done ?_
              exact ih4 (i + 1) _ _ (by omega) (by first | omega | (dsimp only; omega)) (.c rfl (.base 62 rfl rfl)) inferInstance
          · have _t6 := True.intro
            refine XK.exit rfl ?_
            refine XK.seq ?_
            refine XK.region rfl ?_
            refine XO.q (Q.move rfl) ?_
            refine XO.q (Q.assign rfl) ?_
            refine XO.done ?_
            refine XK.seq ?_
            refine XK.seq ?_
            refine XK.region rfl ?_
            refine XO.q (Q.fieldAddr rfl) ?_
            refine XO.q (Q.ld rfl rfl) ?_
            refine XO.q (Q.geq rfl rfl) ?_
            refine XO.done ?_
            refine XK.if rfl (fun c9 => ?_) (fun c9 => ?_)
            · have _t9 := True.intro
              refine XK.region rfl ?_
              refine XO.q (Q.fieldAddr rfl) ?_
              refine XO.q (Q.ld rfl rfl) ?_
              refine XO.q (Q.assign rfl) ?_
              refine XO.done ?_
              refine XK.seq ?_
              refine XK.drawn [0, 1, 2, 3, 4, 5, 6, 7, 8, 9, 10, 11, 12, 13, 14, 15, 16, 17, 18, 19, 20, 21, 22, 23, 24, 25, 26, 28, 29, 30, 32, 33] [b10] [ho] (.q 0 (.q 1 (.q 2 (.q 3 (.q 4 (.q 5 (.q 6 (.q 7 (.q 8 (.q 9 (.q 10 (.q 11 (.q 12 (.q 13 (.q 14 (.q 15 (.q 16 (.q 17 (.q 18 (.q 19 (.q 20 (.q 21 (.q 22 (.q 23 (.q 24 (.q 25 (.q 26 (.br 27 true (.q 28 (.q 29 (.q 30 (.br 31 true (.q 32 (.q 33 .done)) .stop)))) .stop)))))))))))))))))))))))))))) Try.mixed rfl (by kernel_rfl) ?_
              refine XT.q rfl rfl (Q.move rfl) ?_
              refine XT.q rfl rfl (Q.eql rfl rfl) ?_
              refine XT.q rfl rfl (Q.move rfl) ?_
              refine XT.q rfl rfl (Quiet.guardT rfl rfl fun g168 p168 => Q.move rfl) ?_
              refine XT.q rfl rfl (Quiet.guardT rfl rfl fun g169 p169 => Q.fieldAddr rfl) ?_
              refine XT.q rfl rfl (Quiet.guardT rfl rfl fun g170 p170 => Q.ld (lzv g170 rfl) rfl) ?_
              refine XT.q rfl rfl (Quiet.guardT rfl rfl fun g171 p171 => Q.eql (lzv g171 rfl) (lzv g171 rfl)) ?_
              refine XT.q rfl rfl (Q.and rfl (fun hp => lzv hp rfl)) ?_
              refine XT.q rfl rfl (Q.move rfl) ?_
              refine XT.q rfl rfl (Quiet.guardT rfl rfl fun g174 p174 => Q.move rfl) ?_
              refine XT.q rfl rfl (Quiet.guardT rfl rfl fun g175 p175 => Q.len (lzv g175 rfl)) ?_
              refine XT.q rfl rfl (Quiet.guardT rfl rfl fun g176 p176 => Q.move rfl) ?_
              refine XT.q rfl rfl (Quiet.guardT rfl rfl fun g177 p177 => Q.eql (lzv g177 rfl) (lzv g177 rfl)) ?_
              refine XT.q rfl rfl (Q.and rfl (fun hp => lzv hp rfl)) ?_
              refine XT.q rfl rfl (Q.move rfl) ?_
              refine XT.q rfl rfl (Quiet.guardT rfl rfl fun g180 p180 => Q.move rfl) ?_
              refine XT.q rfl rfl (Quiet.guardT rfl rfl fun g181 p181 => Q.len (lzv g181 rfl)) ?_
              refine XT.q rfl rfl (Quiet.guardT rfl rfl fun g182 p182 => Q.eql (lzv g182 rfl) rfl) ?_
              refine XT.q rfl rfl (Quiet.guardT rfl rfl fun g183 p183 => Q.move (lzv g183 rfl)) ?_
              refine XT.q rfl rfl (Quiet.guard2 rfl rfl fun g184a g184b => have p184a := bpT g184a; have p184b := bpF g184b; Q.move rfl) ?_
              refine XT.q rfl rfl (Quiet.guard2 rfl rfl fun g185a g185b => have p185a := bpT g185a; have p185b := bpF g185b; Q.move rfl) ?_
              refine XT.q rfl rfl (Quiet.guard2 rfl rfl fun g186a g186b => have p186a := bpT g186a; have p186b := bpF g186b; Q.len (lzv g186b (lzv g186a rfl))) ?_
              refine XT.q rfl rfl (Quiet.guard2 rfl rfl fun g187a g187b => have p187a := bpT g187a; have p187b := bpF g187b; Q.sub (lzv g187b (lzv g187a rfl)) rfl ⟨by omega, by omega⟩) ?_
              refine XT.q rfl rfl (Quiet.guard2 rfl rfl fun g188a g188b => have p188a := bpT g188a; have p188b := bpF g188b; Q.ix (lzv g188b (lzv g188a rfl)) (lzv g188b (lzv g188a rfl)) (by omega) (by omega)) ?_
              refine XT.q rfl rfl (Quiet.guard2 rfl rfl fun g189a g189b => have p189a := bpT g189a; have p189b := bpF g189b; Q.ldE (lzv g189b (lzv g189a rfl)) (by first | assumption | omega) rfl) ?_
              refine XT.q rfl rfl (Quiet.guard2 rfl rfl fun g190a g190b => have p190a := bpT g190a; have p190b := bpF g190b; Q.fieldAddr rfl) ?_
              refine XT.q rfl rfl (Quiet.guard2 rfl rfl fun g191a g191b => have p191a := bpT g191a; have p191b := bpF g191b; Q.ld (lzv g191b (lzv g191a rfl)) rfl) ?_
              refine XT.vg2 rfl rfl rfl rfl (fun g192a g192b => rfl) (fun g192a g192b => .c (lzv g192b (lzv g192a rfl)) (.c (lzv g192b (lzv g192a rfl)) .n)) (fun g192a g192b => have p192a := bpT g192a; have p192b := bpF g192b; VSpec.fn (P := Try.prog) Try.call37 rfl (by haveI := al (by omega); exact sameInts (us.getD ((us.length : Int) - 1).toNat default) ve K ke ((traceP b (powers l) f).getD ((us.length : Int) - 1).toNat default) r.energy)) ⟨inferInstance, ?_⟩ XT.stop
              refine XT.q rfl rfl (Quiet.guardT rfl rfl fun g193 p193 => Q.or (lzv g193 rfl) (fun hp => (lzv hp (lzv g193 rfl)))) ?_
              refine XT.q rfl rfl (Q.and rfl (fun hp => lzv hp rfl)) ?_
              refine XT.q rfl rfl (Q.move rfl) ?_
              refine XT.gcallT rfl rfl rfl rfl Try.call14 rfl (fun g196 => .n) rfl (fun g196 p196 => awake06) ⟨inferInstance, ?_⟩ XT.stop
              refine XT.q rfl rfl (Q.and rfl (fun hp => lzv hp rfl)) ?_
              refine XT.q rfl rfl (Q.assign rfl) ?_
              refine XT.done ?_
              refine XK.rt [] Try.func8 Try.results8 (.t rfl .n) ?_
              refine ⟨?_, rfl⟩
              have e1 : (decI (accI r.served (fun j => r.energy.getD j default - (b.bats.getD j default).energy) (b.bats.length)) (fun j => r.burnt.getD j default) (b.gens.length)) = 0 := by rw [decI_eq, accI_eq]; exact L3
              have e2 : (accI 0 (fun j => if r.dark < 0 ∨ (j : Int) < r.dark then (powers l).getD j default else 0) (cnt l l.length)) = r.served := by rw [accI_eq, cl, Int.zero_add]; exact L4
              rw [decide_eq_true e1, decide_eq_true e2, decide_eq_true (by omega), Bool.and_true, Bool.true_and, Bool.true_and]
              by_cases hz : us.length = 0
              · rw [decide_eq_true (by omega)]; rfl
              · rw [decide_eq_true (show (traceP b (powers l) f).getD ((us.length : Int) - 1).toNat default = r.energy by rw [show ((us.length : Int) - 1).toNat = endP b (powers l) f - 1 by omega]; exact tla (by omega)), Bool.or_true]; rfl
            · have _t9 := True.intro
              refine XK.skip ?_
              refine XK.seq ?_
              refine XK.drawn [0, 1, 2, 3, 4, 5, 6, 7, 8, 9, 10, 11, 12, 13, 14, 15, 16, 17, 18, 19, 20, 21, 22, 23, 24, 25, 26, 28, 29, 30, 32, 33] [b10] [ho] (.q 0 (.q 1 (.q 2 (.q 3 (.q 4 (.q 5 (.q 6 (.q 7 (.q 8 (.q 9 (.q 10 (.q 11 (.q 12 (.q 13 (.q 14 (.q 15 (.q 16 (.q 17 (.q 18 (.q 19 (.q 20 (.q 21 (.q 22 (.q 23 (.q 24 (.q 25 (.q 26 (.br 27 true (.q 28 (.q 29 (.q 30 (.br 31 true (.q 32 (.q 33 .done)) .stop)))) .stop)))))))))))))))))))))))))))) Try.mixed rfl (by kernel_rfl) ?_
              refine XT.q rfl rfl (Q.move rfl) ?_
              refine XT.q rfl rfl (Q.eql rfl rfl) ?_
              refine XT.q rfl rfl (Q.move rfl) ?_
              refine XT.q rfl rfl (Quiet.guardT rfl rfl fun g168 p168 => Q.move rfl) ?_
              refine XT.q rfl rfl (Quiet.guardT rfl rfl fun g169 p169 => Q.fieldAddr rfl) ?_
              refine XT.q rfl rfl (Quiet.guardT rfl rfl fun g170 p170 => Q.ld (lzv g170 rfl) rfl) ?_
              refine XT.q rfl rfl (Quiet.guardT rfl rfl fun g171 p171 => Q.eql (lzv g171 rfl) (lzv g171 rfl)) ?_
              refine XT.q rfl rfl (Q.and rfl (fun hp => lzv hp rfl)) ?_
              refine XT.q rfl rfl (Q.move rfl) ?_
              refine XT.q rfl rfl (Quiet.guardT rfl rfl fun g174 p174 => Q.move rfl) ?_
              refine XT.q rfl rfl (Quiet.guardT rfl rfl fun g175 p175 => Q.len (lzv g175 rfl)) ?_
              refine XT.q rfl rfl (Quiet.guardT rfl rfl fun g176 p176 => Q.move rfl) ?_
              refine XT.q rfl rfl (Quiet.guardT rfl rfl fun g177 p177 => Q.eql (lzv g177 rfl) (lzv g177 rfl)) ?_
              refine XT.q rfl rfl (Q.and rfl (fun hp => lzv hp rfl)) ?_
              refine XT.q rfl rfl (Q.move rfl) ?_
              refine XT.q rfl rfl (Quiet.guardT rfl rfl fun g180 p180 => Q.move rfl) ?_
              refine XT.q rfl rfl (Quiet.guardT rfl rfl fun g181 p181 => Q.len (lzv g181 rfl)) ?_
              refine XT.q rfl rfl (Quiet.guardT rfl rfl fun g182 p182 => Q.eql (lzv g182 rfl) rfl) ?_
              refine XT.q rfl rfl (Quiet.guardT rfl rfl fun g183 p183 => Q.move (lzv g183 rfl)) ?_
              refine XT.q rfl rfl (Quiet.guard2 rfl rfl fun g184a g184b => have p184a := bpT g184a; have p184b := bpF g184b; Q.move rfl) ?_
              refine XT.q rfl rfl (Quiet.guard2 rfl rfl fun g185a g185b => have p185a := bpT g185a; have p185b := bpF g185b; Q.move rfl) ?_
              refine XT.q rfl rfl (Quiet.guard2 rfl rfl fun g186a g186b => have p186a := bpT g186a; have p186b := bpF g186b; Q.len (lzv g186b (lzv g186a rfl))) ?_
              refine XT.q rfl rfl (Quiet.guard2 rfl rfl fun g187a g187b => have p187a := bpT g187a; have p187b := bpF g187b; Q.sub (lzv g187b (lzv g187a rfl)) rfl ⟨by omega, by omega⟩) ?_
              refine XT.q rfl rfl (Quiet.guard2 rfl rfl fun g188a g188b => have p188a := bpT g188a; have p188b := bpF g188b; Q.ix (lzv g188b (lzv g188a rfl)) (lzv g188b (lzv g188a rfl)) (by omega) (by omega)) ?_
              refine XT.q rfl rfl (Quiet.guard2 rfl rfl fun g189a g189b => have p189a := bpT g189a; have p189b := bpF g189b; Q.ldE (lzv g189b (lzv g189a rfl)) (by first | assumption | omega) rfl) ?_
              refine XT.q rfl rfl (Quiet.guard2 rfl rfl fun g190a g190b => have p190a := bpT g190a; have p190b := bpF g190b; Q.fieldAddr rfl) ?_
              refine XT.q rfl rfl (Quiet.guard2 rfl rfl fun g191a g191b => have p191a := bpT g191a; have p191b := bpF g191b; Q.ld (lzv g191b (lzv g191a rfl)) rfl) ?_
              refine XT.vg2 rfl rfl rfl rfl (fun g192a g192b => rfl) (fun g192a g192b => .c (lzv g192b (lzv g192a rfl)) (.c (lzv g192b (lzv g192a rfl)) .n)) (fun g192a g192b => have p192a := bpT g192a; have p192b := bpF g192b; VSpec.fn (P := Try.prog) Try.call37 rfl (by haveI := al (by omega); exact sameInts (us.getD ((us.length : Int) - 1).toNat default) ve K ke ((traceP b (powers l) f).getD ((us.length : Int) - 1).toNat default) r.energy)) ⟨inferInstance, ?_⟩ XT.stop
              refine XT.q rfl rfl (Quiet.guardT rfl rfl fun g193 p193 => Q.or (lzv g193 rfl) (fun hp => (lzv hp (lzv g193 rfl)))) ?_
              refine XT.q rfl rfl (Q.and rfl (fun hp => lzv hp rfl)) ?_
              refine XT.q rfl rfl (Q.move rfl) ?_
              refine XT.gcallT rfl rfl rfl rfl Try.call14 rfl (fun g196 => .n) rfl (fun g196 p196 => awake06) ⟨inferInstance, ?_⟩ XT.stop
              refine XT.q rfl rfl (Q.and rfl (fun hp => lzv hp rfl)) ?_
              refine XT.q rfl rfl (Q.assign rfl) ?_
              refine XT.done ?_
              refine XK.rt [] Try.func8 Try.results8 (.t rfl .n) ?_
              refine ⟨?_, rfl⟩
              have e1 : (decI (accI r.served (fun j => r.energy.getD j default - (b.bats.getD j default).energy) (b.bats.length)) (fun j => r.burnt.getD j default) (b.gens.length)) = 0 := by rw [decI_eq, accI_eq]; exact L3
              have e2 : (accI 0 (fun j => if r.dark < 0 ∨ (j : Int) < r.dark then (powers l).getD j default else 0) (cnt l l.length)) = r.served := by rw [accI_eq, cl, Int.zero_add]; exact L4
              rw [decide_eq_true e1, decide_eq_true e2, decide_eq_true (by omega), Bool.and_true, Bool.true_and, Bool.true_and]
              by_cases hz : us.length = 0
              · rw [decide_eq_true (by omega)]; rfl
              · rw [decide_eq_true (show (traceP b (powers l) f).getD ((us.length : Int) - 1).toNat default = r.energy by rw [show ((us.length : Int) - 1).toNat = endP b (powers l) f - 1 by omega]; exact tla (by omega)), Bool.or_true]; rfl
end Go.X
