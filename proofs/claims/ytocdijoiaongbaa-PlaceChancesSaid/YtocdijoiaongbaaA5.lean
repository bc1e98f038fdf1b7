/- A part of the proof: a small program logic, plain laws and contracts of functions, each proved by a walk through its operations. No condition but those that stand in each theorem. -/
import Derived.Test.YtocdijoiaongbaaA4
set_option linter.unusedSimpArgs false
set_option linter.unusedVariables false
set_option maxRecDepth 20000
namespace Go.X
open Go.Proofs
set_option maxHeartbeats 2000000 in
theorem rFill_spec (l : List (Value × PJob)) (vl : Value) (hl K : PHeap) [jl : Arr vl encPJ 6 hl l] (aL : JobsK l K) (limit : Int) (m : PRat) : Spec Try.prog 52 #[vl, .int .i64 limit, .agg #[.int .i64 m.n, .int .i64 m.d]] [] [hl, K] (fun v hs => v = .tuple #[.int .i64 (fillG (l.map Prod.snd) limit m).1, .int .i64 (fillG (l.map Prod.snd) limit m).2] ∧ hs = []) := by
  have ll := jl.le
  have lm : (l.map Prod.snd).length = l.length := List.length_map ..
  refine Spec.intro (fn := Try.f52) (N := 38) Try.func52 rfl Try.ntmps52 rfl fun B => ?_
  refine XK.seq ?_
  refine XK.region rfl ?_
  refine XO.box rfl fun b5 => ?_
  refine XO.q (Q.assign rfl) ?_
  refine XO.q (Q.assign rfl) ?_
  refine XO.done ?_
  refine XK.seq ?_
  refine XK.seq ?_
  refine XK.region rfl ?_
  refine XO.q (Q.move rfl) ?_
  refine XO.call Try.call71 rfl rfl rfl (rlisted_spec l vl hl K aL) fun v13 s13 R13 => ?_
  obtain ⟨rfl, rfl⟩ := R13
  dsimp only [List.cons_append, List.nil_append]
  refine XO.q (Q.move rfl) ?_
  refine XO.q (Q.extract rfl rfl) ?_
  refine XO.q (Q.extract rfl rfl) ?_
  refine XO.q (Q.assign rfl) ?_
  refine XO.q (Q.assign rfl) ?_
  refine XO.done ?_
  refine XK.seq ?_
  refine XK.region rfl ?_
  refine XO.q (Q.move rfl) ?_
  refine XO.q (Q.neq rfl rfl) ?_
  refine XO.done ?_
  refine XK.if rfl (fun c0 => ?_) (fun c0 => ?_)
  · have _t0 := True.intro
    refine XK.seq ?_
    refine XK.region rfl ?_
    refine XO.q (Q.move rfl) ?_
    refine XO.q (Q.assign rfl) ?_
    refine XO.q (Q.assign rfl) ?_
    refine XO.done ?_
    refine XK.rt [] Try.func52 Try.results52 (.t rfl (.t rfl .n)) ?_
    exact ⟨by rw [fillG, if_pos c0], rfl⟩
  · have _t0 := True.intro
    have ok := listed_ok.1 (Decidable.of_not_not c0)
    have few := ok.few
    rw [lm] at few
    refine XK.skip ?_
    refine XK.seq ?_
    refine XK.seq ?_
    refine XK.region rfl ?_
    refine XO.q (Q.ldA [_, _] rfl rfl rfl) ?_
    refine XO.call Try.call76 rfl rfl rfl (chanceRef_spec m) fun v20 s20 R20 => ?_
    obtain ⟨rfl, rfl⟩ := R20
    dsimp only [List.cons_append, List.nil_append]
    refine XO.q (Q.not rfl) ?_
    refine XO.done ?_
    refine XK.if rfl (fun c1 => ?_) (fun c1 => ?_)
    · have _t1 := True.intro
      refine XK.seq ?_
      refine XK.region rfl ?_
      refine XO.q (Q.assign rfl) ?_
      refine XO.q (Q.assign rfl) ?_
      refine XO.done ?_
      refine XK.rt [] Try.func52 Try.results52 (.t rfl (.t rfl .n)) ?_
      exact ⟨by rw [fillG, if_neg c0, if_pos c1], rfl⟩
    · have _t1 := True.intro
      have hm : chanceR m = true := Decidable.of_not_not c1
      refine XK.skip ?_
      refine XK.seq ?_
      refine XK.region rfl ?_
      refine XO.q (Q.assign rfl) ?_
      refine XO.done ?_
      refine XK.seq ?_
      refine XK.block ?_
      refine XK.while (X := Nat) [10, 22, 23, 24, 25, 26, 27, 28, 29, 30, 31, 32, 33, 34, 35, 36] (fun n => [(10, some (.int .i64 (n : Nat)))]) (fun n => []) (fun n => n ≤ l.length ∧ fillTo (l.map Prod.snd) limit m (l.map Prod.snd).length 0 = fillTo (l.map Prod.snd) limit m (l.length - n) n) (fun n => l.length - n) (0) [] rfl ⟨by omega, by rw [lm]; rfl⟩ (.c rfl (.base 0 rfl rfl)) ?_
      rintro n ⟨hn, hf⟩ ih0
      dsimp only [List.cons_append, List.nil_append] at ih0 ⊢
      refine XK.seq ?_
      refine XK.seq ?_
      refine XK.drawn [0, 1, 2, 3, 4, 5, 6, 7, 8, 9, 10, 12] [b5] [] (.q 0 (.q 1 (.q 2 (.q 3 (.q 4 (.q 5 (.q 6 (.q 7 (.q 8 (.q 9 (.q 10 (.br 11 true (.q 12 .done) .stop)))))))))))) Try.mixed rfl (by kernel_rfl) ?_
      refine XT.q rfl rfl (Q.move rfl) ?_
      refine XT.q rfl rfl (Q.move rfl) ?_
      refine XT.q rfl rfl (Q.len rfl) ?_
      refine XT.q rfl rfl (Q.lss rfl rfl) ?_
      rcases hb25 : decide ((n : Int) < (l.length : Int)) with _ | _
      · have _ts := True.intro
        refine XT.q rfl rfl (Q.move rfl) ?_
        refine XT.q rfl rfl (Quiet.off rfl rfl (by decide)) ?_
        refine XT.q rfl rfl (Quiet.off rfl rfl (by decide)) ?_
        refine XT.q rfl rfl (Quiet.off rfl rfl (by decide)) ?_
        try rw [show ((n : Nat) : Int) + 1 = ((n + 1 : Nat) : Int) from rfl]
        refine XT.q rfl rfl (Quiet.off rfl rfl (by decide)) ?_
        refine XT.q rfl rfl (Quiet.off rfl rfl (by decide)) ?_
        refine XT.q rfl rfl (Quiet.off rfl rfl (by decide)) ?_
        refine XT.qs rfl rfl (Quiet.off rfl rfl (by decide)) ⟨inferInstance, ?_⟩ XT.stop
        refine XT.q rfl rfl (Q.and (b := false) (b2 := false) rfl (fun hp => by cases hp)) ?_
        refine XT.done ?_
        refine XK.if rfl (fun c2 => ?_) (fun c2 => ?_)
        · have _t2 := True.intro
          simp at c2
        · have _t2 := True.intro
          have hnl : n = l.length := by rw [decide_eq_false_iff_not] at hb25; omega
          have e1 : fillTo (l.map Prod.snd) limit m (l.length - n) n = n := by rw [show l.length - n = 0 by omega]; rfl
          refine XK.exit rfl ?_
          refine XK.seq ?_
          refine XK.region rfl ?_
          refine XO.q (Q.move rfl) ?_
          refine XO.q (Q.assign rfl) ?_
          refine XO.q (Q.assign rfl) ?_
          refine XO.done ?_
          refine XK.rt [] Try.func52 Try.results52 (.t rfl (.t rfl .n)) ?_
          exact ⟨by rw [fillG, if_neg c0, if_neg c1, hf, e1], rfl⟩
      · have _ts := True.intro
        have hlt : n < l.length := by rw [decide_eq_true_eq] at hb25; omega
        refine XT.q rfl rfl (Q.move rfl) ?_
        refine XT.q rfl rfl (Quiet.guardT rfl rfl fun g27 p27 => Q.move rfl) ?_
        refine XT.q rfl rfl (Quiet.guardT rfl rfl fun g28 p28 => Q.move rfl) ?_
        refine XT.q rfl rfl (Quiet.guardT rfl rfl fun g29 p29 => Q.add (lzv rfl rfl) rfl ⟨by omega, by omega⟩) ?_
        try rw [show ((n : Nat) : Int) + 1 = ((n + 1 : Nat) : Int) from rfl]
        refine XT.q rfl rfl (Quiet.guardT rfl rfl fun g30 p30 => Q.cut (i := 0) (j := n + 1) (lzv rfl rfl) .n (.s (lzv rfl rfl) (by omega)) (by omega) (by omega)) ?_
        refine XT.q rfl rfl (Quiet.guardT rfl rfl fun g31 p31 => Q.move rfl) ?_
        refine XT.q rfl rfl (Quiet.guardT rfl rfl fun g32 p32 => Q.ldA [_, _] rfl rfl rfl) ?_
        refine XT.callS rfl rfl rfl rfl rfl Try.call78 rfl (.c (lzv rfl rfl) (.c (lzv rfl rfl) (.c (lzv rfl rfl) .n))) rfl (by haveI := Arr.cut jl (i := 0) (j := n + 1) (by omega) (by omega); exact rare_spec ((l.drop 0).take ((n + 1) - 0)) (cutv vl 6 0 (n + 1)) hl K (aL.cut (by omega)) (by rw [cut_map]; exact ok.take (n + 1)) limit m hm) (fun v33 s33 R33 => ?_) XT.stop
        obtain ⟨rfl, rfl⟩ := R33
        dsimp only [List.cons_append, List.nil_append]
        refine ⟨inferInstance, ?_⟩
        rw [cut_map]
        refine XT.q rfl rfl (Q.and rfl (fun _ => rfl)) ?_
        refine XT.done ?_
        refine XK.if rfl (fun c3 => ?_) (fun c3 => ?_)
        · have _t3 := True.intro
          have hlt : n < l.length := by rw [decide_eq_true_eq] at hb25; omega
          have e1 : fillTo (l.map Prod.snd) limit m (l.length - n) n = fillTo (l.map Prod.snd) limit m (l.length - (n + 1)) (n + 1) := by rw [show l.length - n = (l.length - (n + 1)) + 1 by omega, fillTo, if_pos (show fillB (l.map Prod.snd) limit m (n + 1) = true by simpa [fillB] using c3)]
          refine XK.skip ?_
          refine XK.block ?_
          refine XK.region rfl ?_
          refine XO.q (Q.move rfl) ?_
          refine XO.q (Q.add rfl rfl ⟨by omega, by omega⟩) ?_
          refine XO.q (Q.assign rfl) ?_
          refine XO.done ?_
          refine XK.inBlock ?_
          exact ih0 (n + 1) _ _ ⟨by omega, by rw [hf, e1]⟩ (by first | omega | (dsimp only; omega)) (.c rfl (.base 33 rfl rfl)) inferInstance
        · have _t3 := True.intro
          have hlt : n < l.length := by rw [decide_eq_true_eq] at hb25; omega
          have e1 : fillTo (l.map Prod.snd) limit m (l.length - n) n = n := by rw [show l.length - n = (l.length - n - 1) + 1 by omega, fillTo, if_neg (show ¬ fillB (l.map Prod.snd) limit m (n + 1) = true by simpa [fillB] using c3)]
          refine XK.exit rfl ?_
          refine XK.seq ?_
          refine XK.region rfl ?_
          refine XO.q (Q.move rfl) ?_
          refine XO.q (Q.assign rfl) ?_
          refine XO.q (Q.assign rfl) ?_
          refine XO.done ?_
          refine XK.rt [] Try.func52 Try.results52 (.t rfl (.t rfl .n)) ?_
          exact ⟨by rw [fillG, if_neg c0, if_neg c1, hf, e1], rfl⟩
set_option maxHeartbeats 1000000 in
theorem rSums_spec (l : List (Value × PJob)) (vl : Value) (hl K : PHeap) [jl : Arr vl encPJ 6 hl l] (aL : JobsK l K) : Spec Try.prog 46 #[vl] [] [hl, K] (fun v hs => ∃ vo ko, v = .tuple #[vo, .int .i64 (sumsG (l.map Prod.snd)).2.1, .int .i64 (sumsG (l.map Prod.snd)).2.2] ∧ hs = [ko] ∧ OArr vo encDraw 2 108 ko (sumsG (l.map Prod.snd)).1) := by
  have nD : OArr (.slice none 0 0) encDraw 2 108 emp ([] : List PDraw) := OArr.nil (fun _ => rfl)
  refine Spec.intro (fn := Try.f46) (N := 42) Try.func46 rfl Try.ntmps46 rfl fun B => ?_
  refine XK.seq ?_
  refine XK.region rfl ?_
  refine XO.q (Q.assign rfl) ?_
  refine XO.q (Q.assign rfl) ?_
  refine XO.q (Q.assign rfl) ?_
  refine XO.done ?_
  refine XK.seq ?_
  refine XK.region rfl ?_
  refine XO.q (Q.move rfl) ?_
  refine XO.call Try.call71 rfl rfl rfl (rlisted_spec l vl hl K aL) fun v12 s12 R12 => ?_
  obtain ⟨rfl, rfl⟩ := R12
  dsimp only [List.cons_append, List.nil_append]
  refine XO.q (Q.move rfl) ?_
  refine XO.q (Q.extract rfl rfl) ?_
  refine XO.q (Q.extract rfl rfl) ?_
  refine XO.q (Q.assign rfl) ?_
  refine XO.q (Q.assign rfl) ?_
  refine XO.done ?_
  refine XK.seq ?_
  refine XK.seq ?_
  refine XK.region rfl ?_
  refine XO.q (Q.move rfl) ?_
  refine XO.q (Q.neq rfl rfl) ?_
  refine XO.done ?_
  refine XK.if rfl (fun c0 => ?_) (fun c0 => ?_)
  · have _t0 := True.intro
    refine XK.seq ?_
    refine XK.region rfl ?_
    refine XO.q (Q.move rfl) ?_
    refine XO.q (Q.assign rfl) ?_
    refine XO.q (Q.assign rfl) ?_
    refine XO.q (Q.assign rfl) ?_
    refine XO.done ?_
    refine XK.rt [emp] Try.func46 Try.results46 (.t rfl (.t rfl (.t rfl .n))) ?_
    have hz : (sumsG (l.map Prod.snd)) = ([], 0, (listedG (l.map Prod.snd)).2) := by rw [sumsG, if_pos c0]
    rw [hz]
    exact ⟨.slice none 0 0, emp, rfl, rfl, nD⟩
  · have _t0 := True.intro
    have ok := listed_ok.1 (Decidable.of_not_not c0)
    refine XK.skip ?_
    refine XK.seq ?_
    refine XK.region rfl ?_
    refine XO.q (Q.assign rfl) ?_
    refine XO.done ?_
    refine XK.seq ?_
    refine XK.region rfl ?_
    refine XO.q (Q.move rfl) ?_
    refine XO.call Try.call72 rfl rfl rfl (counts_spec l vl hl K aL ok) fun v19 s19 R19 => ?_
    obtain ⟨kc, CC, rfl, OC, hC, hlC⟩ := R19
    dsimp only [List.cons_append, List.nil_append]
    refine XO.q (Q.assign rfl) ?_
    refine XO.done ?_
    refine XK.seq ?_
    refine XK.seq ?_
    refine XK.region rfl ?_
    refine XO.q (Q.assign rfl) ?_
    refine XO.done ?_
    refine XK.block ?_
    refine XK.while (X := Nat × Value × PHeap) [7, 9, 20, 21, 22, 23, 24, 25, 26, 27, 28, 29, 30, 31, 32, 33, 34, 35, 36, 37, 38, 39] (fun ⟨i, vo, ko⟩ => [(9, some (.int .i64 (i : Nat))), (7, some (vo))]) (fun ⟨i, vo, ko⟩ => [ko]) (fun ⟨i, vo, ko⟩ => i ≤ CC.length ∧ OArr vo encDraw 2 108 ko (sumC CC i)) (fun ⟨i, vo, ko⟩ => CC.length - i) (0, .slice none 0 0, emp) [emp] rfl ⟨by omega, nD⟩ (.c rfl (.c rfl (.base 0 rfl rfl))) ?_
    rintro ⟨i, vo, ko⟩ ⟨hi, OV⟩ ih0
    dsimp only [List.cons_append, List.nil_append] at ih0 ⊢
    refine XK.seq ?_
    refine XK.seq ?_
    refine XK.region rfl ?_
    refine XO.q (Q.move rfl) ?_
    refine XO.q (Q.move rfl) ?_
    refine XO.len rfl fun l22 => ?_
    refine XO.q (Q.lss rfl rfl) ?_
    refine XO.done ?_
    refine XK.if rfl (fun c1 => ?_) (fun c1 => ?_)
    · have _t1 := True.intro
      refine XK.skip ?_
      refine XK.seq ?_
      refine XK.block ?_
      refine XK.seq ?_
      refine XK.region rfl ?_
      refine XO.q (Q.move rfl) ?_
      refine XO.q (Q.move rfl) ?_
      refine XO.ix rfl rfl (by omega) (by omega) fun i28 => ?_
      refine XO.q (Q.ldE rfl (by first | assumption | omega) rfl) ?_
      refine XO.q (Q.gtr rfl rfl) ?_
      refine XO.done ?_
      refine XK.if rfl (fun c2 => ?_) (fun c2 => ?_)
      · have _t2 := True.intro
        have e1 : sumC CC (i + 1) = sumC CC i ++ [⟨(i : Int), CC.getD i default⟩] := by rw [sumC, if_pos c2]
        refine XK.region rfl ?_
        refine XO.q (Q.move rfl) ?_
        refine XO.q (Q.move rfl) ?_
        refine XO.q (Q.move rfl) ?_
        refine XO.q (Q.move rfl) ?_
        refine XO.ix rfl rfl (by omega) (by omega) fun i35 => ?_
        refine XO.q (Q.ldE rfl (by first | assumption | omega) rfl) ?_
        refine XO.q (Q.build [_, _] (.c 0 1 rfl rfl rfl (.c 1 1 rfl rfl rfl (.n _)))) ?_
        refine XO.lit [_, _] [_, _] [⟨(i : Int), CC.getD i default⟩] encDraw (by rfl) (by rfl) rfl (by rfl) (by exact .c 0 2 rfl rfl rfl (.n _)) (fun _ => rfl) (by rfl) rfl (by infer_instance) rfl fun v38 h38 O38 => ?_
        refine XO.append rfl rfl rfl rfl (by have := sumC_len CC i; simp only [List.length_cons, List.length_nil]; omega) fun v39 h39 O39 => ?_
        refine XO.q (Q.assign rfl) ?_
        refine XO.done ?_
        refine XK.inBlock ?_
        refine XK.region rfl ?_
        refine XO.q (Q.move rfl) ?_
        refine XO.q (Q.add rfl rfl ⟨by omega, by omega⟩) ?_
        refine XO.q (Q.assign rfl) ?_
        refine XO.done ?_
        exact ih0 (i + 1, v39, h39) _ _ ⟨by dsimp only; omega, by dsimp only; rw [e1]; exact O39⟩ (by first | omega | (dsimp only; omega)) (.c rfl (.c rfl (.base 46 rfl rfl))) inferInstance
      · have _t2 := True.intro
        have e1 : sumC CC (i + 1) = sumC CC i := by rw [sumC, if_neg c2, List.append_nil]
        refine XK.skip ?_
        refine XK.inBlock ?_
        refine XK.region rfl ?_
        refine XO.q (Q.move rfl) ?_
        refine XO.q (Q.add rfl rfl ⟨by omega, by omega⟩) ?_
        refine XO.q (Q.assign rfl) ?_
        refine XO.done ?_
        exact ih0 (i + 1, vo, ko) _ _ ⟨by dsimp only; omega, by dsimp only; rw [e1]; exact OV⟩ (by first | omega | (dsimp only; omega)) (.c rfl (.c rfl (.base 36 rfl rfl))) inferInstance
    · have _t1 := True.intro
      have hin : i = CC.length := by omega
      subst hin
      rw [sumC_all hC] at OV
      refine XK.exit rfl ?_
      refine XK.seq ?_
      refine XK.region rfl ?_
      refine XO.q (Q.move rfl) ?_
      refine XO.q (Q.move rfl) ?_
      refine XO.q (Q.assign rfl) ?_
      refine XO.q (Q.assign rfl) ?_
      refine XO.q (Q.assign rfl) ?_
      refine XO.done ?_
      refine XK.rt [ko] Try.func46 Try.results46 (.t rfl (.t rfl (.t rfl .n))) ?_
      have hz : (sumsG (l.map Prod.snd)) = (sumsL (combos (l.map Prod.snd)), (listedG (l.map Prod.snd)).1, 0) := by rw [sumsG, if_neg c0]
      rw [hz]
      exact ⟨vo, ko, rfl, rfl, OV⟩
theorem draw_eqR (x y : PDraw) : (decide (x.power = y.power) && (decide (x.count = y.count) && true)) = decide (x = y) := by
  cases x; cases y
  rw [Bool.eq_iff_iff]
  simp
theorem sameDraw (x y : PDraw) : Spec Try.prog 48 #[.agg #[.int .i64 x.power, .int .i64 x.count], .agg #[.int .i64 y.power, .int .i64 y.count]] [] [] (fun v hs => v = .bool (decide (x = y)) ∧ hs = []) := by
  refine Spec.intro (fn := Try.f48) (N := 8) Try.func48 rfl Try.ntmps48 rfl fun B => ?_
  refine XK.seq ?_
  refine XK.region rfl ?_
  refine XO.box rfl fun b2 => ?_
  refine XO.box rfl fun b3 => ?_
  refine XO.q (Q.assign rfl) ?_
  refine XO.done ?_
  refine XK.seq ?_
  refine XK.region rfl ?_
  refine XO.q (Q.ldA [_, _] rfl rfl rfl) ?_
  refine XO.q (Q.ldA [_, _] rfl rfl rfl) ?_
  refine XO.q (Q.eqlS (us := [_, _]) (vs := [_, _]) rfl rfl inferInstance (by kernel_rfl) (by kernel_rfl) (.c rfl inferInstance inferInstance rfl rfl (.c rfl inferInstance inferInstance rfl rfl .n))) ?_
  rw [draw_eqR]
  refine XO.q (Q.assign rfl) ?_
  refine XO.done ?_
  refine XK.rt [] Try.func48 Try.results48 (.t rfl .n) ?_
  exact ⟨rfl, rfl⟩
theorem equalDF (v1 v2 : Value) (h1 h2 : PHeap) (xs ys : List PDraw) [s1 : Arr v1 encDraw 2 h1 xs] [s2 : Arr v2 encDraw 2 h2 ys] :
    Spec Try.prog 47 #[v1, v2, .func (.func 48) #[] #[]] [] [h1, h2] (fun v hs => v = .bool (decide (xs = ys)) ∧ hs = []) := by
  have l1 := s1.le
  refine Spec.intro (fn := Try.f47) (N := 32) Try.func47 rfl Try.ntmps47 rfl fun B => ?_
  refine XK.seq ?_
  refine XK.region rfl ?_
  refine XO.q (Q.assign rfl) ?_
  refine XO.done ?_
  refine XK.seq ?_
  refine XK.seq ?_
  refine XK.region rfl ?_
  refine XO.q (Q.move rfl) ?_
  refine XO.len rfl fun l11 => ?_
  refine XO.q (Q.move rfl) ?_
  refine XO.len rfl fun l13 => ?_
  refine XO.q (Q.neq rfl rfl) ?_
  refine XO.done ?_
  refine XK.if rfl (fun c0 => ?_) (fun c0 => ?_)
  · have _t0 := True.intro
    refine XK.seq ?_
    refine XK.region rfl ?_
    refine XO.q (Q.assign rfl) ?_
    refine XO.done ?_
    refine XK.rt [] Try.func47 Try.results47 (.t rfl .n) ?_
    exact ⟨by rw [decide_eq_false (fun h => c0 (by rw [h]))], rfl⟩
  · have _t0 := True.intro
    refine XK.skip ?_
    refine XK.seq ?_
    refine XK.seq ?_
    refine XK.region rfl ?_
    refine XO.q (Q.move rfl) ?_
    refine XO.len rfl fun l16 => ?_
    refine XO.q (Q.move rfl) ?_
    refine XO.done ?_
    refine XK.block ?_
    refine XK.while (X := Nat) [6, 7, 8, 9, 17, 18, 19, 20, 21, 22, 23, 24, 25, 26, 27, 28, 29, 30, 31] (fun i => [(17, some (.int .i64 (i : Nat)))]) (fun i => []) (fun i => i ≤ xs.length ∧ xs.take i = ys.take i) (fun i => xs.length - i) (0) [] rfl ⟨by omega, rfl⟩ (.c rfl (.base 0 rfl rfl)) ?_
    rintro i ⟨hi, ht⟩ ih0
    dsimp only [List.cons_append, List.nil_append] at ih0 ⊢
    refine XK.seq ?_
    refine XK.region rfl ?_
    refine XO.q (Q.lss rfl rfl) ?_
    refine XO.done ?_
    refine XK.seq ?_
    refine XK.if rfl (fun c1 => ?_) (fun c1 => ?_)
    · have _t1 := True.intro
      refine XK.skip ?_
      refine XK.seq ?_
      refine XK.block ?_
      refine XK.seq ?_
      refine XK.region rfl ?_
      refine XO.q (Q.move rfl) ?_
      refine XO.ix rfl rfl (by omega) (by omega) fun i20 => ?_
      refine XO.q (Q.ldEA [_, _] rfl (by first | assumption | omega) rfl rfl) ?_
      refine XO.alloc fun b8 => ?_
      refine XO.q (Q.assign rfl) ?_
      refine XO.st rfl rfl rfl ?_
      refine XO.done ?_
      refine XK.seq ?_
      refine XK.region rfl ?_
      refine XO.q (Q.move rfl) ?_
      refine XO.q (Q.move rfl) ?_
      refine XO.ix rfl rfl (by omega) (by omega) fun i24 => ?_
      refine XO.q (Q.ldEA [_, _] rfl (by first | assumption | omega) rfl rfl) ?_
      refine XO.alloc fun b9 => ?_
      refine XO.st rfl rfl rfl ?_
      refine XO.done ?_
      refine XK.seq ?_
      refine XK.region rfl ?_
      refine XO.q (Q.move rfl) ?_
      refine XO.q (Q.ldA [_, _] rfl rfl rfl) ?_
      refine XO.q (Q.ldA [_, _] rfl rfl rfl) ?_
      refine XO.call Try.call48 rfl rfl rfl (sameDraw _ _) fun v29 s29 R29 => ?_
      obtain ⟨rfl, rfl⟩ := R29
      dsimp only [List.cons_append, List.nil_append]
      refine XO.q (Q.not rfl) ?_
      refine XO.done ?_
      refine XK.if rfl (fun c2 => ?_) (fun c2 => ?_)
      · have _t2 := True.intro
        refine XK.seq ?_
        refine XK.region rfl ?_
        refine XO.q (Q.assign rfl) ?_
        refine XO.done ?_
        refine XK.rt [] Try.func47 Try.results47 (.t rfl .n) ?_
        exact ⟨by rw [decide_eq_false (fun h => c2 (by rw [h]))], rfl⟩
      · have _t2 := True.intro
        refine XK.skip ?_
        refine XK.inBlock ?_
        refine XK.region rfl ?_
        refine XO.q (Q.add rfl rfl ⟨by omega, by omega⟩) ?_
        refine XO.q (Q.move rfl) ?_
        refine XO.done ?_
        exact ih0 (i + 1) _ _ ⟨by omega, take_step ht (by omega) (by omega) (by simpa using c2)⟩ (by first | omega | (dsimp only; omega)) (.c rfl (.base 38 rfl rfl)) inferInstance
    · have _t1 := True.intro
      refine XK.exit rfl ?_
      refine XK.seq ?_
      refine XK.region rfl ?_
      refine XO.q (Q.assign rfl) ?_
      refine XO.done ?_
      refine XK.rt [] Try.func47 Try.results47 (.t rfl .n) ?_
      exact ⟨by rw [decide_eq_true (take_all ht (by omega) (by omega))], rfl⟩
end Go.X

set_option linter.unusedSimpArgs false
set_option linter.unusedVariables false
set_option maxRecDepth 20000
namespace Go.X
open Go.Proofs
theorem cloneDr (v : Value) (h : PHeap) (xs : List PDraw) [s : Arr v encDraw 2 h xs] (hl : xs.length ≤ 68719476736) :
    Spec Try.prog 70 #[v] [] [h] (fun v' hs => ∃ h', hs = [h'] ∧ OArr v' encDraw 2 41 h' xs) := by
  refine Spec.intro (fn := Try.f70) (N := 8) Try.func70 rfl Try.ntmps70 rfl fun B => ?_
  refine XK.seq ?_
  refine XK.region rfl ?_
  refine XO.q (Q.assign rfl) ?_
  refine XO.done ?_
  refine XK.seq ?_
  refine XK.seq ?_
  refine XK.region rfl ?_
  refine XO.q (Q.move rfl) ?_
  refine XO.eqNil rfl fun z4 hz4 => ?_
  refine XO.done ?_
  refine XK.if rfl (fun c0 => ?_) (fun c0 => ?_)
  · have _t0 := True.intro
    refine XK.seq ?_
    refine XK.region rfl ?_
    refine XO.q (Q.assign rfl) ?_
    refine XO.done ?_
    refine XK.rt [emp] Try.func70 Try.results70 (.t rfl .n) ?_
    exact ⟨emp, rfl, by rw [(hz4 c0).1]; exact OArr.nil (fun _ => rfl)⟩
  · have _t0 := True.intro
    refine XK.skip ?_
    refine XK.seq ?_
    refine XK.region rfl ?_
    refine XO.lit [] [] [] encDraw (by rfl) (by rfl) rfl (by rfl) (by exact .n _) (fun _ => rfl) (by rfl) rfl (by infer_instance) rfl fun v5 h5 O5 => ?_
    refine XO.q (Q.move rfl) ?_
    refine XO.append rfl rfl rfl rfl (by first | omega | (simp; omega)) fun v7 h7 O7 => ?_
    refine XO.q (Q.assign rfl) ?_
    refine XO.done ?_
    refine XK.rt [h7] Try.func70 Try.results70 (.t rfl .n) ?_
    exact ⟨h7, rfl, O7⟩
theorem keptOne (j : PJob) (va vb : Value) (ha hb : PHeap) [ia : Arr va encDraw 2 ha j.draws] [ib : Arr vb encDraw 2 hb j.draws] : Spec Try.prog 80 #[.agg #[.int .i64 j.n0, .int .i64 j.n1, .int .i64 j.n2, va, .int .i64 j.group, .int .i64 j.worth], .agg #[.int .i64 j.n0, .int .i64 j.n1, .int .i64 j.n2, vb, .int .i64 j.group, .int .i64 j.worth]] [] [ha, hb] (fun v hs => v = .bool true ∧ hs = []) := by
  refine Spec.intro (fn := Try.f80) (N := 31) Try.func80 rfl Try.ntmps80 rfl fun B => ?_
  refine XK.seq ?_
  refine XK.region rfl ?_
  refine XO.box rfl fun b2 => ?_
  refine XO.box rfl fun b3 => ?_
  refine XO.q (Q.assign rfl) ?_
  refine XO.done ?_
  refine XK.seq ?_
  refine XK.region rfl ?_
  refine XO.q (Q.fieldAddr rfl) ?_
  refine XO.q (Q.ldA [_, _, _] rfl rfl rfl) ?_
  refine XO.q (Q.fieldAddr rfl) ?_
  refine XO.q (Q.ldA [_, _, _] rfl rfl rfl) ?_
  refine XO.q (Q.eqlT rfl rfl inferInstance inferInstance inferInstance inferInstance (by kernel_rfl)) ?_
  refine XO.q (Q.move rfl) ?_
  refine XO.q (Quiet.guardT rfl rfl fun g11 p11 => Q.fieldAddr rfl) ?_
  refine XO.q (Quiet.guardT rfl rfl fun g12 p12 => Q.ld (lzv rfl rfl) rfl) ?_
  refine XO.q (Quiet.guardT rfl rfl fun g13 p13 => Q.fieldAddr rfl) ?_
  refine XO.q (Quiet.guardT rfl rfl fun g14 p14 => Q.ld (lzv rfl rfl) rfl) ?_
  refine XO.q (Quiet.guardT rfl rfl fun g15 p15 => Q.eql (lzv rfl rfl) (lzv rfl rfl)) ?_
  rw [decide_eq_true (show j.group = j.group from rfl)]
  refine XO.q (Q.and rfl (fun hp => lzv hp rfl)) ?_
  refine XO.q (Q.move rfl) ?_
  refine XO.q (Quiet.guardT rfl rfl fun g18 p18 => Q.fieldAddr rfl) ?_
  refine XO.q (Quiet.guardT rfl rfl fun g19 p19 => Q.ld (lzv rfl rfl) rfl) ?_
  refine XO.q (Quiet.guardT rfl rfl fun g20 p20 => Q.fieldAddr rfl) ?_
  refine XO.q (Quiet.guardT rfl rfl fun g21 p21 => Q.ld (lzv rfl rfl) rfl) ?_
  refine XO.q (Quiet.guardT rfl rfl fun g22 p22 => Q.eql (lzv rfl rfl) (lzv rfl rfl)) ?_
  rw [decide_eq_true (show j.worth = j.worth from rfl)]
  refine XO.q (Q.and rfl (fun hp => lzv hp rfl)) ?_
  refine XO.q (Q.move rfl) ?_
  refine XO.q (Quiet.guardT rfl rfl fun g25 p25 => Q.fieldAddr rfl) ?_
  refine XO.q (Quiet.guardT rfl rfl fun g26 p26 => Q.ld (lzv rfl rfl) rfl) ?_
  refine XO.q (Quiet.guardT rfl rfl fun g27 p27 => Q.fieldAddr rfl) ?_
  refine XO.q (Quiet.guardT rfl rfl fun g28 p28 => Q.ld (lzv rfl rfl) rfl) ?_
  refine XO.callS rfl rfl rfl Try.call24 rfl (.c (lzv rfl rfl) (.c (lzv rfl rfl) .n)) rfl (equalD va vb ha hb j.draws j.draws) fun v29 s29 R29 => ?_
  obtain ⟨rfl, rfl⟩ := R29
  dsimp only [List.cons_append, List.nil_append]
  rw [decide_eq_true (show j.draws = j.draws from rfl)]
  refine XO.q (Q.and rfl (fun _ => rfl)) ?_
  refine XO.q (Q.assign rfl) ?_
  refine XO.done ?_
  refine XK.rt [] Try.func80 Try.results80 (.t rfl .n) ?_
  exact ⟨rfl, rfl⟩
theorem equalJF (a b : List (Value × PJob)) (va vb : Value) (ha hb Ka Kb : PHeap) [ia : Arr va encPJ 6 ha a] [ib : Arr vb encPJ 6 hb b] (ja : JobsK a Ka) (jb : JobsK b Kb) (same : a.map Prod.snd = b.map Prod.snd) : Spec Try.prog 79 #[va, vb, .func (.func 80) #[] #[]] [] [ha, hb, Ka, Kb] (fun v hs => v = .bool true ∧ hs = []) := by
  have l1 := ia.le
  have sl : a.length = b.length := by have := congrArg List.length same; rwa [List.length_map, List.length_map] at this
  refine Spec.intro (fn := Try.f79) (N := 32) Try.func79 rfl Try.ntmps79 rfl fun B => ?_
  refine XK.seq ?_
  refine XK.region rfl ?_
  refine XO.q (Q.assign rfl) ?_
  refine XO.done ?_
  refine XK.seq ?_
  refine XK.seq ?_
  refine XK.region rfl ?_
  refine XO.q (Q.move rfl) ?_
  refine XO.len rfl fun l11 => ?_
  refine XO.q (Q.move rfl) ?_
  refine XO.len rfl fun l13 => ?_
  refine XO.q (Q.neq rfl rfl) ?_
  refine XO.done ?_
  refine XK.if rfl (fun c0 => ?_) (fun c0 => ?_)
  · have _t0 := True.intro
    exact absurd c0 (by omega)
  · have _t0 := True.intro
    refine XK.skip ?_
    refine XK.seq ?_
    refine XK.seq ?_
    refine XK.region rfl ?_
    refine XO.q (Q.move rfl) ?_
    refine XO.len rfl fun l16 => ?_
    refine XO.q (Q.move rfl) ?_
    refine XO.done ?_
    refine XK.block ?_
    refine XK.while (X := Nat) [6, 7, 8, 9, 17, 18, 19, 20, 21, 22, 23, 24, 25, 26, 27, 28, 29, 30, 31] (fun i => [(17, some (.int .i64 (i : Nat)))]) (fun i => []) (fun i => i ≤ a.length) (fun i => a.length - i) (0) [] rfl (by omega) (.c rfl (.base 0 rfl rfl)) ?_
    rintro i hi ih0
    dsimp only [List.cons_append, List.nil_append] at ih0 ⊢
    refine XK.seq ?_
    refine XK.region rfl ?_
    refine XO.q (Q.lss rfl rfl) ?_
    refine XO.done ?_
    refine XK.seq ?_
    refine XK.if rfl (fun c1 => ?_) (fun c1 => ?_)
    · have _t1 := True.intro
      have eb : (b.getD i default).2 = (a.getD i default).2 := by rw [← map_snd_atP, ← same, map_snd_atP]
      have ai := ja i (by omega)
      have bi := jb i (by omega)
      rw [eb] at bi
      have bi0 := jb i (by omega)
      refine XK.skip ?_
      refine XK.seq ?_
      refine XK.block ?_
      refine XK.seq ?_
      refine XK.region rfl ?_
      refine XO.q (Q.move rfl) ?_
      refine XO.ix rfl rfl (by omega) (by omega) fun i20 => ?_
      refine XO.q (Q.ldEA [_, _, _, _, _, _] rfl (by first | assumption | omega) rfl rfl) ?_
      refine XO.alloc fun b8 => ?_
      refine XO.q (Q.assign rfl) ?_
      refine XO.st rfl rfl rfl ?_
      refine XO.done ?_
      refine XK.seq ?_
      refine XK.region rfl ?_
      refine XO.q (Q.move rfl) ?_
      refine XO.q (Q.move rfl) ?_
      refine XO.ix rfl rfl (by omega) (by omega) fun i24 => ?_
      refine XO.q (Q.ldEA [_, _, _, _, _, _] rfl (by first | assumption | omega) rfl rfl) ?_
      rw [eb]
      refine XO.alloc fun b9 => ?_
      refine XO.st rfl rfl rfl ?_
      refine XO.done ?_
      refine XK.seq ?_
      refine XK.region rfl ?_
      refine XO.q (Q.move rfl) ?_
      refine XO.q (Q.ldA [_, _, _, _, _, _] rfl rfl rfl) ?_
      refine XO.q (Q.ldA [_, _, _, _, _, _] rfl rfl rfl) ?_
      refine XO.call Try.call80 rfl rfl rfl ((by haveI := ai; haveI := bi; exact keptOne (a.getD i default).2 (a.getD i default).1 (b.getD i default).1 Ka Kb)) fun v29 s29 R29 => ?_
      obtain ⟨rfl, rfl⟩ := R29
      dsimp only [List.cons_append, List.nil_append]
      refine XO.q (Q.not rfl) ?_
      refine XO.done ?_
      refine XK.if rfl (fun c2 => ?_) (fun c2 => ?_)
      · have _t2 := True.intro
        simp at c2
      · have _t2 := True.intro
        refine XK.skip ?_
        refine XK.inBlock ?_
        refine XK.region rfl ?_
        refine XO.q (Q.add rfl rfl ⟨by omega, by omega⟩) ?_
        refine XO.q (Q.move rfl) ?_
        refine XO.done ?_
        exact ih0 (i + 1) _ _ (by omega) (by first | omega | (dsimp only; omega)) (.c rfl (.base 38 rfl rfl)) inferInstance
    · have _t1 := True.intro
      refine XK.exit rfl ?_
      refine XK.seq ?_
      refine XK.region rfl ?_
      refine XO.q (Q.assign rfl) ?_
      refine XO.done ?_
      refine XK.rt [] Try.func79 Try.results79 (.t rfl .n) ?_
      exact ⟨rfl, rfl⟩
theorem kept_spec (a b : List (Value × PJob)) (va vb : Value) (ha hb Ka Kb : PHeap) [ia : Arr va encPJ 6 ha a] [ib : Arr vb encPJ 6 hb b] (ja : JobsK a Ka) (jb : JobsK b Kb) (same : a.map Prod.snd = b.map Prod.snd) : Spec Try.prog 53 #[va, vb] [] [ha, hb, Ka, Kb] (fun v hs => v = .bool true ∧ hs = []) := by
  refine Spec.intro (fn := Try.f53) (N := 8) Try.func53 rfl Try.ntmps53 rfl fun B => ?_
  refine XK.seq ?_
  refine XK.region rfl ?_
  refine XO.q (Q.assign rfl) ?_
  refine XO.done ?_
  refine XK.seq ?_
  refine XK.region rfl ?_
  refine XO.q (Q.move rfl) ?_
  refine XO.q (Q.move rfl) ?_
  refine XO.call Try.call79 rfl rfl rfl (equalJF a b va vb ha hb Ka Kb ja jb same) fun v7 s7 R7 => ?_
  obtain ⟨rfl, rfl⟩ := R7
  dsimp only [List.cons_append, List.nil_append]
  refine XO.q (Q.assign rfl) ?_
  refine XO.done ?_
  refine XK.rt [] Try.func53 Try.results53 (.t rfl .n) ?_
  exact ⟨rfl, rfl⟩
theorem long1 (j : PJob) (vd : Value) (hd : PHeap) [id_ : Arr vd encDraw 2 hd j.draws] : Spec Try.prog 44 #[.agg #[.int .i64 j.n0, .int .i64 j.n1, .int .i64 j.n2, vd, .int .i64 j.group, .int .i64 j.worth]] [] [hd] (fun v hs => v = .bool (decide (12 < j.draws.length)) ∧ hs = []) := by
  refine Spec.intro (fn := Try.f44) (N := 7) Try.func44 rfl Try.ntmps44 rfl fun B => ?_
  refine XK.seq ?_
  refine XK.region rfl ?_
  refine XO.box rfl fun b1 => ?_
  refine XO.q (Q.assign rfl) ?_
  refine XO.done ?_
  refine XK.seq ?_
  refine XK.region rfl ?_
  refine XO.q (Q.fieldAddr rfl) ?_
  refine XO.q (Q.ld rfl rfl) ?_
  refine XO.len rfl fun l5 => ?_
  refine XO.q (Q.gtr rfl rfl) ?_
  refine XO.q (Q.assign rfl) ?_
  refine XO.done ?_
  refine XK.rt [] Try.func44 Try.results44 (.t rfl .n) ?_
  exact ⟨by congr 1; exact decide_eq_decide.2 (by omega), rfl⟩
def longG (l : List PJob) : Bool := decide (12 < l.length) || l.any fun j => decide (12 < j.draws.length)
theorem any_long (l : List (Value × PJob)) : l.any (fun x => decide (12 < x.2.draws.length)) = (l.map Prod.snd).any (fun j => decide (12 < j.draws.length)) := by rw [List.any_map]; rfl
theorem long_spec (l : List (Value × PJob)) (vl : Value) (hl K : PHeap) [jl : Arr vl encPJ 6 hl l] (aL : JobsK l K) : Spec Try.prog 19 #[vl] [] [hl, K] (fun v hs => v = .bool (longG (l.map Prod.snd)) ∧ hs = []) := by
  have lm : (l.map Prod.snd).length = l.length := List.length_map ..
  refine Spec.intro (fn := Try.f19) (N := 10) Try.func19 rfl Try.ntmps19 rfl fun B => ?_
  refine XK.seq ?_
  refine XK.region rfl ?_
  refine XO.q (Q.assign rfl) ?_
  refine XO.done ?_
  refine XK.seq ?_
  refine XK.region rfl ?_
  refine XO.q (Q.move rfl) ?_
  refine XO.len rfl fun l4 => ?_
  refine XO.q (Q.gtr rfl rfl) ?_
  refine XO.q (Q.move rfl) ?_
  refine XO.q (Quiet.guardF rfl rfl fun g7 p7 => Q.move rfl) ?_
  refine XO.gcallF rfl rfl Try.call43 rfl (fun g8 => .c (lzv g8 rfl) (.c rfl .n)) rfl (fun g8 p8 => containsFuncPJ vl hl l 44 [] [K] (fun x => decide (12 < x.2.draws.length)) Try.call44 (fun x hx => by haveI := aL.mem hx; exact long1 x.2 x.1 K)) ?_
  refine XO.q (Q.or rfl (fun hp => lzv hp rfl)) ?_
  refine XO.q (Q.assign rfl) ?_
  refine XO.done ?_
  refine XK.rt [] Try.func19 Try.results19 (.t rfl .n) ?_
  exact ⟨by rw [longG, lm, ← any_long]; congr 2; exact decide_eq_decide.2 (by omega), rfl⟩
end Go.X

set_option linter.unusedSimpArgs false
set_option linter.unusedVariables false
set_option maxRecDepth 20000
namespace Go.X
open Go.Proofs
theorem snocJ {l a : List (Value × PJob)} {i : Nat} {v : Value} (ea : a.map Prod.snd = ((l.map Prod.snd)).take i) (hi : i < l.length) : (a ++ [(v, (l.getD i default).2)]).map Prod.snd = ((l.map Prod.snd)).take (i + 1) := by
  rw [List.map_append, ea, take_snocP (by rw [List.length_map]; exact hi), map_snd_atP]; rfl
set_option maxHeartbeats 4000000 in
theorem jobs_spec (l : List (Value × PJob)) (vl : Value) (hl K : PHeap) [jl : Arr vl encPJ 6 hl l] (aL : JobsK l K) (few : l.length ≤ 1000) (sm : ∀ i, i < l.length → (l.getD i default).2.draws.length ≤ 1000) : Spec Try.prog 45 #[vl] [] [hl, K] (fun v hs => ∃ va vb ka kb Ka Kb a b, v = .tuple #[va, vb] ∧ hs = [ka, kb, Ka, Kb] ∧ OArr va encPJ 6 39 ka a ∧ OArr vb encPJ 6 127 kb b ∧ JobsK a Ka ∧ JobsK b Kb ∧ a.map Prod.snd = (l.map Prod.snd) ∧ b.map Prod.snd = (l.map Prod.snd)) := by
  have nP : OArr (.slice none 0 0) encPJ 6 39 emp ([] : List (Value × PJob)) := OArr.nil (fun _ => rfl)
  have nQ : OArr (.slice none 0 0) encPJ 6 127 emp ([] : List (Value × PJob)) := OArr.nil (fun _ => rfl)
  have nD : OArr (.slice none 0 0) encDraw 2 108 emp ([] : List PDraw) := OArr.nil (fun _ => rfl)
  refine Spec.intro (fn := Try.f45) (N := 53) Try.func45 rfl Try.ntmps45 rfl fun B => ?_
  refine XK.seq ?_
  refine XK.region rfl ?_
  refine XO.q (Q.assign rfl) ?_
  refine XO.q (Q.assign rfl) ?_
  refine XO.done ?_
  refine XK.seq ?_
  refine XK.region rfl ?_
  refine XO.q (Q.assign rfl) ?_
  refine XO.done ?_
  refine XK.seq ?_
  refine XK.region rfl ?_
  refine XO.q (Q.assign rfl) ?_
  refine XO.done ?_
  refine XK.seq ?_
  refine XK.seq ?_
  refine XK.region rfl ?_
  refine XO.q (Q.move rfl) ?_
  refine XO.len rfl fun l12 => ?_
  refine XO.q (Q.move rfl) ?_
  refine XO.done ?_
  refine XK.block ?_
  refine XK.while (X := Nat × Value × Value × PHeap × PHeap × PHeap × PHeap × List (Value × PJob) × List (Value × PJob)) [4, 5, 7, 8, 10, 13, 14, 15, 16, 17, 18, 19, 20, 21, 22, 23, 24, 25, 26, 27, 28, 29, 30, 31, 32, 33, 34, 35, 36, 37, 38, 39, 40, 41, 42, 43, 44, 45, 46, 47, 48, 49, 50] (fun ⟨i, va, vb, ka, kb, Ka, Kb, a, b⟩ => [(13, some (.int .i64 (i : Nat))), (4, some (va)), (5, some (vb))]) (fun ⟨i, va, vb, ka, kb, Ka, Kb, a, b⟩ => [ka, kb, Ka, Kb]) (fun ⟨i, va, vb, ka, kb, Ka, Kb, a, b⟩ => i ≤ l.length ∧ OArr va encPJ 6 39 ka a ∧ OArr vb encPJ 6 127 kb b ∧ JobsK a Ka ∧ JobsK b Kb ∧ a.map Prod.snd = (l.map Prod.snd).take i ∧ b.map Prod.snd = (l.map Prod.snd).take i) (fun ⟨i, va, vb, ka, kb, Ka, Kb, a, b⟩ => l.length - i) (0, .slice none 0 0, .slice none 0 0, emp, emp, emp, emp, [], []) [emp, emp, emp, emp] rfl ⟨by omega, nP, nQ, JobsK.nil _, JobsK.nil _, by rw [List.take_zero]; rfl, by rw [List.take_zero]; rfl⟩ (.c rfl (.c rfl (.c rfl (.base 0 rfl rfl)))) ?_
  rintro ⟨i, va, vb, ka, kb, Ka, Kb, a, b⟩ ⟨hi, OA, OB, JA, JB, ea, eb⟩ ih0
  dsimp only [List.cons_append, List.nil_append] at ih0 ⊢
  refine XK.seq ?_
  refine XK.region rfl ?_
  refine XO.q (Q.lss rfl rfl) ?_
  refine XO.done ?_
  refine XK.seq ?_
  refine XK.if rfl (fun c0 => ?_) (fun c0 => ?_)
  · have _t0 := True.intro
    have ai := aL i (by omega)
    have sd := sm i (by omega)
    refine XK.skip ?_
    refine XK.seq ?_
    refine XK.block ?_
    refine XK.seq ?_
    refine XK.region rfl ?_
    refine XO.ix rfl rfl (by omega) (by omega) fun i15 => ?_
    refine XO.q (Q.ldEA [_, _, _, _, _, _] rfl (by first | assumption | omega) rfl rfl) ?_
    refine XO.alloc fun b7 => ?_
    refine XO.st rfl rfl rfl ?_
    refine XO.done ?_
    refine XK.seq ?_
    refine XK.region rfl ?_
    refine XO.q (Q.fieldAddr rfl) ?_
    refine XO.q (Q.ldA [_, _, _] rfl rfl rfl) ?_
    refine XO.q (Q.fieldAddr rfl) ?_
    refine XO.q (Q.ld rfl rfl) ?_
    refine XO.q (Q.fieldAddr rfl) ?_
    refine XO.q (Q.ld rfl rfl) ?_
    refine XO.q (Q.build [_, _, _, _, _, _] (.c 0 3 rfl rfl rfl (.c 4 1 rfl rfl rfl (.c 5 1 rfl rfl rfl (.n _))))) ?_
    refine XO.alloc fun b8 => ?_
    refine XO.st rfl rfl rfl ?_
    refine XO.done ?_
    refine XK.seq ?_
    refine XK.seq ?_
    refine XK.region rfl ?_
    refine XO.q (Q.fieldAddr rfl) ?_
    refine XO.q (Q.ld rfl rfl) ?_
    refine XO.len rfl fun l26 => ?_
    refine XO.q (Q.move rfl) ?_
    refine XO.done ?_
    refine XK.block ?_
    refine XK.while (X := Nat × Value × PHeap) [10, 27, 28, 29, 30, 31, 32, 33, 34, 35, 36, 37] (fun ⟨q, vd, kd⟩ => [(27, some (.int .i64 (q : Nat)))]) (fun ⟨q, vd, kd⟩ => [blk b8 [.int .i64 (l.getD i default).2.n0, .int .i64 (l.getD i default).2.n1, .int .i64 (l.getD i default).2.n2, vd, .int .i64 (l.getD i default).2.group, .int .i64 (l.getD i default).2.worth] 127, kd]) (fun ⟨q, vd, kd⟩ => q ≤ (l.getD i default).2.draws.length ∧ OArr vd encDraw 2 108 kd ((l.getD i default).2.draws.take q)) (fun ⟨q, vd, kd⟩ => (l.getD i default).2.draws.length - q) (0, .slice none 0 0, emp) [blk b8 [.int .i64 (l.getD i default).2.n0, .int .i64 (l.getD i default).2.n1, .int .i64 (l.getD i default).2.n2, .slice none 0 0, .int .i64 (l.getD i default).2.group, .int .i64 (l.getD i default).2.worth] 127, emp] rfl ⟨by omega, by rw [List.take_zero]; exact nD⟩ (.c rfl (.base 0 rfl rfl)) ?_
    rintro ⟨q, vd, kd⟩ ⟨hq, OD⟩ ih1
    dsimp only [List.cons_append, List.nil_append] at ih1 ⊢
    refine XK.seq ?_
    refine XK.region rfl ?_
    refine XO.q (Q.lss rfl rfl) ?_
    refine XO.done ?_
    refine XK.seq ?_
    refine XK.if rfl (fun c1 => ?_) (fun c1 => ?_)
    · have _t1 := True.intro
      refine XK.skip ?_
      refine XK.seq ?_
      refine XK.block ?_
      refine XK.seq ?_
      refine XK.region rfl ?_
      refine XO.ix rfl rfl (by omega) (by omega) fun i29 => ?_
      refine XO.q (Q.ldEA [_, _] rfl (by first | assumption | omega) rfl rfl) ?_
      refine XO.alloc fun b10 => ?_
      refine XO.st rfl rfl rfl ?_
      refine XO.done ?_
      refine XK.region rfl ?_
      refine XO.q (Q.fieldAddr rfl) ?_
      refine XO.q (Q.ld rfl rfl) ?_
      refine XO.q (Q.ldA [_, _] rfl rfl rfl) ?_
      refine XO.lit [_, _] [_, _] [(l.getD i default).2.draws.getD q default] encDraw (by rfl) (by rfl) rfl (by rfl) (by exact .c 0 2 rfl rfl rfl (.n _)) (fun _ => rfl) (by rfl) rfl (by infer_instance) rfl fun v34 h34 O34 => ?_
      refine XO.append rfl rfl rfl rfl (by simp only [List.length_take, List.length_cons, List.length_nil]; omega) fun v35 h35 O35 => ?_
      refine XO.q (Q.fieldAddr rfl) ?_
      refine XO.st rfl rfl rfl ?_
      refine XO.done ?_
      refine XK.inBlock ?_
      refine XK.region rfl ?_
      refine XO.q (Q.add rfl rfl ⟨by omega, by omega⟩) ?_
      refine XO.q (Q.move rfl) ?_
      refine XO.done ?_
      exact ih1 (q + 1, v35, h35) _ _ ⟨by dsimp only; omega, by dsimp only; rw [take_snocP (by omega)]; exact O35⟩ (by first | omega | (dsimp only; omega)) (.c rfl (.base 25 rfl rfl)) inferInstance
    · have _t1 := True.intro
      have hq2 : q = (l.getD i default).2.draws.length := by omega
      subst hq2
      rw [List.take_length] at OD
      refine XK.exit rfl ?_
      refine XK.seq ?_
      refine XK.region rfl ?_
      refine XO.q (Q.fieldAddr rfl) ?_
      refine XO.q (Q.ld rfl rfl) ?_
      refine XO.call Try.call70 rfl rfl rfl (cloneDr (l.getD i default).1 K (l.getD i default).2.draws (by omega)) fun v40 s40 R40 => ?_
      obtain ⟨h40, rfl, O40⟩ := R40
      dsimp only [List.cons_append, List.nil_append]
      refine XO.cat Ka h40 fun la1 la2 => ?_
      refine XO.cat Kb kd fun lb1 lb2 => ?_
      refine XO.q (Q.fieldAddr rfl) ?_
      refine XO.st rfl rfl rfl ?_
      refine XO.done ?_
      refine XK.drawn [0, 1, 4, 5, 8, 9] [b7, b8] [] (.q 0 (.q 1 (.q 4 (.q 5 (.br 2 true (.br 3 true (.br 6 true (.br 7 true (.q 8 (.q 9 .done)) .stop) .stop) (.br 6 true (.br 3 true (.br 7 true (.q 8 (.q 9 .done)) .stop) .stop) .stop)) (.br 6 true (.br 2 true (.br 3 true (.br 7 true (.q 8 (.q 9 .done)) .stop) .stop) .stop) .stop)))))) Try.mixed rfl (by kernel_rfl) ?_
      refine XT.q rfl rfl (Q.move rfl) ?_
      refine XT.q rfl rfl (Q.ldA [_, _, _, _, _, _] rfl rfl rfl) ?_
      refine XT.q rfl rfl (Q.move rfl) ?_
      refine XT.q rfl rfl (Q.ldA [_, _, _, _, _, _] rfl rfl rfl) ?_
      refine XT.lit [_, _, _, _, _, _] [_, _, _, _, _, _] [(v40, (l.getD i default).2)] encPJ rfl rfl (by rfl) (by rfl) rfl (by rfl) (by exact .c 0 6 rfl rfl rfl (.n _)) (fun _ => rfl) (by rfl) rfl (by infer_instance) rfl (fun v44 h44 O44 => ⟨inferInstance, ?_⟩) ?_
      · skip
        refine XT.append rfl rfl rfl rfl rfl rfl (by have := congrArg List.length ea; rw [List.length_map, List.length_take] at this; simp only [List.length_cons, List.length_nil]; omega) (fun v45 h45 O45 => ⟨inferInstance, ?_⟩) ?_
        · skip
          refine XT.lit [_, _, _, _, _, _] [_, _, _, _, _, _] [(vd, (l.getD i default).2)] encPJ rfl rfl (by rfl) (by rfl) rfl (by rfl) (by exact .c 0 6 rfl rfl rfl (.n _)) (fun _ => rfl) (by rfl) rfl (by infer_instance) rfl (fun v48 h48 O48 => ⟨inferInstance, ?_⟩) XT.stop
          refine XT.append rfl rfl rfl rfl rfl rfl (by have := congrArg List.length eb; rw [List.length_map, List.length_take] at this; simp only [List.length_cons, List.length_nil]; omega) (fun v49 h49 O49 => ⟨inferInstance, ?_⟩) XT.stop
          refine XT.q rfl rfl (Q.assign rfl) ?_
          refine XT.q rfl rfl (Q.assign rfl) ?_
          refine XT.done ?_
          refine XK.inBlock ?_
          refine XK.region rfl ?_
          refine XO.q (Q.add rfl rfl ⟨by omega, by omega⟩) ?_
          refine XO.q (Q.move rfl) ?_
          refine XO.done ?_
          exact ih0 (i + 1, v45, v49, h45, h49, cat Ka h40, cat Kb kd, a ++ [(v40, (l.getD i default).2)], b ++ [(vd, (l.getD i default).2)]) _ _ ⟨by dsimp only; omega, O45, O49, by dsimp only; exact (JA.mono la1).snoc (Arr.le_heap (OArr.arr (s := O40)) la2), by dsimp only; exact (JB.mono lb1).snoc (Arr.le_heap (OArr.arr (s := OD)) lb2), by dsimp only; exact snocJ ea (by omega), by dsimp only; exact snocJ eb (by omega)⟩ (by first | omega | (dsimp only; omega)) (.c rfl (.c rfl (.c rfl (.base 92 rfl rfl)))) inferInstance
        · skip
          refine XT.lit [_, _, _, _, _, _] [_, _, _, _, _, _] [(vd, (l.getD i default).2)] encPJ rfl rfl (by rfl) (by rfl) rfl (by rfl) (by exact .c 0 6 rfl rfl rfl (.n _)) (fun _ => rfl) (by rfl) rfl (by infer_instance) rfl (fun v48 h48 O48 => ⟨inferInstance, ?_⟩) XT.stop
          refine XT.append rfl rfl rfl rfl rfl rfl (by have := congrArg List.length ea; rw [List.length_map, List.length_take] at this; simp only [List.length_cons, List.length_nil]; omega) (fun v45 h45 O45 => ⟨inferInstance, ?_⟩) XT.stop
          refine XT.append rfl rfl rfl rfl rfl rfl (by have := congrArg List.length eb; rw [List.length_map, List.length_take] at this; simp only [List.length_cons, List.length_nil]; omega) (fun v49 h49 O49 => ⟨inferInstance, ?_⟩) XT.stop
          refine XT.q rfl rfl (Q.assign rfl) ?_
          refine XT.q rfl rfl (Q.assign rfl) ?_
          refine XT.done ?_
          refine XK.inBlock ?_
          refine XK.region rfl ?_
          refine XO.q (Q.add rfl rfl ⟨by omega, by omega⟩) ?_
          refine XO.q (Q.move rfl) ?_
          refine XO.done ?_
          exact ih0 (i + 1, v45, v49, h45, h49, cat Ka h40, cat Kb kd, a ++ [(v40, (l.getD i default).2)], b ++ [(vd, (l.getD i default).2)]) _ _ ⟨by dsimp only; omega, O45, O49, by dsimp only; exact (JA.mono la1).snoc (Arr.le_heap (OArr.arr (s := O40)) la2), by dsimp only; exact (JB.mono lb1).snoc (Arr.le_heap (OArr.arr (s := OD)) lb2), by dsimp only; exact snocJ ea (by omega), by dsimp only; exact snocJ eb (by omega)⟩ (by first | omega | (dsimp only; omega)) (.c rfl (.c rfl (.c rfl (.base 92 rfl rfl)))) inferInstance
      · skip
        refine XT.lit [_, _, _, _, _, _] [_, _, _, _, _, _] [(vd, (l.getD i default).2)] encPJ rfl rfl (by rfl) (by rfl) rfl (by rfl) (by exact .c 0 6 rfl rfl rfl (.n _)) (fun _ => rfl) (by rfl) rfl (by infer_instance) rfl (fun v48 h48 O48 => ⟨inferInstance, ?_⟩) XT.stop
        refine XT.lit [_, _, _, _, _, _] [_, _, _, _, _, _] [(v40, (l.getD i default).2)] encPJ rfl rfl (by rfl) (by rfl) rfl (by rfl) (by exact .c 0 6 rfl rfl rfl (.n _)) (fun _ => rfl) (by rfl) rfl (by infer_instance) rfl (fun v44 h44 O44 => ⟨inferInstance, ?_⟩) XT.stop
        refine XT.append rfl rfl rfl rfl rfl rfl (by have := congrArg List.length ea; rw [List.length_map, List.length_take] at this; simp only [List.length_cons, List.length_nil]; omega) (fun v45 h45 O45 => ⟨inferInstance, ?_⟩) XT.stop
        refine XT.append rfl rfl rfl rfl rfl rfl (by have := congrArg List.length eb; rw [List.length_map, List.length_take] at this; simp only [List.length_cons, List.length_nil]; omega) (fun v49 h49 O49 => ⟨inferInstance, ?_⟩) XT.stop
        refine XT.q rfl rfl (Q.assign rfl) ?_
        refine XT.q rfl rfl (Q.assign rfl) ?_
        refine XT.done ?_
        refine XK.inBlock ?_
        refine XK.region rfl ?_
        refine XO.q (Q.add rfl rfl ⟨by omega, by omega⟩) ?_
        refine XO.q (Q.move rfl) ?_
        refine XO.done ?_
        exact ih0 (i + 1, v45, v49, h45, h49, cat Ka h40, cat Kb kd, a ++ [(v40, (l.getD i default).2)], b ++ [(vd, (l.getD i default).2)]) _ _ ⟨by dsimp only; omega, O45, O49, by dsimp only; exact (JA.mono la1).snoc (Arr.le_heap (OArr.arr (s := O40)) la2), by dsimp only; exact (JB.mono lb1).snoc (Arr.le_heap (OArr.arr (s := OD)) lb2), by dsimp only; exact snocJ ea (by omega), by dsimp only; exact snocJ eb (by omega)⟩ (by first | omega | (dsimp only; omega)) (.c rfl (.c rfl (.c rfl (.base 92 rfl rfl)))) inferInstance
  · have _t0 := True.intro
    have hil : i = l.length := by omega
    subst hil
    rw [List.take_of_length_le (by rw [List.length_map]; exact Nat.le_refl _)] at ea eb
    refine XK.exit rfl ?_
    refine XK.seq ?_
    refine XK.region rfl ?_
    refine XO.q (Q.move rfl) ?_
    refine XO.q (Q.move rfl) ?_
    refine XO.q (Q.assign rfl) ?_
    refine XO.q (Q.assign rfl) ?_
    refine XO.done ?_
    refine XK.rt [ka, kb, Ka, Kb] Try.func45 Try.results45 (.t rfl (.t rfl .n)) ?_
    exact ⟨va, vb, ka, kb, Ka, Kb, a, b, rfl, rfl, OA, OB, JA, JB, ea, eb⟩
end Go.X

set_option linter.unusedSimpArgs false
set_option linter.unusedVariables false
set_option maxRecDepth 20000
namespace Go.X
open Go.Proofs
set_option maxHeartbeats 4000000 in
theorem chances_spec (l : List (Value × PJob)) (vl : Value) (hl K : PHeap) [jl : Arr vl encPJ 6 hl l] (aL : JobsK l K) (few : l.length ≤ 1000) (sm : ∀ i, i < l.length → (l.getD i default).2.draws.length ≤ 1000) (r : PRack) (lim : Int) (m : PRat) : Spec Try.prog 20 #[vl, .agg #[.int .i64 r.r0, .int .i64 r.r1, .int .i64 r.r2, .int .i64 r.cap, .int .i64 r.domain], .int .i64 lim, .agg #[.int .i64 m.n, .int .i64 m.d]] [] [hl, K] (fun v hs => v = .bool true ∧ hs = []) := by
  refine Spec.intro (fn := Try.f20) (N := 121) Try.func20 rfl Try.ntmps20 rfl fun B => ?_
  refine XK.seq ?_
  refine XK.region rfl ?_
  refine XO.box rfl fun b5 => ?_
  refine XO.box rfl fun b7 => ?_
  refine XO.q (Q.assign rfl) ?_
  refine XO.done ?_
  refine XK.seq ?_
  refine XK.region rfl ?_
  refine XO.q (Q.move rfl) ?_
  refine XO.call Try.call45 rfl rfl rfl (jobs_spec l vl hl K aL few sm) fun v23 s23 R23 => ?_
  obtain ⟨va, vb, ka, kb, Ka, Kb, a, b, rfl, rfl, OA, OB, JA, JB, ea, eb⟩ := R23
  dsimp only [List.cons_append, List.nil_append]
  refine XO.q (Q.move rfl) ?_
  refine XO.q (Q.extract rfl rfl) ?_
  refine XO.q (Q.extract rfl rfl) ?_
  refine XO.q (Q.assign rfl) ?_
  refine XO.q (Q.assign rfl) ?_
  refine XO.done ?_
  refine XK.seq ?_
  refine XK.region rfl ?_
  refine XO.q (Q.move rfl) ?_
  refine XO.call Try.call9 rfl rfl rfl (Sums_spec a va ka Ka JA) fun v28 s28 R28 => ?_
  obtain ⟨vo, ko, rfl, rfl, OS⟩ := R28
  dsimp only [List.cons_append, List.nil_append]
  rw [ea] at OS
  rw [ea]
  refine XO.q (Q.move rfl) ?_
  refine XO.q (Q.extract rfl rfl) ?_
  refine XO.q (Q.extract rfl rfl) ?_
  refine XO.q (Q.extract rfl rfl) ?_
  refine XO.q (Q.assign rfl) ?_
  refine XO.q (Q.assign rfl) ?_
  refine XO.q (Q.assign rfl) ?_
  refine XO.done ?_
  refine XK.seq ?_
  refine XK.region rfl ?_
  refine XO.q (Q.move rfl) ?_
  refine XO.call Try.call46 rfl rfl rfl (rSums_spec b vb kb Kb JB) fun v34 s34 R34 => ?_
  obtain ⟨vo2, ko2, rfl, rfl, OS2⟩ := R34
  dsimp only [List.cons_append, List.nil_append]
  rw [eb] at OS2
  rw [eb]
  refine XO.q (Q.move rfl) ?_
  refine XO.q (Q.extract rfl rfl) ?_
  refine XO.q (Q.extract rfl rfl) ?_
  refine XO.q (Q.extract rfl rfl) ?_
  refine XO.q (Q.assign rfl) ?_
  refine XO.q (Q.assign rfl) ?_
  refine XO.q (Q.assign rfl) ?_
  refine XO.done ?_
  refine XK.seq ?_
  refine XK.seq ?_
  refine XK.region rfl ?_
  refine XO.q (Q.move rfl) ?_
  refine XO.q (Q.move rfl) ?_
  refine XO.q (Q.neq rfl rfl) ?_
  first | rw [decide_eq_false (show ¬ (sumsG (l.map Prod.snd)).2.1 ≠ (sumsG (l.map Prod.snd)).2.1 from fun h => h rfl)] | skip
  refine XO.q (Q.move rfl) ?_
  refine XO.q (Quiet.guardF rfl rfl fun g42 p42 => Q.move rfl) ?_
  refine XO.q (Quiet.guardF rfl rfl fun g43 p43 => Q.move rfl) ?_
  refine XO.q (Quiet.guardF rfl rfl fun g44 p44 => Q.neq (lzv rfl rfl) (lzv rfl rfl)) ?_
  first | rw [decide_eq_false (show ¬ (sumsG (l.map Prod.snd)).2.2 ≠ (sumsG (l.map Prod.snd)).2.2 from fun h => h rfl)] | skip
  refine XO.q (Q.or rfl (fun hp => lzv hp rfl)) ?_
  refine XO.q (Q.move rfl) ?_
  refine XO.q (Quiet.guardF rfl rfl fun g47 p47 => Q.move rfl) ?_
  refine XO.q (Quiet.guardF rfl rfl fun g48 p48 => Q.move rfl) ?_
  refine XO.callS rfl rfl rfl Try.call47 rfl (.c (lzv rfl rfl) (.c (lzv rfl rfl) (.c rfl .n))) rfl (equalDF vo vo2 ko ko2 (sumsG (l.map Prod.snd)).1 (sumsG (l.map Prod.snd)).1) fun v49 s49 R49 => ?_
  obtain ⟨rfl, rfl⟩ := R49
  dsimp only [List.cons_append, List.nil_append]
  rw [decide_eq_true (show (sumsG (l.map Prod.snd)).1 = (sumsG (l.map Prod.snd)).1 from rfl)]
  refine XO.q (Quiet.guardF rfl rfl fun g50 p50 => Q.not rfl) ?_
  refine XO.q (Q.or rfl (fun hp => lzv hp rfl)) ?_
  refine XO.done ?_
  refine XK.if rfl (fun c0 => ?_) (fun c0 => ?_)
  · have _t0 := True.intro
    simp at c0
  · have _t0 := True.intro
    refine XK.skip ?_
    refine XK.seq ?_
    refine XK.region rfl ?_
    refine XO.q (Q.move rfl) ?_
    refine XO.q (Q.move rfl) ?_
    refine XO.call Try.call10 rfl rfl rfl (Chance_spec a va ka Ka JA lim) fun v55 s55 R55 => ?_
    obtain ⟨rfl, rfl⟩ := R55
    dsimp only [List.cons_append, List.nil_append]
    rw [ea]
    refine XO.q (Q.move rfl) ?_
    refine XO.q (Q.extract rfl rfl) ?_
    refine XO.q (Q.extract rfl rfl) ?_
    refine XO.alloc fun b17 => ?_
    refine XO.st rfl rfl rfl ?_
    refine XO.q (Q.assign rfl) ?_
    refine XO.done ?_
    refine XK.seq ?_
    refine XK.region rfl ?_
    refine XO.q (Q.move rfl) ?_
    refine XO.q (Q.move rfl) ?_
    refine XO.call Try.call49 rfl rfl rfl (rchance_spec b vb kb Kb JB lim) fun v61 s61 R61 => ?_
    obtain ⟨rfl, rfl⟩ := R61
    dsimp only [List.cons_append, List.nil_append]
    rw [eb]
    refine XO.q (Q.move rfl) ?_
    refine XO.q (Q.extract rfl rfl) ?_
    refine XO.q (Q.extract rfl rfl) ?_
    refine XO.alloc fun b18 => ?_
    refine XO.st rfl rfl rfl ?_
    refine XO.q (Q.assign rfl) ?_
    refine XO.done ?_
    refine XK.seq ?_
    refine XK.seq ?_
    refine XK.region rfl ?_
    refine XO.q (Q.ldA [_, _] rfl rfl rfl) ?_
    refine XO.q (Q.ldA [_, _] rfl rfl rfl) ?_
    refine XO.q (Q.neqS (us := [_, _]) (vs := [_, _]) rfl rfl inferInstance (by kernel_rfl) (by kernel_rfl) (.c rfl inferInstance inferInstance rfl rfl (.c rfl inferInstance inferInstance rfl rfl .n))) ?_
    first | rw [decide_eq_true (show (chanceG (l.map Prod.snd) lim).1.n = (chanceG (l.map Prod.snd) lim).1.n from rfl)] | skip
    first | rw [decide_eq_true (show (chanceG (l.map Prod.snd) lim).1.d = (chanceG (l.map Prod.snd) lim).1.d from rfl)] | skip
    refine XO.q (Q.move rfl) ?_
    refine XO.q (Quiet.guardF rfl rfl fun g68 p68 => Q.move rfl) ?_
    refine XO.q (Quiet.guardF rfl rfl fun g69 p69 => Q.move rfl) ?_
    refine XO.q (Quiet.guardF rfl rfl fun g70 p70 => Q.neq (lzv rfl rfl) (lzv rfl rfl)) ?_
    first | rw [decide_eq_false (show ¬ (chanceG (l.map Prod.snd) lim).2 ≠ (chanceG (l.map Prod.snd) lim).2 from fun h => h rfl)] | skip
    refine XO.q (Q.or rfl (fun hp => lzv hp rfl)) ?_
    refine XO.done ?_
    refine XK.if rfl (fun c1 => ?_) (fun c1 => ?_)
    · have _t1 := True.intro
      simp at c1
    · have _t1 := True.intro
      refine XK.skip ?_
      refine XK.seq ?_
      refine XK.region rfl ?_
      refine XO.q (Q.move rfl) ?_
      refine XO.q (Q.ldA [_, _, _, _, _] rfl rfl rfl) ?_
      refine XO.q (Q.ldA [_, _] rfl rfl rfl) ?_
      refine XO.call Try.call50 rfl rfl rfl (Fits_spec a va ka Ka JA r m) fun v76 s76 R76 => ?_
      obtain ⟨rfl, rfl⟩ := R76
      dsimp only [List.cons_append, List.nil_append]
      rw [ea]
      refine XO.q (Q.move rfl) ?_
      refine XO.q (Q.extract rfl rfl) ?_
      refine XO.q (Q.extract rfl rfl) ?_
      refine XO.q (Q.assign rfl) ?_
      refine XO.q (Q.assign rfl) ?_
      refine XO.done ?_
      refine XK.seq ?_
      refine XK.region rfl ?_
      refine XO.q (Q.move rfl) ?_
      refine XO.q (Q.ldA [_, _, _, _, _] rfl rfl rfl) ?_
      refine XO.q (Q.ldA [_, _] rfl rfl rfl) ?_
      refine XO.call Try.call51 rfl rfl rfl (rFits_spec b vb kb Kb JB r m) fun v83 s83 R83 => ?_
      obtain ⟨rfl, rfl⟩ := R83
      dsimp only [List.cons_append, List.nil_append]
      rw [eb]
      refine XO.q (Q.move rfl) ?_
      refine XO.q (Q.extract rfl rfl) ?_
      refine XO.q (Q.extract rfl rfl) ?_
      refine XO.q (Q.assign rfl) ?_
      refine XO.q (Q.assign rfl) ?_
      refine XO.done ?_
      refine XK.seq ?_
      refine XK.seq ?_
      refine XK.region rfl ?_
      refine XO.q (Q.move rfl) ?_
      refine XO.q (Q.move rfl) ?_
      refine XO.q (Q.neqB rfl rfl) ?_
      rw [bne_self_eq_false]
      refine XO.q (Q.move rfl) ?_
      refine XO.q (Quiet.guardF rfl rfl fun g90 p90 => Q.move rfl) ?_
      refine XO.q (Quiet.guardF rfl rfl fun g91 p91 => Q.move rfl) ?_
      refine XO.q (Quiet.guardF rfl rfl fun g92 p92 => Q.neq (lzv rfl rfl) (lzv rfl rfl)) ?_
      first | rw [decide_eq_false (show ¬ (fitsG0 (l.map Prod.snd) r m).2 ≠ (fitsG0 (l.map Prod.snd) r m).2 from fun h => h rfl)] | skip
      refine XO.q (Q.or rfl (fun hp => lzv hp rfl)) ?_
      refine XO.done ?_
      refine XK.if rfl (fun c2 => ?_) (fun c2 => ?_)
      · have _t2 := True.intro
        simp at c2
      · have _t2 := True.intro
        refine XK.skip ?_
        refine XK.seq ?_
        refine XK.region rfl ?_
        refine XO.q (Q.move rfl) ?_
        refine XO.q (Q.move rfl) ?_
        refine XO.q (Q.ldA [_, _] rfl rfl rfl) ?_
        refine XO.call Try.call22 rfl rfl rfl (Fill_spec a va ka Ka JA lim m) fun v98 s98 R98 => ?_
        obtain ⟨rfl, rfl⟩ := R98
        dsimp only [List.cons_append, List.nil_append]
        rw [ea]
        refine XO.q (Q.move rfl) ?_
        refine XO.q (Q.extract rfl rfl) ?_
        refine XO.q (Q.extract rfl rfl) ?_
        refine XO.q (Q.assign rfl) ?_
        refine XO.q (Q.assign rfl) ?_
        refine XO.done ?_
        refine XK.seq ?_
        refine XK.region rfl ?_
        refine XO.q (Q.move rfl) ?_
        refine XO.q (Q.move rfl) ?_
        refine XO.q (Q.ldA [_, _] rfl rfl rfl) ?_
        refine XO.call Try.call52 rfl rfl rfl (rFill_spec b vb kb Kb JB lim m) fun v105 s105 R105 => ?_
        obtain ⟨rfl, rfl⟩ := R105
        dsimp only [List.cons_append, List.nil_append]
        rw [eb]
        refine XO.q (Q.move rfl) ?_
        refine XO.q (Q.extract rfl rfl) ?_
        refine XO.q (Q.extract rfl rfl) ?_
        refine XO.q (Q.assign rfl) ?_
        refine XO.q (Q.assign rfl) ?_
        refine XO.done ?_
        refine XK.seq ?_
        refine XK.region rfl ?_
        refine XO.q (Q.move rfl) ?_
        refine XO.q (Q.move rfl) ?_
        refine XO.q (Q.eql rfl rfl) ?_
        first | rw [decide_eq_true (show (fillG (l.map Prod.snd) lim m).1 = (fillG (l.map Prod.snd) lim m).1 from rfl)] | skip
        refine XO.q (Q.move rfl) ?_
        refine XO.q (Quiet.guardT rfl rfl fun g112 p112 => Q.move rfl) ?_
        refine XO.q (Quiet.guardT rfl rfl fun g113 p113 => Q.move rfl) ?_
        refine XO.q (Quiet.guardT rfl rfl fun g114 p114 => Q.eql (lzv rfl rfl) (lzv rfl rfl)) ?_
        first | rw [decide_eq_true (show (fillG (l.map Prod.snd) lim m).2 = (fillG (l.map Prod.snd) lim m).2 from rfl)] | skip
        refine XO.q (Q.and rfl (fun hp => lzv hp rfl)) ?_
        refine XO.q (Q.move rfl) ?_
        refine XO.q (Quiet.guardT rfl rfl fun g117 p117 => Q.move rfl) ?_
        refine XO.q (Quiet.guardT rfl rfl fun g118 p118 => Q.move rfl) ?_
        refine XO.callS rfl rfl rfl Try.call53 rfl (.c (lzv rfl rfl) (.c (lzv rfl rfl) .n)) rfl (kept_spec a l va vl ka hl Ka K JA aL ea) fun v119 s119 R119 => ?_
        obtain ⟨rfl, rfl⟩ := R119
        dsimp only [List.cons_append, List.nil_append]
        refine XO.q (Q.and rfl (fun _ => rfl)) ?_
        refine XO.q (Q.assign rfl) ?_
        refine XO.done ?_
        refine XK.rt [] Try.func20 Try.results20 (.t rfl .n) ?_
        exact ⟨rfl, rfl⟩
theorem long_few {l : List PJob} (h : ¬ longG l = true) : l.length ≤ 12 ∧ ∀ i, i < l.length → (l.getD i default).draws.length ≤ 12 := by
  unfold longG at h
  rw [Bool.or_eq_true, decide_eq_true_eq, not_or] at h
  refine ⟨by omega, fun i hi => ?_⟩
  have := any_false_at (Bool.eq_false_iff.2 h.2) hi
  rw [decide_eq_false_iff_not] at this
  omega
theorem PlaceChances_spec (l : List (Value × PJob)) (vl : Value) (hl K : PHeap) [jl : Arr vl encPJ 6 hl l] (aL : JobsK l K) (r : PRack) (lim : Int) (m : PRat) : Spec Try.prog 6 #[vl, .agg #[.int .i64 r.r0, .int .i64 r.r1, .int .i64 r.r2, .int .i64 r.cap, .int .i64 r.domain], .int .i64 lim, .agg #[.int .i64 m.n, .int .i64 m.d]] [] [hl, K] (fun v hs => v = .bool true ∧ hs = []) := by
  have lm : (l.map Prod.snd).length = l.length := List.length_map ..
  refine Spec.intro (fn := Try.f6) (N := 21) Try.func6 rfl Try.ntmps6 rfl fun B => ?_
  refine XK.seq ?_
  refine XK.region rfl ?_
  refine XO.box rfl fun b5 => ?_
  refine XO.box rfl fun b7 => ?_
  refine XO.q (Q.assign rfl) ?_
  refine XO.done ?_
  refine XK.seq ?_
  refine XK.region rfl ?_
  refine XO.q (Q.move rfl) ?_
  refine XO.call Try.call19 rfl rfl rfl (long_spec l vl hl K aL) fun v10 s10 R10 => ?_
  obtain ⟨rfl, rfl⟩ := R10
  dsimp only [List.cons_append, List.nil_append]
  rcases hb10 : longG (l.map Prod.snd) with _ | _
  · have _tb := True.intro
    refine XO.q (Q.move rfl) ?_
    have lf := long_few (l := (l.map Prod.snd)) (by rw [hb10]; decide)
    refine XO.q (Quiet.guardF rfl rfl fun g12 p12 => Q.move rfl) ?_
    refine XO.q (Quiet.guardF rfl rfl fun g13 p13 => Q.ldA [_, _, _, _, _] rfl rfl rfl) ?_
    refine XO.q (Quiet.guardF rfl rfl fun g14 p14 => Q.move rfl) ?_
    refine XO.q (Quiet.guardF rfl rfl fun g15 p15 => Q.ldA [_, _] rfl rfl rfl) ?_
    refine XO.callS rfl rfl rfl Try.call20 rfl (.c (lzv rfl rfl) (.c (lzv rfl rfl) (.c (lzv rfl rfl) (.c (lzv rfl rfl) .n)))) rfl (chances_spec l vl hl K aL (by have := lf.1; omega) (fun i hi => by have := lf.2 i (by omega); rw [map_snd_atP] at this; omega) r lim m) fun v16 s16 R16 => ?_
    obtain ⟨rfl, rfl⟩ := R16
    dsimp only [List.cons_append, List.nil_append]
    refine XO.q (Q.or rfl (fun _ => rfl)) ?_
    refine XO.q (Q.move rfl) ?_
    refine XO.callS rfl rfl rfl Try.call11 rfl (.n) rfl (awake09) fun v19 s19 R19 => ?_
    obtain ⟨rfl, rfl⟩ := R19
    dsimp only [List.cons_append, List.nil_append]
    refine XO.q (Q.and rfl (fun _ => rfl)) ?_
    refine XO.q (Q.assign rfl) ?_
    refine XO.done ?_
    refine XK.rt [] Try.func6 Try.results6 (.t rfl .n) ?_
    exact ⟨rfl, rfl⟩
  · have _tb := True.intro
    refine XO.q (Q.move rfl) ?_
    refine XO.q (Quiet.off rfl rfl (by decide)) ?_
    refine XO.q (Quiet.off rfl rfl (by decide)) ?_
    refine XO.q (Quiet.off rfl rfl (by decide)) ?_
    refine XO.q (Quiet.off rfl rfl (by decide)) ?_
    refine XO.q (Quiet.off rfl rfl (by decide)) ?_
    refine XO.q (Q.or (b := true) (b2 := false) rfl (fun hp => by cases hp)) ?_
    refine XO.q (Q.move rfl) ?_
    refine XO.callS rfl rfl rfl Try.call11 rfl (.n) rfl (awake09) fun v19 s19 R19 => ?_
    obtain ⟨rfl, rfl⟩ := R19
    dsimp only [List.cons_append, List.nil_append]
    refine XO.q (Q.and rfl (fun _ => rfl)) ?_
    refine XO.q (Q.assign rfl) ?_
    refine XO.done ?_
    refine XK.rt [] Try.func6 Try.results6 (.t rfl .n) ?_
    exact ⟨rfl, rfl⟩
end Go.X
