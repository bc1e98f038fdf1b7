/- A part of the proof: a small program logic, plain laws and contracts of functions, each proved by a walk through its operations. No condition but those that stand in each theorem. -/
import Derived.Test.YtmpbiclgfnjjeaaA3
set_option linter.unusedSimpArgs false
set_option linter.unusedVariables false
set_option maxRecDepth 20000
namespace Go.X
open Go.Proofs
theorem Taken_spec (h : Hall) (vr vw vb vc : Value) (hr hw hb hc : PHeap) [ir : Arr vr encRoom 2 hr h.rooms] [iw : Arr vw encWall 3 hw h.walls] [ib : Arr vb encBranch 3 hb h.branches] [ic : Arr vc encCooler 5 hc h.coolers] (t : List Int) (vt : Value) (ht : PHeap) [it : Arr vt encI 1 ht t] (pump : Int) : Spec Try.prog 17 #[.agg #[vr, vw, vb, vc], vt, .int .i64 pump] [] [hr, hw, hb, hc, ht]
    (fun v hs => ∃ v1 k1, v = .tuple #[v1, .int .i64 (takenG h t pump).2] ∧ hs = [k1] ∧ OArr v1 encI 1 3 k1 (takenG h t pump).1) := by
  refine Spec.intro (fn := Try.f17) (N := 40) Try.func17 rfl Try.ntmps17 rfl fun B => ?_
  refine XK.seq ?_
  refine XK.region rfl ?_
  refine XO.box rfl fun b3 => ?_
  refine XO.q (Q.assign rfl) ?_
  refine XO.q (Q.assign rfl) ?_
  refine XO.done ?_
  refine XK.seq ?_
  refine XK.seq ?_
  refine XK.region rfl ?_
  refine XO.q (Q.ldA [_, _, _, _] rfl rfl rfl) ?_
  refine XO.call Try.call36 rfl rfl rfl (Check_spec h vr vw vb vc hr hw hb hc) fun v12 s12 R12 => ?_
  obtain ⟨rfl, rfl⟩ := R12
  dsimp only [List.cons_append, List.nil_append]
  refine XO.q (Q.assign rfl) ?_
  refine XO.done ?_
  refine XK.seq ?_
  refine XK.region rfl ?_
  refine XO.q (Q.move rfl) ?_
  refine XO.q (Q.neq rfl rfl) ?_
  refine XO.done ?_
  refine XK.if rfl (fun c0 => ?_) (fun c0 => ?_)
  · have _t0 := True.intro
    refine XK.seq ?_
    refine XK.region rfl ?_
    refine XO.q (Q.move rfl) ?_
    refine XO.q (Q.assign rfl) ?_
    refine XO.q (Q.assign rfl) ?_
    refine XO.done ?_
    refine XK.rt [emp] Try.func17 Try.results17 (.t rfl (.t rfl .n)) ?_
    have hw0 : takenG h t pump = ([], hcheck h) := by rw [takenG, if_pos c0]
    rw [hw0]
    exact ⟨.slice none 0 0, emp, rfl, rfl, OArr.nil (fun _ => rfl)⟩
  · have _t0 := True.intro
    have ok := hcheck_ok (Decidable.of_not_not c0)
    have r2 := ok.r2
    refine XK.skip ?_
    refine XK.seq ?_
    refine XK.region rfl ?_
    refine XO.q (Q.fieldAddr rfl) ?_
    refine XO.q (Q.ld rfl rfl) ?_
    refine XO.len rfl fun l18 => ?_
    refine XO.make encI (0) rfl rfl rfl (by omega) (by omega) (fun _ => rfl) rfl rfl rfl (by dsimp only [encI]; infer_instance) fun v19 h19 O19 => ?_
    refine XO.q (Q.move rfl) ?_
    refine XO.q (Q.build [_, _, _] (.c 0 1 rfl rfl rfl (.c 2 1 rfl rfl rfl (.n _)))) ?_
    refine XO.alloc fun b9 => ?_
    refine XO.st rfl rfl rfl ?_
    refine XO.done ?_
    refine XK.seq ?_
    refine XK.seq ?_
    refine XK.drawn [0, 1, 3, 4, 8] [b3, b9] [] (.q 0 (.q 1 (.q 3 (.q 4 (.br 2 true (.br 5 true (.br 6 true (.br 7 true (.q 8 .done) .stop) .stop) .stop) .stop))))) Try.mixed rfl (by kernel_rfl) ?_
    refine XT.q rfl rfl (Q.ldA [_, _, _, _] rfl rfl rfl) ?_
    refine XT.q rfl rfl (Q.move rfl) ?_
    refine XT.q rfl rfl (Q.ldA [_, _, _, _] rfl rfl rfl) ?_
    refine XT.q rfl rfl (Q.ldA [_, _, _] rfl rfl rfl) ?_
    refine XT.call rfl rfl Try.call41 rfl rfl rfl (warm_spec h vr vw vb vc hr vt ht t) (fun v24 s24 R24 => ?_) XT.stop
    obtain ⟨rfl, rfl⟩ := R24
    dsimp only [List.cons_append, List.nil_append]
    refine ⟨inferInstance, ?_⟩
    refine XT.call rfl rfl Try.call42 rfl rfl rfl (cased_spec h vr vw vb vc hr v19 h19 (caseP h pump)) (fun v27 s27 R27 => ?_) XT.stop
    obtain ⟨rfl, rfl⟩ := R27
    dsimp only [List.cons_append, List.nil_append]
    refine ⟨inferInstance, ?_⟩
    refine XT.lit [_, _] [_, _] [warmP h t, casedP h (caseP h pump)] encI rfl rfl (by rfl) (by rfl) rfl (by rfl) (by exact .c 0 1 rfl rfl rfl (.c 1 1 rfl rfl rfl (.n _))) (fun _ => rfl) (by rfl) rfl (by infer_instance) rfl (fun v28 h28 O28 => ⟨inferInstance, ?_⟩) XT.stop
    refine XT.call rfl rfl Try.call40 rfl rfl rfl (both_spec v28 h28 [warmP h t, casedP h (caseP h pump)]) (fun v29 s29 R29 => ?_) XT.stop
    obtain ⟨rfl, rfl⟩ := R29
    dsimp only [List.cons_append, List.nil_append]
    refine ⟨inferInstance, ?_⟩
    refine XT.q rfl rfl (Q.assign rfl) ?_
    refine XT.done ?_
    refine XK.seq ?_
    refine XK.region rfl ?_
    refine XO.q (Q.move rfl) ?_
    refine XO.q (Q.neq rfl rfl) ?_
    refine XO.done ?_
    refine XK.if rfl (fun c1 => ?_) (fun c1 => ?_)
    · have _t1 := True.intro
      refine XK.seq ?_
      refine XK.region rfl ?_
      refine XO.q (Q.move rfl) ?_
      refine XO.q (Q.assign rfl) ?_
      refine XO.q (Q.assign rfl) ?_
      refine XO.done ?_
      refine XK.rt [emp] Try.func17 Try.results17 (.t rfl (.t rfl .n)) ?_
      have hw0 : takenG h t pump = ([], bothP [warmP h t, casedP h (caseP h pump)]) := by rw [takenG, if_neg c0, if_pos c1]
      rw [hw0]
      exact ⟨.slice none 0 0, emp, rfl, rfl, OArr.nil (fun _ => rfl)⟩
    · have _t1 := True.intro
      refine XK.skip ?_
      refine XK.seq ?_
      refine XK.region rfl ?_
      refine XO.q (Q.ldA [_, _, _, _] rfl rfl rfl) ?_
      refine XO.q (Q.move rfl) ?_
      refine XO.q (Q.ldA [_, _, _] rfl rfl rfl) ?_
      refine XO.call Try.call44 rfl rfl rfl (at_spec h vr vw vb vc hb hc ok t vt ht (both_ok (Decidable.of_not_not c1)).1 (caseP h pump) (both_ok (Decidable.of_not_not c1)).2 v19) fun v36 s36 R36 => ?_
      obtain ⟨b36, vk, k1, rfl, rfl, O1⟩ := R36
      dsimp only [List.cons_append, List.nil_append]
      refine XO.q (Q.nilCheck rfl) ?_
      refine XO.q (Q.fieldAddr rfl) ?_
      refine XO.q (Q.ld rfl rfl) ?_
      refine XO.q (Q.assign rfl) ?_
      refine XO.q (Q.assign rfl) ?_
      refine XO.done ?_
      refine XK.rt [k1] Try.func17 Try.results17 (.t rfl (.t rfl .n)) ?_
      have hw0 : takenG h t pump = (takenL h t pump, 0) := by rw [takenG, if_neg c0, if_neg c1]
      rw [hw0]
      exact ⟨_, k1, rfl, rfl, O1⟩
theorem HeatBalance_spec (gl : Value) (hhl : PHeap) (l : List UInt8) [il : Arr gl encU8 1 hhl l] (gt : Value) (hht : PHeap) (t : List UInt8) [it : Arr gt encU8 1 hht t] (ga : Value) (hha : PHeap) (a : List UInt8) [ia : Arr ga encU8 1 hha a] : Spec Try.prog 4 #[gl, gt, ga] [] [hhl, hht, hha] (fun v hs => v = .bool true ∧ hs = []) := by
  refine Spec.intro (fn := Try.f4) (N := 168) Try.func4 rfl Try.ntmps4 rfl fun B => ?_
  refine XK.seq ?_
  refine XK.region rfl ?_
  refine XO.q (Q.assign rfl) ?_
  refine XO.done ?_
  refine XK.seq ?_
  refine XK.region rfl ?_
  refine XO.q (Q.move rfl) ?_
  refine XO.call Try.call9 rfl rfl rfl (made7 gl hhl l) fun v23 s23 R23 => ?_
  obtain ⟨h, vr, vw, vb, vc, kr, kw, kb, kc, rfl, rfl, Or, Ow, Ob, Oc, mk⟩ := R23
  dsimp only [List.cons_append, List.nil_append]
  have ok := hcheck_ok mk.ok
  have r1 := ok.r1
  have r2 := ok.r2
  have b2 := ok.b2
  have c2 := ok.c2
  have w2 := ok.w2
  refine XO.alloc fun b7 => ?_
  refine XO.st rfl rfl rfl ?_
  refine XO.done ?_
  refine XK.seq ?_
  refine XK.meet (X := List Int × Value × PHeap × HCase × Value × PHeap × Nat) [8, 9, 24, 25, 26, 27, 28, 29] (fun ⟨x, v26, k26, c, u29, k29, b9⟩ => [(9, some (ptr b9 0)), (8, some (v26))]) (fun ⟨x, v26, k26, c, u29, k29, b9⟩ => [blk b9 [u29, .int .i64 c.out, .int .i64 c.pump] 43, k26, k29]) (fun ⟨x, v26, k26, c, u29, k29, b9⟩ => WarmOk h.rooms.length x ∧ CasedOk h.rooms.length c ∧ OArr v26 encI 1 3 k26 x ∧ OArr u29 encI 1 3 k29 c.load) [] ?_ ?_
  · rintro ⟨x, v26, k26, c, u29, k29, b9⟩ ⟨w26, q29, O26, O29⟩
    dsimp only [List.cons_append, List.nil_append]
    have tk : TOk h x := w26.tok
    have ck : COk h c := q29.cok
    have xl := tk.len
    have cl := ck.len
    refine XK.seq ?_
    refine XK.region rfl ?_
    refine XO.q (Q.ldA [_, _, _, _] rfl rfl rfl) ?_
    refine XO.q (Q.move rfl) ?_
    refine XO.q (Q.ldA [_, _, _] rfl rfl rfl) ?_
    refine XO.call Try.call16 rfl rfl rfl (Next_spec h vr vw vb vc kr kw kb kc x v26 k26 c u29 k29) fun v34 s34 R34 => ?_
    obtain ⟨vy, ky, rfl, rfl, X34⟩ := R34
    dsimp only [List.cons_append, List.nil_append]
    have hN34 : nextG h x c = (nextL h x c, 0) := next_fine mk.ok tk ck
    rw [hN34] at X34 ⊢
    dsimp only at X34 ⊢
    refine XO.q (Q.move rfl) ?_
    refine XO.q (Q.extract rfl rfl) ?_
    refine XO.q (Q.extract rfl rfl) ?_
    refine XO.q (Q.assign rfl) ?_
    refine XO.q (Q.assign rfl) ?_
    refine XO.done ?_
    refine XK.seq ?_
    refine XK.region rfl ?_
    refine XO.q (Q.ldA [_, _, _, _] rfl rfl rfl) ?_
    refine XO.q (Q.move rfl) ?_
    refine XO.q (Q.fieldAddr rfl) ?_
    refine XO.q (Q.ld rfl rfl) ?_
    refine XO.call Try.call17 rfl rfl rfl (Taken_spec h vr vw vb vc kr kw kb kc x v26 k26 c.pump) fun v42 s42 R42 => ?_
    obtain ⟨vz, kz, rfl, rfl, X42⟩ := R42
    dsimp only [List.cons_append, List.nil_append]
    have hN42 : takenG h x c.pump = (takenL h x c.pump, 0) := taken_fine mk.ok tk ck.pump
    rw [hN42] at X42 ⊢
    dsimp only at X42 ⊢
    have ly : (nextL h x c).length = h.rooms.length := nextL_len ..
    have lz : (takenL h x c.pump).length = h.coolers.length := by simp [takenL]
    refine XO.q (Q.move rfl) ?_
    refine XO.q (Q.extract rfl rfl) ?_
    refine XO.q (Q.extract rfl rfl) ?_
    refine XO.q (Q.assign rfl) ?_
    refine XO.q (Q.assign rfl) ?_
    refine XO.done ?_
    refine XK.seq ?_
    refine XK.seq ?_
    refine XK.region rfl ?_
    refine XO.q (Q.move rfl) ?_
    refine XO.q (Q.neq rfl rfl) ?_
    refine XO.q (Q.move rfl) ?_
    refine XO.q (Quiet.guardF rfl rfl fun g48 p48 => Q.move rfl) ?_
    refine XO.q (Quiet.guardF rfl rfl fun g49 p49 => Q.neq (lzv g49 rfl) rfl) ?_
    refine XO.q (Q.or rfl (fun hp => lzv hp rfl)) ?_
    refine XO.q (Q.move rfl) ?_
    refine XO.q (Quiet.guardF rfl rfl fun g52 p52 => Q.move rfl) ?_
    refine XO.q (Quiet.guardF rfl rfl fun g53 p53 => Q.len (lzv g53 rfl)) ?_
    refine XO.q (Quiet.guardF rfl rfl fun g54 p54 => Q.fieldAddr rfl) ?_
    refine XO.q (Quiet.guardF rfl rfl fun g55 p55 => Q.ld (lzv g55 rfl) rfl) ?_
    refine XO.q (Quiet.guardF rfl rfl fun g56 p56 => Q.len (lzv g56 rfl)) ?_
    refine XO.q (Quiet.guardF rfl rfl fun g57 p57 => Q.neq (lzv g57 rfl) (lzv g57 rfl)) ?_
    refine XO.q (Q.or rfl (fun hp => lzv hp rfl)) ?_
    refine XO.done ?_
    refine XK.if rfl (fun c0 => ?_) (fun c0 => ?_)
    · have _t0 := True.intro
      exact absurd c0 (by simp [lz])
    · have _t0 := True.intro
      refine XK.skip ?_
      refine XK.seq ?_
      refine XK.seq ?_
      refine XK.region rfl ?_
      refine XO.q (Q.move rfl) ?_
      refine XO.call Try.call18 rfl rfl rfl (maxI _ _ _ (by rw [nextL_len]; omega)) fun v60 s60 R60 => ?_
      obtain ⟨rfl, rfl⟩ := R60
      dsimp only [List.cons_append, List.nil_append]
      refine XO.q (Q.eql rfl rfl) ?_
      refine XO.done ?_
      refine XK.if rfl (fun c1 => ?_) (fun c1 => ?_)
      · have _t1 := True.intro
        refine XK.seq ?_
        refine XK.region rfl ?_
        refine XO.call Try.call12 rfl rfl rfl (awake7) fun v62 s62 R62 => ?_
        obtain ⟨rfl, rfl⟩ := R62
        dsimp only [List.cons_append, List.nil_append]
        refine XO.q (Q.assign rfl) ?_
        refine XO.done ?_
        refine XK.rt [] Try.func4 Try.results4 (.t rfl .n) ?_
        exact ⟨rfl, rfl⟩
      · have _t1 := True.intro
        have bal := balanced ok tk ck c1
        refine XK.skip ?_
        refine XK.seq ?_
        refine XK.region rfl ?_
        refine XO.q (Q.assign rfl) ?_
        refine XO.q (Q.assign rfl) ?_
        refine XO.done ?_
        refine XK.seq ?_
        refine XK.seq ?_
        refine XK.region rfl ?_
        refine XO.q (Q.fieldAddr rfl) ?_
        refine XO.q (Q.ld rfl rfl) ?_
        refine XO.len rfl fun l65 => ?_
        refine XO.q (Q.move rfl) ?_
        refine XO.done ?_
        refine XK.block ?_
        refine XK.while (X := Nat) [14, 15, 16, 17, 66, 67, 68, 69, 70, 71, 72, 73, 74, 75, 76, 77, 78, 79, 80, 81, 82, 83, 84, 85, 86, 87, 88, 89, 90, 91, 92, 93, 94, 95, 96, 97] (fun i => [(66, some (.int .i64 (i : Nat))), (14, some (.int .i64 (sumTo (stp h x (nextL h x c) c) i))), (15, some (.int .i64 (sumTo (lsp h) i)))]) (fun i => []) (fun i => i ≤ h.rooms.length) (fun i => h.rooms.length - i) (0) [] rfl (by omega) (.c rfl (.c rfl (.c rfl (.base 0 rfl rfl)))) ?_
        rintro i hi ih0
        dsimp only [List.cons_append, List.nil_append] at ih0 ⊢
        refine XK.seq ?_
        refine XK.region rfl ?_
        refine XO.q (Q.lss rfl rfl) ?_
        refine XO.done ?_
        refine XK.seq ?_
        refine XK.if rfl (fun c2 => ?_) (fun c2 => ?_)
        · have _t2 := True.intro
          have hrm := ok.room i (by omega)
          have hx := tk.rng i (by omega)
          have hy := next_rng ok tk ck (i := i) (by omega)
          rw [← next_getD ok tk ck (by omega)] at hy
          have hc := ck.rng i (by omega)
          change 0 ≤ x.getD i default ∧ x.getD i default ≤ _ at hx
          change 0 ≤ (nextL h x c).getD i default ∧ (nextL h x c).getD i default ≤ _ at hy
          change 0 ≤ c.load.getD i default ∧ c.load.getD i default ≤ _ at hc
          have hm := mul_abs (p := (h.rooms.getD i default).store) (d := (nextL h x c).getD i default - x.getD i default) (P := 1000000) (D := 1000000) (by omega) hrm.2.1 (by omega) (by omega) (by omega)
          have hS := sum_abs (f := stp h x (nextL h x c) c) (n := i) (M := 1000010000000) fun k hk => stp_rng ok tk ck (by omega)
          have hL := sum_abs (f := lsp h) (n := i) (M := 1000000) fun k hk => by have := ok.room k (by omega); unfold lsp; omega
          refine XK.skip ?_
          refine XK.seq ?_
          refine XK.block ?_
          refine XK.seq ?_
          refine XK.region rfl ?_
          refine XO.q (Q.move rfl) ?_
          refine XO.ix rfl rfl (by omega) (by omega) fun i69 => ?_
          refine XO.q (Q.ldEA [_, _] rfl (by first | assumption | omega) rfl rfl) ?_
          refine XO.alloc fun b17 => ?_
          refine XO.q (Q.assign rfl) ?_
          refine XO.st rfl rfl rfl ?_
          refine XO.done ?_
          refine XK.seq ?_
          refine XK.drawn [0, 1, 2, 3, 4, 5, 6, 7, 8, 9, 10, 11, 12, 13, 14] [b17] [ky, k26] (.q 0 (.q 1 (.q 2 (.q 3 (.q 4 (.q 5 (.q 6 (.q 7 (.q 8 (.q 9 (.q 10 (.q 11 (.q 12 (.q 13 (.q 14 .done))))))))))))))) Try.mixed rfl (by kernel_rfl) ?_
          refine XT.q rfl rfl (Q.move rfl) ?_
          refine XT.q rfl rfl (Q.fieldAddr rfl) ?_
          refine XT.q rfl rfl (Q.ld rfl rfl) ?_
          refine XT.q rfl rfl (Q.move rfl) ?_
          refine XT.q rfl rfl (Q.move rfl) ?_
          refine XT.ix rfl rfl rfl rfl (by omega) (by omega) fun i76 => ?_
          refine XT.q rfl rfl (Q.ldE rfl (by first | assumption | omega) rfl) ?_
          refine XT.q rfl rfl (Q.move rfl) ?_
          refine XT.q rfl rfl (Q.move rfl) ?_
          refine XT.ix rfl rfl rfl rfl (by omega) (by omega) fun i80 => ?_
          refine XT.q rfl rfl (Q.ldE rfl (by first | assumption | omega) rfl) ?_
          refine XT.q rfl rfl (Q.sub rfl rfl ⟨by omega, by omega⟩) ?_
          refine XT.q rfl rfl (Q.mul rfl rfl ⟨by omega, by omega⟩) ?_
          refine XT.q rfl rfl (Q.add rfl rfl ⟨by omega, by omega⟩) ?_
          refine XT.q rfl rfl (Q.assign rfl) ?_
          refine XT.done ?_
          refine XK.seq ?_
          refine XK.region rfl ?_
          refine XO.q (Q.move rfl) ?_
          refine XO.q (Q.fieldAddr rfl) ?_
          refine XO.q (Q.ld rfl rfl) ?_
          refine XO.q (Q.sub rfl rfl ⟨by omega, by omega⟩) ?_
          refine XO.q (Q.add rfl rfl ⟨by omega, by omega⟩) ?_
          refine XO.q (Q.assign rfl) ?_
          refine XO.done ?_
          refine XK.region rfl ?_
          refine XO.q (Q.move rfl) ?_
          refine XO.q (Q.fieldAddr rfl) ?_
          refine XO.q (Q.ld rfl rfl) ?_
          refine XO.q (Q.move rfl) ?_
          refine XO.ix rfl rfl (by omega) (by omega) fun i94 => ?_
          refine XO.q (Q.ldE rfl (by first | assumption | omega) rfl) ?_
          refine XO.q (Q.sub rfl rfl ⟨by omega, by omega⟩) ?_
          refine XO.q (Q.assign rfl) ?_
          refine XO.done ?_
          refine XK.inBlock ?_
          refine XK.region rfl ?_
          refine XO.q (Q.add rfl rfl ⟨by omega, by omega⟩) ?_
          refine XO.q (Q.move rfl) ?_
          refine XO.done ?_
          rw [show sumTo (stp h x (nextL h x c) c) i + (h.rooms.getD i default).store * ((nextL h x c).getD i default - x.getD i default) - c.load.getD i default = sumTo (stp h x (nextL h x c) c) (i + 1) by rw [sumTo, stp, Int.add_sub_assoc]; rfl]
          rw [show sumTo (lsp h) i + ((h.rooms.getD i default).store - 1) = sumTo (lsp h) (i + 1) from rfl]
          exact ih0 (i + 1) _ _ (by omega) (by first | omega | (dsimp only; omega)) (.c rfl (.c rfl (.c rfl (.base 76 rfl rfl)))) inferInstance
        · have _t2 := True.intro
          have hin : i = h.rooms.length := by omega
          rw [hin]
          have hS := sum_abs (f := stp h x (nextL h x c) c) (n := h.rooms.length) (M := 1000010000000) fun k hk => stp_rng ok tk ck (by omega)
          have hL := sum_abs (f := lsp h) (n := h.rooms.length) (M := 1000000) fun k hk => by have := ok.room k (by omega); unfold lsp; omega
          rw [show sumTo (stp h x (nextL h x c) c) h.rooms.length = sumTo (stp h x (nextL h x c) c) h.rooms.length - sumTo (wout h x c.out) 0 by rw [sumTo, Int.sub_zero]]
          clear ih0
          refine XK.exit rfl ?_
          refine XK.seq ?_
          refine XK.seq ?_
          refine XK.region rfl ?_
          refine XO.q (Q.fieldAddr rfl) ?_
          refine XO.q (Q.ld rfl rfl) ?_
          refine XO.len rfl fun l100 => ?_
          refine XO.q (Q.move rfl) ?_
          refine XO.done ?_
          refine XK.block ?_
          refine XK.while (X := Nat) [14, 19, 101, 102, 103, 104, 105, 106, 107, 108, 109, 110, 111, 112, 113, 114, 115, 116, 117, 118, 119, 120, 121] (fun k => [(101, some (.int .i64 (k : Nat))), (14, some (.int .i64 (sumTo (stp h x (nextL h x c) c) h.rooms.length - sumTo (wout h x c.out) k)))]) (fun k => []) (fun k => k ≤ h.walls.length) (fun k => h.walls.length - k) (0) [] rfl (by omega) (.c rfl (.c rfl (.base 0 rfl rfl))) ?_
          rintro k hk ih1
          dsimp only [List.cons_append, List.nil_append] at ih1 ⊢
          refine XK.seq ?_
          refine XK.region rfl ?_
          refine XO.q (Q.lss rfl rfl) ?_
          refine XO.done ?_
          refine XK.seq ?_
          refine XK.if rfl (fun c3 => ?_) (fun c3 => ?_)
          · have _t3 := True.intro
            have hwf := ok.wall k (by omega)
            have hA := temp_at ok tk hwf.1.1 hwf.1.2
            change 0 ≤ x.getD (h.walls.getD k default).a.toNat default ∧ x.getD (h.walls.getD k default).a.toNat default ≤ _ at hA
            have hco := ck.out
            have hm := mul_abs (p := (h.walls.getD k default).pass) (d := c.out - x.getD (h.walls.getD k default).a.toNat default) (P := 100000) (D := 1000000) hwf.2.2.2.1 hwf.2.2.2.2 (by omega) (by omega) (by omega)
            have hW := sum_abs (f := wout h x c.out) (n := k) (M := 100000000000) fun k hk => wout_rng ok tk ck (by omega)
            refine XK.skip ?_
            refine XK.seq ?_
            refine XK.block ?_
            refine XK.seq ?_
            refine XK.region rfl ?_
            refine XO.ix rfl rfl (by omega) (by omega) fun i103 => ?_
            refine XO.q (Q.ldEA [_, _, _] rfl (by first | assumption | omega) rfl rfl) ?_
            refine XO.alloc fun b19 => ?_
            refine XO.st rfl rfl rfl ?_
            refine XO.done ?_
            refine XK.seq ?_
            refine XK.region rfl ?_
            refine XO.q (Q.fieldAddr rfl) ?_
            refine XO.q (Q.ld rfl rfl) ?_
            refine XO.q (Q.lss rfl rfl) ?_
            refine XO.done ?_
            refine XK.if rfl (fun c4 => ?_) (fun c4 => ?_)
            · have _t4 := True.intro
              refine XK.drawn [0, 1, 2, 3, 4, 5, 6, 7, 8, 9, 10, 11, 12, 13] [b19, b9] [k26] (.q 0 (.q 1 (.q 2 (.q 3 (.q 4 (.q 5 (.q 6 (.q 7 (.q 8 (.q 9 (.q 10 (.q 11 (.q 12 (.q 13 .done)))))))))))))) Try.mixed rfl (by kernel_rfl) ?_
              refine XT.q rfl rfl (Q.move rfl) ?_
              refine XT.q rfl rfl (Q.fieldAddr rfl) ?_
              refine XT.q rfl rfl (Q.ld rfl rfl) ?_
              refine XT.q rfl rfl (Q.fieldAddr rfl) ?_
              refine XT.q rfl rfl (Q.ld rfl rfl) ?_
              refine XT.q rfl rfl (Q.move rfl) ?_
              refine XT.q rfl rfl (Q.fieldAddr rfl) ?_
              refine XT.q rfl rfl (Q.ld rfl rfl) ?_
              refine XT.ix rfl rfl rfl rfl (by omega) (by omega) fun i116 => ?_
              refine XT.q rfl rfl (Q.ldE rfl (by first | assumption | omega) rfl) ?_
              refine XT.q rfl rfl (Q.sub rfl rfl ⟨by omega, by omega⟩) ?_
              refine XT.q rfl rfl (Q.mul rfl rfl ⟨by omega, by omega⟩) ?_
              refine XT.q rfl rfl (Q.sub rfl rfl ⟨by omega, by omega⟩) ?_
              refine XT.q rfl rfl (Q.assign rfl) ?_
              refine XT.done ?_
              refine XK.inBlock ?_
              refine XK.region rfl ?_
              refine XO.q (Q.add rfl rfl ⟨by omega, by omega⟩) ?_
              refine XO.q (Q.move rfl) ?_
              refine XO.done ?_
              rw [show sumTo (stp h x (nextL h x c) c) h.rooms.length - sumTo (wout h x c.out) k - (h.walls.getD k default).pass * (c.out - x.getD (h.walls.getD k default).a.toNat default) = sumTo (stp h x (nextL h x c) c) h.rooms.length - sumTo (wout h x c.out) (k + 1) by rw [sumTo, wout, if_pos c4, Int.sub_sub]; rfl]
              exact ih1 (k + 1) _ _ (by omega) (by first | omega | (dsimp only; omega)) (.c rfl (.c rfl (.base 48 rfl rfl))) inferInstance
            · have _t4 := True.intro
              refine XK.skip ?_
              refine XK.inBlock ?_
              refine XK.region rfl ?_
              refine XO.q (Q.add rfl rfl ⟨by omega, by omega⟩) ?_
              refine XO.q (Q.move rfl) ?_
              refine XO.done ?_
              rw [show sumTo (stp h x (nextL h x c) c) h.rooms.length - sumTo (wout h x c.out) k = sumTo (stp h x (nextL h x c) c) h.rooms.length - sumTo (wout h x c.out) (k + 1) by rw [sumTo, wout, if_neg c4, Int.add_zero]]
              exact ih1 (k + 1) _ _ (by omega) (by first | omega | (dsimp only; omega)) (.c rfl (.c rfl (.base 34 rfl rfl))) inferInstance
          · have _t3 := True.intro
            have hkn : k = h.walls.length := by omega
            rw [hkn]
            have hW := sum_abs (f := wout h x c.out) (n := h.walls.length) (M := 100000000000) fun k hk => wout_rng ok tk ck (by omega)
            rw [show (sumTo (stp h x (nextL h x c) c) h.rooms.length - sumTo (wout h x c.out) h.walls.length) = (sumTo (stp h x (nextL h x c) c) h.rooms.length - sumTo (wout h x c.out) h.walls.length) + sumTo (fun k => (takenL h x c.pump).getD k 0) 0 by rw [sumTo, Int.add_zero]]
            clear ih1
            refine XK.exit rfl ?_
            refine XK.seq ?_
            refine XK.seq ?_
            refine XK.region rfl ?_
            refine XO.q (Q.move rfl) ?_
            refine XO.len rfl fun l123 => ?_
            refine XO.q (Q.move rfl) ?_
            refine XO.done ?_
            refine XK.block ?_
            refine XK.while (X := Nat) [6, 14, 20, 21, 124, 125, 126, 127, 128, 129, 130, 131, 132, 133, 134, 135, 136, 137, 138, 139, 140, 141, 142, 143, 144, 145, 146, 147, 148, 149, 150, 151, 152, 153, 154, 155, 156] (fun m => [(124, some (.int .i64 (m : Nat))), (14, some (.int .i64 ((sumTo (stp h x (nextL h x c) c) h.rooms.length - sumTo (wout h x c.out) h.walls.length) + sumTo (fun k => (takenL h x c.pump).getD k 0) m)))]) (fun m => []) (fun m => m ≤ h.coolers.length) (fun m => h.coolers.length - m) (0) [] rfl (by omega) (.c rfl (.c rfl (.base 0 rfl rfl))) ?_
            rintro m hmm ih2
            dsimp only [List.cons_append, List.nil_append] at ih2 ⊢
            refine XK.seq ?_
            refine XK.region rfl ?_
            refine XO.q (Q.lss rfl rfl) ?_
            refine XO.done ?_
            refine XK.seq ?_
            refine XK.if rfl (fun c5 => ?_) (fun c5 => ?_)
            · have _t5 := True.intro
              have hT := sum_abs (f := (fun k => (takenL h x c.pump).getD k 0)) (n := m) (M := 100000000000) fun k hk => by have := taken_rng2 ok tk ck (k := k) (by omega); omega
              have hz := taken_rng2 ok tk ck (k := m) (by omega)
              change 0 ≤ (takenL h x c.pump).getD m default ∧ (takenL h x c.pump).getD m default ≤ _ at hz
              have hcf := ok.cooler m (by omega)
              refine XK.skip ?_
              refine XK.seq ?_
              refine XK.block ?_
              refine XK.seq ?_
              refine XK.region rfl ?_
              refine XO.q (Q.move rfl) ?_
              refine XO.ix rfl rfl (by omega) (by omega) fun i127 => ?_
              refine XO.q (Q.ldE rfl (by first | assumption | omega) rfl) ?_
              refine XO.q (Q.assign rfl) ?_
              refine XO.q (Q.assign rfl) ?_
              refine XO.done ?_
              refine XK.seq ?_
              refine XK.seq ?_
              refine XK.drawn [0, 1, 2, 3, 4, 5, 6, 7, 8, 9, 10, 11, 12, 13, 14, 15, 16, 17, 18, 19, 20, 21, 22, 23] [b7] [kc, k26] (.q 0 (.q 1 (.q 2 (.q 3 (.q 4 (.q 5 (.q 6 (.q 7 (.q 8 (.q 9 (.q 10 (.q 11 (.q 12 (.q 13 (.q 14 (.q 15 (.q 16 (.q 17 (.q 18 (.q 19 (.q 20 (.q 21 (.q 22 (.q 23 .done)))))))))))))))))))))))) Try.mixed rfl (by kernel_rfl) ?_
              refine XT.q rfl rfl (Q.move rfl) ?_
              refine XT.q rfl rfl (Q.lss rfl rfl) ?_
              refine XT.q rfl rfl (Q.move rfl) ?_
              refine XT.q rfl rfl (Quiet.guardF rfl rfl fun g132 p132 => Q.move rfl) ?_
              refine XT.q rfl rfl (Quiet.guardF rfl rfl fun g133 p133 => Q.fieldAddr rfl) ?_
              refine XT.q rfl rfl (Quiet.guardF rfl rfl fun g134 p134 => Q.ld (lzv g134 rfl) rfl) ?_
              refine XT.q rfl rfl (Quiet.guardF rfl rfl fun g135 p135 => Q.move rfl) ?_
              refine XT.q rfl rfl (Quiet.guardF rfl rfl fun g136 p136 => Q.ix (lzv g136 rfl) (lzv g136 rfl) (by omega) (by omega)) ?_
              refine XT.q rfl rfl (Quiet.guardF rfl rfl fun g137 p137 => Q.fieldQ (lzv g137 rfl) (by first | assumption | omega)) ?_
              refine XT.q rfl rfl (Quiet.guardF rfl rfl fun g138 p138 => Q.ldE (lzv g138 rfl) (by first | assumption | omega) rfl) ?_
              refine XT.q rfl rfl (Quiet.guardF rfl rfl fun g139 p139 => Q.ix (lzv g139 rfl) (lzv g139 rfl) (by omega) (by omega)) ?_
              refine XT.q rfl rfl (Quiet.guardF rfl rfl fun g140 p140 => Q.ldE (lzv g140 rfl) (by first | assumption | omega) rfl) ?_
              refine XT.q rfl rfl (Quiet.guardF rfl rfl fun g141 p141 => Q.fieldAddr rfl) ?_
              refine XT.q rfl rfl (Quiet.guardF rfl rfl fun g142 p142 => Q.ld (lzv g142 rfl) rfl) ?_
              refine XT.q rfl rfl (Quiet.guardF rfl rfl fun g143 p143 => Q.move rfl) ?_
              refine XT.q rfl rfl (Quiet.guardF rfl rfl fun g144 p144 => Q.ix (lzv g144 rfl) (lzv g144 rfl) (by omega) (by omega)) ?_
              refine XT.q rfl rfl (Quiet.guardF rfl rfl fun g145 p145 => Q.fieldQ (lzv g145 rfl) (by first | assumption | omega)) ?_
              refine XT.q rfl rfl (Quiet.guardF rfl rfl fun g146 p146 => Q.ldE (lzv g146 rfl) (by first | assumption | omega) rfl) ?_
              refine XT.q rfl rfl (Quiet.guardF rfl rfl fun g147 p147 => Q.leq (lzv g147 rfl) (lzv g147 rfl)) ?_
              refine XT.q rfl rfl (Quiet.guardF rfl rfl fun g148 p148 => Q.move (lzv g148 rfl)) ?_
              refine XT.q rfl rfl (Quiet.guard2 rfl rfl fun g149a g149b => have p149a := bpF g149a; have p149b := bpT g149b; Q.move rfl) ?_
              refine XT.q rfl rfl (Quiet.guard2 rfl rfl fun g150a g150b => have p150a := bpF g150a; have p150b := bpT g150b; Q.neq (lzv g150b (lzv g150a rfl)) rfl) ?_
              refine XT.q rfl rfl (Quiet.guardF rfl rfl fun g151 p151 => Q.and (lzv g151 rfl) (fun hp => (lzv hp (lzv g151 rfl)))) ?_
              refine XT.q rfl rfl (Q.or rfl (fun hp => lzv hp rfl)) ?_
              refine XT.done ?_
              refine XK.if rfl (fun c6 => ?_) (fun c6 => ?_)
              · have _t6 := True.intro
                rcases c6 with c | ⟨c, d⟩
                · omega
                · exact absurd (taken_no ok tk ck (by omega) c) d
              · have _t6 := True.intro
                refine XK.skip ?_
                refine XK.region rfl ?_
                refine XO.q (Q.move rfl) ?_
                refine XO.q (Q.move rfl) ?_
                refine XO.q (Q.add rfl rfl ⟨by omega, by omega⟩) ?_
                refine XO.q (Q.assign rfl) ?_
                refine XO.done ?_
                refine XK.inBlock ?_
                refine XK.region rfl ?_
                refine XO.q (Q.add rfl rfl ⟨by omega, by omega⟩) ?_
                refine XO.q (Q.move rfl) ?_
                refine XO.done ?_
                rw [show (sumTo (stp h x (nextL h x c) c) h.rooms.length - sumTo (wout h x c.out) h.walls.length) + sumTo (fun k => (takenL h x c.pump).getD k 0) m + (takenL h x c.pump).getD m default = (sumTo (stp h x (nextL h x c) c) h.rooms.length - sumTo (wout h x c.out) h.walls.length) + sumTo (fun k => (takenL h x c.pump).getD k 0) (m + 1) by rw [sumTo, Int.add_assoc]; rfl]
                exact ih2 (m + 1) _ _ (by omega) (by first | omega | (dsimp only; omega)) (.c rfl (.c rfl (.base 75 rfl rfl))) inferInstance
            · have _t5 := True.intro
              have hmn : m = h.coolers.length := by omega
              rw [hmn]
              have hT := sum_abs (f := (fun k => (takenL h x c.pump).getD k 0)) (n := h.coolers.length) (M := 100000000000) fun k hk => by have := taken_rng2 ok tk ck (k := k) (by omega); omega
              refine XK.exit rfl ?_
              refine XK.seq ?_
              refine XK.region rfl ?_
              refine XO.q (Q.move rfl) ?_
              refine XO.q (Q.leq rfl rfl) ?_
              refine XO.q (Q.move rfl) ?_
              refine XO.q (Quiet.guardT rfl rfl fun g160 p160 => Q.move rfl) ?_
              refine XO.q (Quiet.guardT rfl rfl fun g161 p161 => Q.neg (lzv g161 rfl) ⟨by omega, by omega⟩) ?_
              refine XO.q (Quiet.guardT rfl rfl fun g162 p162 => Q.move rfl) ?_
              refine XO.q (Quiet.guardT rfl rfl fun g163 p163 => Q.leq (lzv g163 rfl) (lzv g163 rfl)) ?_
              refine XO.q (Q.and rfl (fun hp => lzv hp rfl)) ?_
              refine XO.q (Q.move rfl) ?_
              refine XO.gcallT rfl rfl Try.call12 rfl (fun g166 => .n) rfl (fun g166 p166 => awake7) ?_
              refine XO.q (Q.and rfl (fun hp => lzv hp rfl)) ?_
              refine XO.q (Q.assign rfl) ?_
              refine XO.done ?_
              refine XK.rt [] Try.func4 Try.results4 (.t rfl .n) ?_
              exact ⟨by rw [decide_eq_true bal.1, Int.zero_sub, decide_eq_true bal.2]; rfl, rfl⟩
  · intro mtr2
    dsimp only [List.cons_append, List.nil_append] at mtr2
    refine XK.drawn [0, 1, 3, 4, 7] [b7] [] (.q 0 (.q 1 (.q 3 (.q 4 (.br 2 true (.br 5 true (.br 6 true (.q 7 (.br 8 false .done .stop)) .stop) (.br 6 true (.br 5 true (.q 7 (.br 8 false .done .stop)) .stop) .stop)) (.br 6 true (.br 2 true (.br 5 true (.q 7 (.br 8 false .done .stop)) .stop) .stop) .stop)))))) Try.mixed rfl (by kernel_rfl) ?_
    refine XT.q rfl rfl (Q.ldA [_, _, _, _] rfl rfl rfl) ?_
    refine XT.q rfl rfl (Q.move rfl) ?_
    refine XT.q rfl rfl (Q.ldA [_, _, _, _] rfl rfl rfl) ?_
    refine XT.q rfl rfl (Q.move rfl) ?_
    refine XT.call rfl rfl Try.call14 rfl rfl rfl (warm_made vr vw vb vc kr h.rooms r2 gt hht t) (fun v26 s26 R26 => ?_) ?_
    · skip
      obtain ⟨t26, k26, rfl, O26, w26⟩ := R26
      dsimp only [List.cons_append, List.nil_append]
      refine ⟨inferInstance, ?_⟩
      have tl26 := w26.1
      refine XT.call rfl rfl Try.call15 rfl rfl rfl (cased_made vr vw vb vc kr h.rooms r2 ga hha a) (fun v29 s29 R29 => ?_) ?_
      · skip
        obtain ⟨c29, u29, k29, rfl, rfl, O29, q29⟩ := R29
        dsimp only [List.cons_append, List.nil_append]
        refine ⟨inferInstance, ?_⟩
        have cl29 := q29.1.1
        refine XT.alloc rfl rfl (fun b9 => ⟨inferInstance, ?_⟩) XT.stop
        refine XT.q rfl rfl (Q.assign rfl) ?_
        refine XT.st rfl rfl rfl rfl rfl ⟨inferInstance, ?_⟩ XT.stop
        refine XT.done ?_
        exact mtr2 ((t26, v26, k26, c29, u29, k29, b9)) _ _ ⟨w26, q29, O26, O29⟩ (.c rfl (.c rfl (.base 8 rfl rfl))) inferInstance
      · skip
        refine XT.alloc rfl rfl (fun b9 => ⟨inferInstance, ?_⟩) XT.stop
        refine XT.call rfl rfl Try.call15 rfl rfl rfl (cased_made vr vw vb vc kr h.rooms r2 ga hha a) (fun v29 s29 R29 => ?_) XT.stop
        obtain ⟨c29, u29, k29, rfl, rfl, O29, q29⟩ := R29
        dsimp only [List.cons_append, List.nil_append]
        refine ⟨inferInstance, ?_⟩
        have cl29 := q29.1.1
        refine XT.q rfl rfl (Q.assign rfl) ?_
        refine XT.st rfl rfl rfl rfl rfl ⟨inferInstance, ?_⟩ XT.stop
        refine XT.done ?_
        exact mtr2 ((t26, v26, k26, c29, u29, k29, b9)) _ _ ⟨w26, q29, O26, O29⟩ (.c rfl (.c rfl (.base 8 rfl rfl))) inferInstance
    · skip
      refine XT.alloc rfl rfl (fun b9 => ⟨inferInstance, ?_⟩) XT.stop
      refine XT.call rfl rfl Try.call14 rfl rfl rfl (warm_made vr vw vb vc kr h.rooms r2 gt hht t) (fun v26 s26 R26 => ?_) XT.stop
      obtain ⟨t26, k26, rfl, O26, w26⟩ := R26
      dsimp only [List.cons_append, List.nil_append]
      refine ⟨inferInstance, ?_⟩
      have tl26 := w26.1
      refine XT.call rfl rfl Try.call15 rfl rfl rfl (cased_made vr vw vb vc kr h.rooms r2 ga hha a) (fun v29 s29 R29 => ?_) XT.stop
      obtain ⟨c29, u29, k29, rfl, rfl, O29, q29⟩ := R29
      dsimp only [List.cons_append, List.nil_append]
      refine ⟨inferInstance, ?_⟩
      have cl29 := q29.1.1
      refine XT.q rfl rfl (Q.assign rfl) ?_
      refine XT.st rfl rfl rfl rfl rfl ⟨inferInstance, ?_⟩ XT.stop
      refine XT.done ?_
      exact mtr2 ((t26, v26, k26, c29, u29, k29, b9)) _ _ ⟨w26, q29, O26, O29⟩ (.c rfl (.c rfl (.base 8 rfl rfl))) inferInstance
end Go.X
