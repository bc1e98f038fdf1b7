/- A part of the proof: a small program logic, plain laws and contracts of functions, each proved by a walk through its operations. No condition but those that stand in each theorem. -/
import Derived.Test.YtmpbiclgfnjjeaaA4
set_option linter.unusedSimpArgs false
set_option linter.unusedVariables false
set_option maxRecDepth 20000
namespace Go.X
open Go.Proofs
theorem sameInts (va vb : Value) (ha hb : PHeap) (a b : List Int) [ia : Arr va encI 1 ha a] [ib : Arr vb encI 1 hb b] : Spec Try.prog 99 #[va, vb] [] [ha, hb] (fun v hs => v = .bool (decide (a = b)) ∧ hs = []) := by
  have la := ia.le
  refine Spec.intro (fn := Try.f99) (N := 26) Try.func99 rfl Try.ntmps99 rfl fun B => ?_
  refine XK.seq (XK.region rfl (XO.q (Q.assign rfl) (XO.done (XK.seq (XK.seq ?_)))))
  refine XK.region rfl (XO.q (Q.move rfl) ?_)
  refine XO.len rfl fun l7 => ?_
  refine XO.q (Q.move rfl) ?_
  refine XO.len rfl fun l9 => ?_
  refine XO.q (Q.neq rfl rfl) ?_
  refine XO.done ?_
  refine XK.if rfl (fun c0 => ?_) (fun c0 => ?_)
  · skip
    refine XK.seq (XK.region rfl (XO.q (Q.assign rfl) (XO.done ?_)))
    refine XK.rt [] Try.func99 Try.results99 (.t rfl .n) ?_
    exact ⟨by rw [decide_eq_false (fun h => c0 (by rw [h]))], rfl⟩
  · skip
    refine XK.skip (XK.seq (XK.seq (XK.region rfl (XO.q (Q.assign rfl) (XO.done ?_)))))
    refine XK.block ?_
    refine XK.while (X := Nat) [4, 5, 11, 12, 13, 14, 15, 16, 17, 18, 19, 20, 21, 22, 23, 24, 25] (fun i => [(5, some (.int .i64 (i : Nat)))]) (fun i => []) (fun i => i ≤ a.length ∧ a.take i = b.take i) (fun i => a.length - i) (0) [] rfl ⟨by omega, rfl⟩ (.c rfl (.base 0 rfl rfl)) ?_
    rintro i ⟨hi, ht⟩ ih0
    dsimp only [lcA, lnA] at ih0 ⊢
    refine XK.seq (XK.seq (XK.region rfl (XO.q (Q.move rfl) (XO.q (Q.move rfl) ?_))))
    refine XO.len rfl fun l13 => ?_
    refine XO.q (Q.lss rfl rfl) ?_
    refine XO.done ?_
    refine XK.if rfl (fun c1 => ?_) (fun c1 => ?_)
    · skip
      refine XK.skip (XK.seq (XK.block (XK.seq ?_)))
      refine XK.drawn [0, 1, 2, 3, 4, 5, 6, 7, 8] [] [] (.q 0 (.q 1 (.q 2 (.q 3 (.q 4 (.q 5 (.q 6 (.q 7 (.q 8 .done))))))))) Try.mixed rfl (by kernel_rfl) ?_
      refine XT.q rfl rfl (Q.move rfl) ?_
      refine XT.q rfl rfl (Q.move rfl) ?_
      refine XT.ix rfl rfl rfl rfl (by omega) (by omega) fun i19 => ?_
      refine XT.q rfl rfl (Q.ldE rfl (by first | assumption | omega) rfl) ?_
      refine XT.q rfl rfl (Q.move rfl) ?_
      refine XT.q rfl rfl (Q.move rfl) ?_
      refine XT.ix rfl rfl rfl rfl (by omega) (by omega) fun i23 => ?_
      refine XT.q rfl rfl (Q.ldE rfl (by first | assumption | omega) rfl) ?_
      refine XT.q rfl rfl (Q.neq rfl rfl) ?_
      refine XT.done ?_
      refine XK.if rfl (fun c2 => ?_) (fun c2 => ?_)
      · skip
        refine XK.seq (XK.region rfl (XO.q (Q.assign rfl) (XO.done ?_)))
        refine XK.rt [] Try.func99 Try.results99 (.t rfl .n) ?_
        exact ⟨by rw [decide_eq_false (fun h => c2 (by rw [h]))], rfl⟩
      · skip
        refine XK.skip ?_
        refine XK.inBlock ?_
        refine XK.region rfl (XO.q (Q.move rfl) ?_)
        refine XO.q (Q.add rfl rfl ⟨by omega, by omega⟩) ?_
        refine XO.q (Q.assign rfl) (XO.done ?_)
        exact ih0 (i + 1) _ _ ⟨by omega, take_step ht (by omega) (by omega) (Decidable.of_not_not c2)⟩ (by first | omega | (dsimp only; omega)) (.c rfl (.base 34 rfl rfl)) inferInstance
    · skip
      refine XK.exit rfl ?_
      refine XK.seq (XK.region rfl (XO.q (Q.assign rfl) (XO.done ?_)))
      refine XK.rt [] Try.func99 Try.results99 (.t rfl .n) ?_
      exact ⟨by rw [decide_eq_true (take_all ht c1 (by omega))], rfl⟩
theorem sameList (va vb : Value) (ha hb : PHeap) (a b : List Int) [ia : Arr va encI 1 ha a] [ib : Arr vb encI 1 hb b] : Spec Try.prog 91 #[va, vb] [] [ha, hb] (fun v hs => v = .bool (decide (a = b)) ∧ hs = []) := by
  refine Spec.intro (fn := Try.f91) (N := 8) Try.func91 rfl Try.ntmps91 rfl fun B => ?_
  refine XK.seq (XK.region rfl (XO.q (Q.assign rfl) (XO.done (XK.seq (XK.region rfl ?_)))))
  refine XO.q (Q.move rfl) (XO.q (Q.move rfl) ?_)
  refine XO.call Try.call99 rfl rfl rfl (sameInts va vb ha hb a b) fun v7 s7 R7 => ?_
  obtain ⟨rfl, rfl⟩ := R7
  dsimp only [lcA, lnA]
  refine XO.q (Q.assign rfl) (XO.done ?_)
  refine XK.rt [] Try.func91 Try.results91 (.t rfl .n) ?_
  exact ⟨rfl, rfl⟩
theorem sameLists (va vb : Value) (ha hb Ka Kb : PHeap) (us ws : List Value) [ia : Arr va encV 1 ha us] [ib : Arr vb encV 1 hb ws] (a b : List (List Int)) (ra : Rows us Ka a) (rb : Rows ws Kb b) : Spec Try.prog 59 #[va, vb] [] [ha, hb, Ka, Kb] (fun v hs => v = .bool (decide (a = b)) ∧ hs = []) := by
  have la := ia.le
  have l1 := ra.1
  have l2 := rb.1
  refine Spec.intro (fn := Try.f59) (N := 27) Try.func59 rfl Try.ntmps59 rfl fun B => ?_
  refine XK.seq (XK.region rfl (XO.q (Q.assign rfl) (XO.done (XK.seq (XK.seq ?_)))))
  refine XK.region rfl (XO.q (Q.move rfl) ?_)
  refine XO.len rfl fun l7 => ?_
  refine XO.q (Q.move rfl) ?_
  refine XO.len rfl fun l9 => ?_
  refine XO.q (Q.neq rfl rfl) ?_
  refine XO.done ?_
  refine XK.if rfl (fun c0 => ?_) (fun c0 => ?_)
  · skip
    refine XK.seq (XK.region rfl (XO.q (Q.assign rfl) (XO.done ?_)))
    refine XK.rt [] Try.func59 Try.results59 (.t rfl .n) ?_
    exact ⟨by rw [decide_eq_false (fun h => c0 (by rw [l1, l2, h]))], rfl⟩
  · skip
    refine XK.skip (XK.seq (XK.seq (XK.region rfl (XO.q (Q.assign rfl) (XO.done ?_)))))
    refine XK.block ?_
    refine XK.while (X := Nat) [4, 5, 11, 12, 13, 14, 15, 16, 17, 18, 19, 20, 21, 22, 23, 24, 25, 26] (fun i => [(5, some (.int .i64 (i : Nat)))]) (fun i => []) (fun i => i ≤ us.length ∧ a.take i = b.take i) (fun i => us.length - i) (0) [] rfl ⟨by omega, rfl⟩ (.c rfl (.base 0 rfl rfl)) ?_
    rintro i ⟨hi, ht⟩ ih0
    dsimp only [lcA, lnA] at ih0 ⊢
    refine XK.seq (XK.seq (XK.region rfl (XO.q (Q.move rfl) (XO.q (Q.move rfl) ?_))))
    refine XO.len rfl fun l13 => ?_
    refine XO.q (Q.lss rfl rfl) ?_
    refine XO.done ?_
    refine XK.if rfl (fun c1 => ?_) (fun c1 => ?_)
    · skip
      have aa := ra.2 i (by omega)
      have ab := rb.2 i (by omega)
      refine XK.skip (XK.seq (XK.block (XK.seq ?_)))
      refine XK.drawn [0, 1, 2, 3, 4, 5, 6, 7, 9] [] [] (.q 0 (.q 1 (.q 2 (.q 3 (.q 4 (.q 5 (.q 6 (.q 7 (.br 8 true (.q 9 .done) .stop))))))))) Try.mixed rfl (by kernel_rfl) ?_
      refine XT.q rfl rfl (Q.move rfl) ?_
      refine XT.q rfl rfl (Q.move rfl) ?_
      refine XT.ix rfl rfl rfl rfl (by omega) (by omega) fun i19 => ?_
      refine XT.q rfl rfl (Q.ldE rfl (by first | assumption | omega) rfl) ?_
      refine XT.q rfl rfl (Q.move rfl) ?_
      refine XT.q rfl rfl (Q.move rfl) ?_
      refine XT.ix rfl rfl rfl rfl (by omega) (by omega) fun i23 => ?_
      refine XT.q rfl rfl (Q.ldE rfl (by first | assumption | omega) rfl) ?_
      refine XT.call rfl rfl Try.call91 rfl rfl rfl (sameList (us.getD i default) (ws.getD i default) Ka Kb (a.getD i default) (b.getD i default)) (fun v25 s25 R25 => ?_) XT.stop
      obtain ⟨rfl, rfl⟩ := R25
      dsimp only [lcA, lnA]
      refine ⟨inferInstance, ?_⟩
      refine XT.q rfl rfl (Q.not rfl) ?_
      refine XT.done ?_
      refine XK.if rfl (fun c2 => ?_) (fun c2 => ?_)
      · skip
        refine XK.seq (XK.region rfl (XO.q (Q.assign rfl) (XO.done ?_)))
        refine XK.rt [] Try.func59 Try.results59 (.t rfl .n) ?_
        exact ⟨by rw [decide_eq_false (fun h => c2 (by rw [h]))], rfl⟩
      · skip
        refine XK.skip ?_
        refine XK.inBlock ?_
        refine XK.region rfl (XO.q (Q.move rfl) ?_)
        refine XO.q (Q.add rfl rfl ⟨by omega, by omega⟩) ?_
        refine XO.q (Q.assign rfl) (XO.done ?_)
        exact ih0 (i + 1) _ _ ⟨by omega, take_step ht (by omega) (by omega) (Decidable.of_not_not c2)⟩ (by first | omega | (dsimp only; omega)) (.c rfl (.base 36 rfl rfl)) inferInstance
    · skip
      refine XK.exit rfl ?_
      refine XK.seq (XK.region rfl (XO.q (Q.assign rfl) (XO.done ?_)))
      refine XK.rt [] Try.func59 Try.results59 (.t rfl .n) ?_
      exact ⟨by rw [decide_eq_true (take_all ht (by omega) (by omega))], rfl⟩
theorem rRun_spec (h : Hall) (vr vw vb vc : Value) (hr hw hb hc : PHeap) [ir : Arr vr encRoom 2 hr h.rooms] [iw : Arr vw encWall 3 hw h.walls] [ib : Arr vb encBranch 3 hb h.branches] [ic : Arr vc encCooler 5 hc h.coolers] (t : List Int) (vt : Value) (ht : PHeap) [it : Arr vt encI 1 ht t] (l : List (Value × HCase)) (vl : Value) (hl hL : PHeap) [il : Arr vl encCV 3 hl l] (aL : ∀ i, i < l.length → Arr (l.getD i default).1 encI 1 hL (l.getD i default).2.load) :
    Spec Try.prog 58 #[.agg #[vr, vw, vb, vc], vt, vl] [] [hr, hw, hb, hc, ht, hl, hL] (fun v hs => ∃ v1 k1 K us, v = .tuple #[v1, .int .i64 (runG h t (l.map Prod.snd)).2] ∧ hs = [k1, K] ∧ OArr v1 encV 1 31 k1 us ∧ Rows us K (runG h t (l.map Prod.snd)).1) := by
  have hnil : OArr (.slice none 0 0) encV 1 31 emp ([] : List Value) := OArr.nil (fun _ => rfl)
  have hml : (l.map Prod.snd).length = l.length := List.length_map ..
  refine Spec.intro (fn := Try.f58) (N := 59) Try.func58 rfl Try.ntmps58 rfl fun B => ?_
  refine XK.seq (XK.region rfl ?_)
  refine XO.box rfl fun b3 => ?_
  refine XO.q (Q.assign rfl) (XO.q (Q.assign rfl) (XO.done (XK.seq (XK.seq (XK.region rfl ?_)))))
  refine XO.q (Q.ldA [_, _, _, _] rfl rfl rfl) ?_
  refine XO.call Try.call55 rfl rfl rfl (rCheck_spec h vr vw vb vc hr hw hb hc) fun v14 s14 R14 => ?_
  obtain ⟨rfl, rfl⟩ := R14
  dsimp only [lcA, lnA]
  refine XO.q (Q.assign rfl) (XO.done (XK.seq (XK.region rfl (XO.q (Q.move rfl) ?_))))
  refine XO.q (Q.neq rfl rfl) ?_
  refine XO.done ?_
  refine XK.if rfl (fun c0 => ?_) (fun c0 => ?_)
  · skip
    refine XK.seq (XK.region rfl (XO.q (Q.move rfl) (XO.q (Q.assign rfl) (XO.q (Q.assign rfl) (XO.done ?_)))))
    refine XK.rt [emp, emp] Try.func58 Try.results58 (.t rfl (.t rfl .n)) ?_
    have hw0 : runG h t (l.map Prod.snd) = ([], hcheck h) := by rw [runG_errs, if_pos c0]
    rw [hw0]
    exact ⟨.slice none 0 0, emp, emp, [], rfl, rfl, OArr.nil (fun _ => rfl), rfl, fun i hi => absurd hi (Nat.not_lt_zero i)⟩
  · skip
    refine XK.skip (XK.seq (XK.seq (XK.region rfl (XO.q (Q.move rfl) ?_))))
    refine XO.len rfl fun l19 => ?_
    refine XO.q (Q.gtr rfl rfl) ?_
    refine XO.done ?_
    refine XK.if rfl (fun c1 => ?_) (fun c1 => ?_)
    · skip
      refine XK.seq (XK.region rfl (XO.q (Q.assign rfl) (XO.q (Q.assign rfl) (XO.done ?_))))
      refine XK.rt [emp, emp] Try.func58 Try.results58 (.t rfl (.t rfl .n)) ?_
      have hw0 : runG h t (l.map Prod.snd) = ([], 2) := by rw [runG_errs, if_neg c0, if_pos (by omega)]
      rw [hw0]
      exact ⟨.slice none 0 0, emp, emp, [], rfl, rfl, OArr.nil (fun _ => rfl), rfl, fun i hi => absurd hi (Nat.not_lt_zero i)⟩
    · skip
      refine XK.skip (XK.seq (XK.region rfl ?_))
      refine XO.q (Q.ldA [_, _, _, _] rfl rfl rfl) ?_
      refine XO.q (Q.move rfl) ?_
      refine XO.call Try.call86 rfl rfl rfl (rwarm_spec h vr vw vb vc hr vt ht t) fun v23 s23 R23 => ?_
      obtain ⟨rfl, rfl⟩ := R23
      dsimp only [lcA, lnA]
      refine XO.q (Q.assign rfl) (XO.done (XK.seq (XK.seq (XK.region rfl (XO.q (Q.assign rfl) ?_)))))
      refine XO.done (XK.block ?_)
      refine XK.while (X := Nat × Int) [9, 10, 24, 25, 26, 27, 28, 29, 30, 31, 32, 33, 34, 35, 36, 37] (fun ⟨i, s⟩ => [(10, some (.int .i64 (i : Nat))), (9, some (.int .i64 s))]) (fun ⟨i, s⟩ => []) (fun ⟨i, s⟩ => i ≤ l.length ∧ s = bothP (errsR h t ((List.range (i)).map (fun j => (l.getD j default).2)))) (fun ⟨i, s⟩ => l.length - i) (0, _) [] rfl ⟨by first | omega | (dsimp only; omega), warm_join.symm⟩ (.c rfl (.c rfl (.base 0 rfl rfl))) ?_
      rintro ⟨i, s⟩ ⟨hi, hs⟩ ih0
      dsimp only [lcA, lnA] at ih0 ⊢
      refine XK.seq (XK.seq (XK.region rfl (XO.q (Q.move rfl) (XO.q (Q.move rfl) ?_))))
      refine XO.len rfl fun l26 => ?_
      refine XO.q (Q.lss rfl rfl) ?_
      refine XO.done ?_
      refine XK.if rfl (fun c2 => ?_) (fun c2 => ?_)
      · skip
        have ai := aL i (by omega)
        refine XK.skip (XK.seq (XK.block ?_))
        refine XK.drawn [0, 1, 2, 3, 4, 5, 8] [b3] [] (.q 0 (.q 1 (.q 2 (.q 3 (.q 4 (.q 5 (.br 6 true (.br 7 true (.q 8 .done) .stop) .stop))))))) Try.mixed rfl (by kernel_rfl) ?_
        refine XT.q rfl rfl (Q.move rfl) ?_
        refine XT.q rfl rfl (Q.ldA [_, _, _, _] rfl rfl rfl) ?_
        refine XT.q rfl rfl (Q.move rfl) ?_
        refine XT.q rfl rfl (Q.move rfl) ?_
        refine XT.ix rfl rfl rfl rfl (by omega) (by omega) fun i34 => ?_
        refine XT.q rfl rfl (Q.ldEA [_, _, _] rfl (by first | assumption | omega) rfl rfl) ?_
        refine XT.call rfl rfl Try.call89 rfl rfl rfl (rcased_spec h vr vw vb vc hr (l.getD i default).1 hL (l.getD i default).2) (fun v36 s36 R36 => ?_) XT.stop
        obtain ⟨rfl, rfl⟩ := R36
        dsimp only [lcA, lnA]
        refine ⟨inferInstance, ?_⟩
        refine XT.call rfl rfl Try.call88 rfl rfl rfl (rjoined_spec _ _) (fun v37 s37 R37 => ?_) XT.stop
        obtain ⟨rfl, rfl⟩ := R37
        dsimp only [lcA, lnA]
        refine ⟨inferInstance, ?_⟩
        refine XT.q rfl rfl (Q.assign rfl) ?_
        refine XT.done ?_
        refine XK.inBlock ?_
        refine XK.region rfl (XO.q (Q.move rfl) ?_)
        refine XO.q (Q.add rfl rfl ⟨by omega, by omega⟩) ?_
        refine XO.q (Q.assign rfl) (XO.done ?_)
        exact ih0 (i + 1, _) _ _ ⟨by first | omega | (dsimp only; omega), by show joinP s (casedP h (l.getD i default).2) = bothP (errsR h t ((List.range (i + 1)).map (fun j => (l.getD j default).2))); rw [range_snoc, errsR_snoc, ← join_snoc, ← hs]⟩ (by first | omega | (dsimp only; omega)) (.c rfl (.c rfl (.base 34 rfl rfl))) inferInstance
      · skip
        have hn : i = l.length := by omega
        subst hn
        rw [range_getD l (fun x => x.2)] at hs
        subst hs
        refine XK.exit rfl ?_
        refine XK.seq (XK.seq (XK.region rfl (XO.q (Q.move rfl) ?_)))
        refine XO.q (Q.neq rfl rfl) ?_
        refine XO.done ?_
        refine XK.if rfl (fun c3 => ?_) (fun c3 => ?_)
        · skip
          refine XK.seq (XK.region rfl (XO.q (Q.move rfl) (XO.q (Q.assign rfl) (XO.q (Q.assign rfl) (XO.done ?_)))))
          refine XK.rt [emp, emp] Try.func58 Try.results58 (.t rfl (.t rfl .n)) ?_
          have hw0 : runG h t (l.map Prod.snd) = ([], bothP (errsR h t (l.map Prod.snd))) := by rw [runG_errs, if_neg c0, if_neg (by omega), if_pos c3]
          rw [hw0]
          exact ⟨.slice none 0 0, emp, emp, [], rfl, rfl, OArr.nil (fun _ => rfl), rfl, fun i hi => absurd hi (Nat.not_lt_zero i)⟩
        · skip
          have ok := hcheck_ok (Decidable.of_not_not c0)
          have c3 := Decidable.of_not_not c3
          have okt : TOk h t := both_warm c3 (by simp [errsR])
          have okc : ∀ i, i < l.length → COk h (l.getD i default).2 := fun i hi => both_cased c3 (List.mem_cons_of_mem _ (List.mem_map.2 ⟨_, List.mem_map.2 ⟨_, getD_mem hi, rfl⟩, rfl⟩))
          refine XK.skip (XK.seq (XK.region rfl (XO.q (Q.assign rfl) (XO.done (XK.seq ?_)))))
          refine XK.seq (XK.region rfl (XO.q (Q.assign rfl) (XO.done (XK.block ?_))))
          refine XK.while (X := Nat × Value × PHeap × Value × PHeap × PHeap × List Value) [1, 11, 12, 41, 42, 43, 44, 45, 46, 47, 48, 49, 50, 51, 52, 53, 54, 55, 56, 57] (fun ⟨i, vx, kx, vo, ho, K, us⟩ => [(12, some (.int .i64 (i : Nat))), (1, some (vx)), (11, some (vo))]) (fun ⟨i, vx, kx, vo, ho, K, us⟩ => [ho, K]) (fun ⟨i, vx, kx, vo, ho, K, us⟩ => i ≤ l.length ∧ Arr vx encI 1 kx (iterT h (fun i => (l.getD i default).2) t i) ∧ Either kx ht K ∧ OArr vo encV 1 31 ho us ∧ RowsTo us K h (fun i => (l.getD i default).2) t i) (fun ⟨i, vx, kx, vo, ho, K, us⟩ => l.length - i) (0, vt, ht, .slice none 0 0, emp, emp, []) [emp, emp] rfl ⟨by first | omega | (dsimp only; omega), it, ⟨.inl rfl⟩, hnil, RowsTo.nil⟩ (.c rfl (.c rfl (.c rfl (.base 0 rfl rfl)))) ?_
          rintro ⟨i, vx, kx, vo, ho, K, us⟩ ⟨hi, aT, eT, OO, rT⟩ ih1
          dsimp only [lcA, lnA] at ih1 ⊢
          refine XK.seq (XK.seq (XK.region rfl (XO.q (Q.move rfl) (XO.q (Q.move rfl) ?_))))
          refine XO.len rfl fun l43 => ?_
          refine XO.q (Q.lss rfl rfl) ?_
          refine XO.done ?_
          refine XK.if rfl (fun c4 => ?_) (fun c4 => ?_)
          · skip
            have ai := aL i (by omega)
            have hul := rT.1
            refine XK.skip (XK.seq (XK.block (XK.seq ?_)))
            refine XK.drawn [0, 1, 2, 3, 4, 5, 7] [b3] [] (.q 0 (.q 1 (.q 2 (.q 3 (.q 4 (.q 5 (.br 6 true (.q 7 .done) .stop))))))) Try.mixed rfl (by kernel_rfl) ?_
            refine XT.q rfl rfl (Q.ldA [_, _, _, _] rfl rfl rfl) ?_
            refine XT.q rfl rfl (Q.move rfl) ?_
            refine XT.q rfl rfl (Q.move rfl) ?_
            refine XT.q rfl rfl (Q.move rfl) ?_
            refine XT.ix rfl rfl rfl rfl (by omega) (by omega) fun i51 => ?_
            refine XT.q rfl rfl (Q.ldEA [_, _, _] rfl (by first | assumption | omega) rfl rfl) ?_
            refine XT.call rfl rfl Try.call90 rfl rfl rfl (rStep_spec h vr vw vb vc hr hw hb hc ok (iterT h (fun i => (l.getD i default).2) t i) vx kx (iter_ok2 ok okt okc i (by omega)) (l.getD i default).2 (okc i (by omega)) (l.getD i default).1 hL) (fun v53 s53 R53 => ?_) XT.stop
            obtain ⟨k53, rfl, O53⟩ := R53
            dsimp only [lcA, lnA]
            refine ⟨inferInstance, ?_⟩
            refine XT.q rfl rfl (Q.assign rfl) ?_
            refine XT.done ?_
            refine XK.region rfl ?_
            refine XO.cat K k53 fun leK le53 => ?_
            have A53 : Arr v53 encI 1 (cat K k53) (iterT h (fun i => (l.getD i default).2) t (i + 1)) := Arr.le_heap (OArr.arr (s := O53)) le53
            clear O53
            refine XO.q (Q.move rfl) (XO.q (Q.move rfl) ?_)
            refine XO.lit [_] [_] [v53] encV (by rfl) (by rfl) rfl (by rfl) (by exact .c 0 1 rfl rfl rfl (.n _)) (fun _ => rfl) (by rfl) rfl (by infer_instance) rfl fun v56 h56 O56 => ?_
            refine XO.append rfl rfl rfl rfl (by simp only [List.length_cons, List.length_nil]; omega) fun v57 h57 O57 => ?_
            refine XO.q (Q.assign rfl) (XO.done ?_)
            refine XK.inBlock ?_
            refine XK.region rfl (XO.q (Q.move rfl) ?_)
            refine XO.q (Q.add rfl rfl ⟨by omega, by omega⟩) ?_
            refine XO.q (Q.assign rfl) (XO.done ?_)
            exact ih1 (i + 1, v53, cat K k53, v57, h57, cat K k53, us ++ [v53]) _ _ ⟨by first | omega | (dsimp only; omega), A53, ⟨.inr rfl⟩, O57, (rT.mono leK).snoc A53⟩ (by first | omega | (dsimp only; omega)) (.c rfl (.c rfl (.c rfl (.base 43 rfl rfl)))) inferInstance
          · skip
            refine XK.exit rfl ?_
            refine XK.seq (XK.region rfl (XO.q (Q.move rfl) (XO.q (Q.assign rfl) (XO.q (Q.assign rfl) (XO.done ?_)))))
            refine XK.rt [ho, K] Try.func58 Try.results58 (.t rfl (.t rfl .n)) ?_
            have hin : i = l.length := by omega
            subst hin
            have hw0 : runG h t (l.map Prod.snd) = (rowsL h (fun i => (l.getD i default).2) t l.length, 0) := by rw [runG_errs, if_neg c0, if_neg (by omega), if_neg (by rw [c3]; decide), map_snd_getD, hml]
            rw [hw0]
            exact ⟨vo, ho, K, us, rfl, rfl, OO, rT.rows⟩
theorem rbetween_spec (a c d : HCase) (va vc vd : Value) (ha hc hd : PHeap) [ia : Arr va encI 1 ha a.load] [ic : Arr vc encI 1 hc c.load] [id : Arr vd encI 1 hd d.load] (h1 : c.load.length ≤ a.load.length) (h2 : c.load.length ≤ d.load.length) :
    Spec Try.prog 97 #[.agg #[va, .int .i64 a.out, .int .i64 a.pump], .agg #[vc, .int .i64 c.out, .int .i64 c.pump], .agg #[vd, .int .i64 d.out, .int .i64 d.pump]] [] [ha, hc, hd] (fun v hs => v = .bool (betweenP a c d) ∧ hs = []) := by
  refine Spec.intro (fn := Try.f97) (N := 48) Try.func97 rfl Try.ntmps97 rfl fun B => ?_
  refine XK.seq (XK.region rfl ?_)
  refine XO.box rfl fun b3 => ?_
  refine XO.box rfl fun b4 => ?_
  refine XO.box rfl fun b5 => ?_
  refine XO.q (Q.assign rfl) (XO.done (XK.seq (XK.seq (XK.region rfl (XO.q (Q.assign rfl) ?_)))))
  refine XO.done (XK.block ?_)
  refine XK.while (X := Nat) [6, 7, 8, 9, 10, 11, 12, 13, 14, 15, 16, 17, 18, 19, 20, 21, 22, 23, 24, 25, 26, 27, 28, 29, 30, 31] (fun i => [(7, some (.int .i64 (i : Nat)))]) (fun i => []) (fun i => i ≤ c.load.length ∧ allTo (fun i => inR (c.load.getD i 0) (a.load.getD i 0) (d.load.getD i 0)) i = true) (fun i => c.load.length - i) (0) [] rfl ⟨by omega, rfl⟩ (.c rfl (.base 0 rfl rfl)) ?_
  rintro i ⟨hi, ht⟩ ih0
  dsimp only [lcA, lnA] at ih0 ⊢
  refine XK.seq (XK.seq (XK.region rfl (XO.q (Q.move rfl) ?_)))
  refine XO.q (Q.fieldAddr rfl) ?_
  refine XO.q (Q.ld rfl rfl) ?_
  refine XO.len rfl fun l11 => ?_
  refine XO.q (Q.lss rfl rfl) ?_
  refine XO.done ?_
  refine XK.if rfl (fun c0 => ?_) (fun c0 => ?_)
  · skip
    refine XK.skip (XK.seq (XK.block (XK.seq ?_)))
    refine XK.drawn [0, 1, 2, 3, 4, 5, 6, 7, 8, 9, 10, 11, 12, 13, 14, 16] [b4, b3, b5] [] (.q 0 (.q 1 (.q 2 (.q 3 (.q 4 (.q 5 (.q 6 (.q 7 (.q 8 (.q 9 (.q 10 (.q 11 (.q 12 (.q 13 (.q 14 (.br 15 true (.q 16 .done) .stop)))))))))))))))) Try.mixed rfl (by kernel_rfl) ?_
    refine XT.q rfl rfl (Q.fieldAddr rfl) ?_
    refine XT.q rfl rfl (Q.ld rfl rfl) ?_
    refine XT.q rfl rfl (Q.move rfl) ?_
    refine XT.ix rfl rfl rfl rfl (by omega) (by omega) fun i18 => ?_
    refine XT.q rfl rfl (Q.ldE rfl (by first | assumption | omega) rfl) ?_
    refine XT.q rfl rfl (Q.fieldAddr rfl) ?_
    refine XT.q rfl rfl (Q.ld rfl rfl) ?_
    refine XT.q rfl rfl (Q.move rfl) ?_
    refine XT.ix rfl rfl rfl rfl (by omega) (by omega) fun i23 => ?_
    refine XT.q rfl rfl (Q.ldE rfl (by first | assumption | omega) rfl) ?_
    refine XT.q rfl rfl (Q.fieldAddr rfl) ?_
    refine XT.q rfl rfl (Q.ld rfl rfl) ?_
    refine XT.q rfl rfl (Q.move rfl) ?_
    refine XT.ix rfl rfl rfl rfl (by omega) (by omega) fun i28 => ?_
    refine XT.q rfl rfl (Q.ldE rfl (by first | assumption | omega) rfl) ?_
    refine XT.call rfl rfl Try.call84 rfl rfl rfl (rin_spec _ _ _) (fun v30 s30 R30 => ?_) XT.stop
    obtain ⟨rfl, rfl⟩ := R30
    dsimp only [lcA, lnA]
    refine ⟨inferInstance, ?_⟩
    refine XT.q rfl rfl (Q.not rfl) ?_
    refine XT.done ?_
    refine XK.if rfl (fun c1 => ?_) (fun c1 => ?_)
    · skip
      refine XK.seq (XK.region rfl (XO.q (Q.assign rfl) (XO.done ?_)))
      refine XK.rt [] Try.func97 Try.results97 (.t rfl .n) ?_
      exact ⟨by rw [between_r, allTo_false (s := i) (by omega) (Bool.eq_false_iff.2 c1)]; rfl, rfl⟩
    · skip
      refine XK.skip ?_
      refine XK.inBlock ?_
      refine XK.region rfl (XO.q (Q.move rfl) ?_)
      refine XO.q (Q.add rfl rfl ⟨by omega, by omega⟩) ?_
      refine XO.q (Q.assign rfl) (XO.done ?_)
      exact ih0 (i + 1) _ _ ⟨by omega, by rw [allTo_succ, ht, Bool.true_and]; exact Decidable.of_not_not c1⟩ (by first | omega | (dsimp only; omega)) (.c rfl (.base 52 rfl rfl)) inferInstance
  · skip
    refine XK.exit rfl ?_
    refine XK.seq (XK.region rfl ?_)
    refine XO.q (Q.fieldAddr rfl) ?_
    refine XO.q (Q.ld rfl rfl) ?_
    refine XO.q (Q.fieldAddr rfl) ?_
    refine XO.q (Q.ld rfl rfl) ?_
    refine XO.q (Q.fieldAddr rfl) ?_
    refine XO.q (Q.ld rfl rfl) ?_
    refine XO.call Try.call84 rfl rfl rfl (rin_spec _ _ _) fun v38 s38 R38 => ?_
    obtain ⟨rfl, rfl⟩ := R38
    dsimp only [lcA, lnA]
    refine XO.q (Q.move rfl) ?_
    refine XO.q (Quiet.guardT rfl rfl fun g40 p40 => Q.fieldAddr rfl) ?_
    refine XO.q (Quiet.guardT rfl rfl fun g41 p41 => Q.ld (lzv g41 rfl) rfl) ?_
    refine XO.q (Quiet.guardT rfl rfl fun g42 p42 => Q.fieldAddr rfl) ?_
    refine XO.q (Quiet.guardT rfl rfl fun g43 p43 => Q.ld (lzv g43 rfl) rfl) ?_
    refine XO.q (Quiet.guardT rfl rfl fun g44 p44 => Q.fieldAddr rfl) ?_
    refine XO.q (Quiet.guardT rfl rfl fun g45 p45 => Q.ld (lzv g45 rfl) rfl) ?_
    refine XO.gcallT rfl rfl Try.call84 rfl (fun g46 => .c (lzv g46 rfl) (.c (lzv g46 rfl) (.c (lzv g46 rfl) .n))) rfl (fun g46 p46 => rin_spec _ _ _) ?_
    refine XO.q (Q.and rfl (fun hp => lzv hp rfl)) ?_
    refine XO.q (Q.assign rfl) (XO.done ?_)
    refine XK.rt [] Try.func97 Try.results97 (.t rfl .n) ?_
    have hn : i = c.load.length := by omega
    rw [hn] at ht
    exact ⟨by rw [between_r, ht, Bool.true_and], rfl⟩
theorem rclassed_spec (h : Hall) (vr vw vb vc : Value) (hr hw hb hc : PHeap) [ir : Arr vr encRoom 2 hr h.rooms] [iw : Arr vw encWall 3 hw h.walls] [ib : Arr vb encBranch 3 hb h.branches] [ic : Arr vc encCooler 5 hc h.coolers] (a d : HCase) (va vd : Value) (ha hd : PHeap) [ia : Arr va encI 1 ha a.load] [id : Arr vd encI 1 hd d.load] (c : HCase) (vl : Value) (hl : PHeap) [il : Arr vl encI 1 hl c.load] : Spec Try.prog 96 #[.agg #[vr, vw, vb, vc], .agg #[va, .int .i64 a.out, .int .i64 a.pump, vd, .int .i64 d.out, .int .i64 d.pump], .agg #[vl, .int .i64 c.out, .int .i64 c.pump]] [] [hr, hw, hb, hc, ha, hd, hl] (fun v hs => v = .int .i64 (classedG h a d [c]) ∧ hs = []) := by
  refine Spec.intro (fn := Try.f96) (N := 48) Try.func96 rfl Try.ntmps96 rfl fun B => ?_
  refine XK.seq (XK.region rfl ?_)
  refine XO.box rfl fun b3 => ?_
  refine XO.box rfl fun b4 => ?_
  refine XO.box rfl fun b5 => ?_
  refine XO.q (Q.assign rfl) (XO.done (XK.seq (XK.seq (XK.region rfl ?_))))
  refine XO.q (Q.ldA [_, _, _, _] rfl rfl rfl) ?_
  refine XO.call Try.call55 rfl rfl rfl (rCheck_spec h vr vw vb vc hr hw hb hc) fun v10 s10 R10 => ?_
  obtain ⟨rfl, rfl⟩ := R10
  dsimp only [lcA, lnA]
  refine XO.q (Q.assign rfl) (XO.done (XK.seq (XK.region rfl (XO.q (Q.move rfl) ?_))))
  refine XO.q (Q.neq rfl rfl) ?_
  refine XO.done ?_
  refine XK.if rfl (fun c0 => ?_) (fun c0 => ?_)
  · skip
    refine XK.seq (XK.region rfl (XO.q (Q.move rfl) (XO.q (Q.assign rfl) (XO.done ?_))))
    refine XK.rt [] Try.func96 Try.results96 (.t rfl .n) ?_
    exact ⟨by rw [classedG_errs, if_pos c0], rfl⟩
  · skip
    refine XK.skip (XK.seq (XK.seq ?_))
    refine XK.drawn [0, 1, 2, 4, 5, 6, 9, 10, 13] [b3, b4, b5] [] (.q 0 (.q 1 (.q 2 (.q 4 (.q 5 (.q 6 (.q 9 (.q 10 (.br 3 true (.br 7 true (.br 8 true (.br 11 true (.br 12 true (.q 13 .done) .stop) .stop) .stop) .stop) .stop))))))))) Try.mixed rfl (by kernel_rfl) ?_
    refine XT.q rfl rfl (Q.ldA [_, _, _, _] rfl rfl rfl) ?_
    refine XT.q rfl rfl (Q.fieldAddr rfl) ?_
    refine XT.q rfl rfl (Q.ldA [_, _, _] rfl rfl rfl) ?_
    refine XT.q rfl rfl (Q.ldA [_, _, _, _] rfl rfl rfl) ?_
    refine XT.q rfl rfl (Q.fieldAddr rfl) ?_
    refine XT.q rfl rfl (Q.ldA [_, _, _] rfl rfl rfl) ?_
    refine XT.q rfl rfl (Q.ldA [_, _, _, _] rfl rfl rfl) ?_
    refine XT.q rfl rfl (Q.ldA [_, _, _] rfl rfl rfl) ?_
    refine XT.call rfl rfl Try.call89 rfl rfl rfl (rcased_spec h vr vw vb vc hr va ha a) (fun v17 s17 R17 => ?_) XT.stop
    obtain ⟨rfl, rfl⟩ := R17
    dsimp only [lcA, lnA]
    refine ⟨inferInstance, ?_⟩
    refine XT.call rfl rfl Try.call89 rfl rfl rfl (rcased_spec h vr vw vb vc hr vd hd d) (fun v21 s21 R21 => ?_) XT.stop
    obtain ⟨rfl, rfl⟩ := R21
    dsimp only [lcA, lnA]
    refine ⟨inferInstance, ?_⟩
    refine XT.call rfl rfl Try.call88 rfl rfl rfl (rjoined_spec _ _) (fun v22 s22 R22 => ?_) XT.stop
    obtain ⟨rfl, rfl⟩ := R22
    dsimp only [lcA, lnA]
    refine ⟨inferInstance, ?_⟩
    rw [join_both]
    refine XT.call rfl rfl Try.call89 rfl rfl rfl (rcased_spec h vr vw vb vc hr vl hl c) (fun v25 s25 R25 => ?_) XT.stop
    obtain ⟨rfl, rfl⟩ := R25
    dsimp only [lcA, lnA]
    refine ⟨inferInstance, ?_⟩
    refine XT.call rfl rfl Try.call88 rfl rfl rfl (rjoined_spec _ _) (fun v26 s26 R26 => ?_) XT.stop
    obtain ⟨rfl, rfl⟩ := R26
    dsimp only [lcA, lnA]
    refine ⟨inferInstance, ?_⟩
    rw [join_snoc]
    refine XT.q rfl rfl (Q.assign rfl) ?_
    refine XT.done ?_
    refine XK.seq (XK.region rfl (XO.q (Q.move rfl) ?_))
    refine XO.q (Q.neq rfl rfl) ?_
    refine XO.done ?_
    refine XK.if rfl (fun c1 => ?_) (fun c1 => ?_)
    · skip
      refine XK.seq (XK.region rfl (XO.q (Q.move rfl) (XO.q (Q.assign rfl) (XO.done ?_))))
      refine XK.rt [] Try.func96 Try.results96 (.t rfl .n) ?_
      exact ⟨by rw [classedG_errs, if_neg c0, if_pos (show bothP (errsL h a d [c]) ≠ 0 from c1)]; rfl, rfl⟩
    · skip
      have c1 := Decidable.of_not_not c1
      have oka : COk h a := both_cased c1 (by simp)
      have okd : COk h d := both_cased c1 (by simp)
      have hec : errsL h a d [c] = [casedP h a, casedP h d] ++ [casedP h c] := rfl
      have hld : a.load.length = d.load.length := by rw [oka.len, okd.len]
      refine XK.skip (XK.seq (XK.seq (XK.region rfl ?_)))
      refine XO.q (Q.fieldAddr rfl) ?_
      refine XO.q (Q.ldA [_, _, _] rfl rfl rfl) ?_
      refine XO.q (Q.fieldAddr rfl) ?_
      refine XO.q (Q.ldA [_, _, _] rfl rfl rfl) ?_
      refine XO.q (Q.fieldAddr rfl) ?_
      refine XO.q (Q.ldA [_, _, _] rfl rfl rfl) ?_
      refine XO.call Try.call97 rfl rfl rfl (rbetween_spec a a d va va vd ha ha hd (Nat.le_refl _) (by rw [oka.len, okd.len]; exact Nat.le_refl _)) fun v36 s36 R36 => ?_
      obtain ⟨rfl, rfl⟩ := R36
      dsimp only [lcA, lnA]
      refine XO.q (Q.not rfl) ?_
      refine XO.q (Q.move rfl) ?_
      refine XO.q (Quiet.guardF rfl rfl fun g39 p39 => Q.fieldAddr rfl) ?_
      refine XO.q (Quiet.guardF rfl rfl fun g40 p40 => Q.ldA [_, _, _] (lzv g40 rfl) rfl rfl) ?_
      refine XO.q (Quiet.guardF rfl rfl fun g41 p41 => Q.fieldAddr rfl) ?_
      refine XO.q (Quiet.guardF rfl rfl fun g42 p42 => Q.ldA [_, _, _] (lzv g42 rfl) rfl rfl) ?_
      refine XO.q (Quiet.guardF rfl rfl fun g43 p43 => Q.fieldAddr rfl) ?_
      refine XO.q (Quiet.guardF rfl rfl fun g44 p44 => Q.ldA [_, _, _] (lzv g44 rfl) rfl rfl) ?_
      refine XO.gcallF rfl rfl Try.call97 rfl (fun g45 => .c (lzv g45 rfl) (.c (lzv g45 rfl) (.c (lzv g45 rfl) .n))) rfl (fun g45 p45 => rbetween_spec a d d va vd vd ha hd hd (by rw [oka.len, okd.len]; exact Nat.le_refl _) (Nat.le_refl _)) ?_
      refine XO.q (Quiet.guardF rfl rfl fun g46 p46 => Q.not (lzv g46 rfl)) ?_
      refine XO.q (Q.or rfl (fun hp => lzv hp rfl)) ?_
      refine XO.done ?_
      refine XK.if rfl (fun c2 => ?_) (fun c2 => ?_)
      · skip
        refine XK.seq (XK.region rfl (XO.q (Q.assign rfl) (XO.done ?_)))
        refine XK.rt [] Try.func96 Try.results96 (.t rfl .n) ?_
        exact ⟨by rw [classedG_errs, if_neg c0, if_neg (by rw [hec, c1]; decide), if_neg (fun x => c2.elim (fun y => y x) (fun y => y (between_high hld x)))], rfl⟩
      · skip
        refine XK.skip (XK.seq (XK.region rfl (XO.q (Q.assign rfl) (XO.done ?_))))
        refine XK.rt [] Try.func96 Try.results96 (.t rfl .n) ?_
        exact ⟨by rw [classedG_errs, if_neg c0, if_neg (by rw [hec, c1]; decide), if_pos (Classical.byContradiction fun x => c2 (.inl x))], rfl⟩
theorem rBelongs_spec (h : Hall) (vr vw vb vc : Value) (hr hw hb hc : PHeap) [ir : Arr vr encRoom 2 hr h.rooms] [iw : Arr vw encWall 3 hw h.walls] [ib : Arr vb encBranch 3 hb h.branches] [ic : Arr vc encCooler 5 hc h.coolers] (a d : HCase) (va vd : Value) (ha hd : PHeap) [ia : Arr va encI 1 ha a.load] [id : Arr vd encI 1 hd d.load] (c : HCase) (vl : Value) (hl : PHeap) [il : Arr vl encI 1 hl c.load] : Spec Try.prog 63 #[.agg #[vr, vw, vb, vc], .agg #[va, .int .i64 a.out, .int .i64 a.pump, vd, .int .i64 d.out, .int .i64 d.pump], .agg #[vl, .int .i64 c.out, .int .i64 c.pump]] [] [hr, hw, hb, hc, ha, hd, hl] (fun v hs => v = .tuple #[.bool (belongsG h a d c).1, .int .i64 (belongsG h a d c).2] ∧ hs = []) := by
  refine Spec.intro (fn := Try.f63) (N := 22) Try.func63 rfl Try.ntmps63 rfl fun B => ?_
  refine XK.seq (XK.region rfl ?_)
  refine XO.box rfl fun b3 => ?_
  refine XO.box rfl fun b4 => ?_
  refine XO.box rfl fun b5 => ?_
  refine XO.q (Q.assign rfl) (XO.q (Q.assign rfl) (XO.done (XK.seq (XK.seq (XK.region rfl ?_)))))
  refine XO.q (Q.ldA [_, _, _, _] rfl rfl rfl) ?_
  refine XO.q (Q.ldA [_, _, _, _, _, _] rfl rfl rfl) ?_
  refine XO.q (Q.ldA [_, _, _] rfl rfl rfl) ?_
  refine XO.call Try.call96 rfl rfl rfl (rclassed_spec h vr vw vb vc hr hw hb hc a d va vd ha hd c vl hl) fun v12 s12 R12 => ?_
  obtain ⟨rfl, rfl⟩ := R12
  dsimp only [lcA, lnA]
  refine XO.q (Q.assign rfl) (XO.done (XK.seq (XK.region rfl (XO.q (Q.move rfl) ?_))))
  refine XO.q (Q.neq rfl rfl) ?_
  refine XO.done ?_
  refine XK.if rfl (fun c0 => ?_) (fun c0 => ?_)
  · skip
    refine XK.seq (XK.region rfl (XO.q (Q.move rfl) (XO.q (Q.assign rfl) (XO.q (Q.assign rfl) (XO.done ?_)))))
    refine XK.rt [] Try.func63 Try.results63 (.t rfl (.t rfl .n)) ?_
    exact ⟨by rw [belongsG, if_pos c0], rfl⟩
  · skip
    obtain ⟨_, oka, okd, okl, _⟩ := classed_ok (Decidable.of_not_not c0)
    have okc : COk h c := okl c (by simp)
    refine XK.skip (XK.seq (XK.region rfl ?_))
    refine XO.q (Q.fieldAddr rfl) ?_
    refine XO.q (Q.ldA [_, _, _] rfl rfl rfl) ?_
    refine XO.q (Q.ldA [_, _, _] rfl rfl rfl) ?_
    refine XO.q (Q.fieldAddr rfl) ?_
    refine XO.q (Q.ldA [_, _, _] rfl rfl rfl) ?_
    refine XO.call Try.call97 rfl rfl rfl (rbetween_spec a c d va vl vd ha hl hd (by rw [okc.len, oka.len]; exact Nat.le_refl _) (by rw [okc.len, okd.len]; exact Nat.le_refl _)) fun v21 s21 R21 => ?_
    obtain ⟨rfl, rfl⟩ := R21
    dsimp only [lcA, lnA]
    refine XO.q (Q.assign rfl) (XO.q (Q.assign rfl) (XO.done ?_))
    refine XK.rt [] Try.func63 Try.results63 (.t rfl (.t rfl .n)) ?_
    exact ⟨by rw [belongsG, if_neg c0], rfl⟩
theorem rBoxed_spec (h : Hall) (vr vw vb vc : Value) (hr hw hb hc : PHeap) [ir : Arr vr encRoom 2 hr h.rooms] [iw : Arr vw encWall 3 hw h.walls] [ib : Arr vb encBranch 3 hb h.branches] [ic : Arr vc encCooler 5 hc h.coolers] (a d : HCase) (va vd : Value) (ha hd : PHeap) [ia : Arr va encI 1 ha a.load] [id : Arr vd encI 1 hd d.load] (lo hi : List Int) (vlo vhi : Value) (hlo hhi : PHeap) [ilo : Arr vlo encI 1 hlo lo] [ihi : Arr vhi encI 1 hhi hi] : Spec Try.prog 98 #[.agg #[vr, vw, vb, vc], vlo, vhi, .agg #[va, .int .i64 a.out, .int .i64 a.pump, vd, .int .i64 d.out, .int .i64 d.pump]] [] [hr, hw, hb, hc, ha, hd, hlo, hhi] (fun v hs => v = .int .i64 (boxedG h lo hi a d) ∧ hs = []) := by
  refine Spec.intro (fn := Try.f98) (N := 45) Try.func98 rfl Try.ntmps98 rfl fun B => ?_
  refine XK.seq (XK.region rfl ?_)
  refine XO.box rfl fun b4 => ?_
  refine XO.box rfl fun b7 => ?_
  refine XO.q (Q.assign rfl) (XO.done (XK.seq (XK.seq (XK.region rfl ?_))))
  refine XO.q (Q.ldA [_, _, _, _] rfl rfl rfl) ?_
  refine XO.q (Q.ldA [_, _, _, _, _, _] rfl rfl rfl) ?_
  refine XO.q (Q.fieldAddr rfl) ?_
  refine XO.q (Q.ldA [_, _, _] rfl rfl rfl) ?_
  refine XO.call Try.call96 rfl rfl rfl (rclassed_spec h vr vw vb vc hr hw hb hc a d va vd ha hd a va ha) fun v16 s16 R16 => ?_
  obtain ⟨rfl, rfl⟩ := R16
  dsimp only [lcA, lnA]
  rw [classed_low]
  refine XO.q (Q.assign rfl) (XO.done (XK.seq (XK.region rfl (XO.q (Q.move rfl) ?_))))
  refine XO.q (Q.neq rfl rfl) ?_
  refine XO.done ?_
  refine XK.if rfl (fun c0 => ?_) (fun c0 => ?_)
  · skip
    refine XK.seq (XK.region rfl (XO.q (Q.move rfl) (XO.q (Q.assign rfl) (XO.done ?_))))
    refine XK.rt [] Try.func98 Try.results98 (.t rfl .n) ?_
    exact ⟨by rw [boxedG, if_pos c0], rfl⟩
  · skip
    refine XK.skip (XK.seq (XK.seq ?_))
    refine XK.drawn [0, 1, 3, 4, 7] [b4] [] (.q 0 (.q 1 (.q 3 (.q 4 (.br 2 true (.br 5 true (.br 6 true (.q 7 .done) .stop) .stop) .stop))))) Try.mixed rfl (by kernel_rfl) ?_
    refine XT.q rfl rfl (Q.ldA [_, _, _, _] rfl rfl rfl) ?_
    refine XT.q rfl rfl (Q.move rfl) ?_
    refine XT.q rfl rfl (Q.ldA [_, _, _, _] rfl rfl rfl) ?_
    refine XT.q rfl rfl (Q.move rfl) ?_
    refine XT.call rfl rfl Try.call86 rfl rfl rfl (rwarm_spec h vr vw vb vc hr vlo hlo lo) (fun v22 s22 R22 => ?_) XT.stop
    obtain ⟨rfl, rfl⟩ := R22
    dsimp only [lcA, lnA]
    refine ⟨inferInstance, ?_⟩
    refine XT.call rfl rfl Try.call86 rfl rfl rfl (rwarm_spec h vr vw vb vc hr vhi hhi hi) (fun v25 s25 R25 => ?_) XT.stop
    obtain ⟨rfl, rfl⟩ := R25
    dsimp only [lcA, lnA]
    refine ⟨inferInstance, ?_⟩
    refine XT.call rfl rfl Try.call88 rfl rfl rfl (rjoined_spec _ _) (fun v26 s26 R26 => ?_) XT.stop
    obtain ⟨rfl, rfl⟩ := R26
    dsimp only [lcA, lnA]
    refine ⟨inferInstance, ?_⟩
    rw [join_both]
    refine XT.q rfl rfl (Q.assign rfl) ?_
    refine XT.done ?_
    refine XK.seq (XK.region rfl (XO.q (Q.move rfl) ?_))
    refine XO.q (Q.neq rfl rfl) ?_
    refine XO.done ?_
    refine XK.if rfl (fun c1 => ?_) (fun c1 => ?_)
    · skip
      refine XK.seq (XK.region rfl (XO.q (Q.move rfl) (XO.q (Q.assign rfl) (XO.done ?_))))
      refine XK.rt [] Try.func98 Try.results98 (.t rfl .n) ?_
      exact ⟨by rw [boxedG, if_neg c0, if_pos c1], rfl⟩
    · skip
      have oklo : TOk h lo := both_warm (Decidable.of_not_not c1) (by simp)
      have okhi : TOk h hi := both_warm (Decidable.of_not_not c1) (by simp)
      have ll := oklo.len
      have lh := okhi.len
      refine XK.skip (XK.seq (XK.seq (XK.region rfl (XO.q (Q.assign rfl) (XO.done ?_)))))
      refine XK.block ?_
      refine XK.while (X := Nat) [8, 11, 30, 31, 32, 33, 34, 35, 36, 37, 38, 39, 40, 41, 42, 43, 44] (fun i => [(11, some (.int .i64 (i : Nat)))]) (fun i => []) (fun i => i ≤ lo.length ∧ allTo (fun i => decide (lo.getD i 0 ≤ hi.getD i 0)) i = true) (fun i => lo.length - i) (0) [] rfl ⟨by omega, rfl⟩ (.c rfl (.base 0 rfl rfl)) ?_
      rintro i ⟨hi_, ht⟩ ih0
      dsimp only [lcA, lnA] at ih0 ⊢
      refine XK.seq (XK.seq (XK.region rfl (XO.q (Q.move rfl) (XO.q (Q.move rfl) ?_))))
      refine XO.len rfl fun l32 => ?_
      refine XO.q (Q.lss rfl rfl) ?_
      refine XO.done ?_
      refine XK.if rfl (fun c2 => ?_) (fun c2 => ?_)
      · skip
        refine XK.skip (XK.seq (XK.block (XK.seq ?_)))
        refine XK.drawn [0, 1, 2, 3, 4, 5, 6, 7, 8] [] [] (.q 0 (.q 1 (.q 2 (.q 3 (.q 4 (.q 5 (.q 6 (.q 7 (.q 8 .done))))))))) Try.mixed rfl (by kernel_rfl) ?_
        refine XT.q rfl rfl (Q.move rfl) ?_
        refine XT.q rfl rfl (Q.move rfl) ?_
        refine XT.ix rfl rfl rfl rfl (by omega) (by omega) fun i38 => ?_
        refine XT.q rfl rfl (Q.ldE rfl (by first | assumption | omega) rfl) ?_
        refine XT.q rfl rfl (Q.move rfl) ?_
        refine XT.q rfl rfl (Q.move rfl) ?_
        refine XT.ix rfl rfl rfl rfl (by omega) (by omega) fun i42 => ?_
        refine XT.q rfl rfl (Q.ldE rfl (by first | assumption | omega) rfl) ?_
        refine XT.q rfl rfl (Q.gtr rfl rfl) ?_
        refine XT.done ?_
        refine XK.if rfl (fun c3 => ?_) (fun c3 => ?_)
        · skip
          refine XK.seq (XK.region rfl (XO.q (Q.assign rfl) (XO.done ?_)))
          refine XK.rt [] Try.func98 Try.results98 (.t rfl .n) ?_
          exact ⟨by rw [boxedG, if_neg c0, if_neg c1, lbelow_no (i := i) (by omega) c3]; rfl, rfl⟩
        · skip
          refine XK.skip ?_
          refine XK.inBlock ?_
          refine XK.region rfl (XO.q (Q.move rfl) ?_)
          refine XO.q (Q.add rfl rfl ⟨by omega, by omega⟩) ?_
          refine XO.q (Q.assign rfl) (XO.done ?_)
          exact ih0 (i + 1) _ _ ⟨by omega, by rw [allTo_succ, ht, Bool.true_and, decide_eq_true_eq]; change ¬ (hi.getD i 0 < lo.getD i 0) at c3; omega⟩ (by first | omega | (dsimp only; omega)) (.c rfl (.base 34 rfl rfl)) inferInstance
      · skip
        refine XK.exit rfl ?_
        refine XK.seq (XK.region rfl (XO.q (Q.assign rfl) (XO.done ?_)))
        refine XK.rt [] Try.func98 Try.results98 (.t rfl .n) ?_
        have hin : i = lo.length := by omega
        rw [hin] at ht
        exact ⟨by rw [boxedG, if_neg c0, if_neg c1, lbelow, ht]; rfl, rfl⟩
end Go.X

set_option linter.unusedSimpArgs false
set_option linter.unusedVariables false
set_option maxRecDepth 20000
namespace Go.X
open Go.Proofs
theorem rBounds_spec (h : Hall) (vr vw vb vc : Value) (hr hw hb hc : PHeap) [ir : Arr vr encRoom 2 hr h.rooms] [iw : Arr vw encWall 3 hw h.walls] [ib : Arr vb encBranch 3 hb h.branches] [ic : Arr vc encCooler 5 hc h.coolers] (a d : HCase) (va vd : Value) (ha hd : PHeap) [ia : Arr va encI 1 ha a.load] [id : Arr vd encI 1 hd d.load] (lo hi : List Int) (vlo vhi : Value) (hlo hhi : PHeap) [ilo : Arr vlo encI 1 hlo lo] [ihi : Arr vhi encI 1 hhi hi] (m : Int) : Spec Try.prog 64 #[.agg #[vr, vw, vb, vc], vlo, vhi, .agg #[va, .int .i64 a.out, .int .i64 a.pump, vd, .int .i64 d.out, .int .i64 d.pump], .int .i64 m] [] [hr, hw, hb, hc, ha, hd, hlo, hhi]
    (fun v hs => ∃ v1 v2 k1 k2 K1 K2 us ws, v = .tuple #[v1, v2, .int .i64 (boundsG h lo hi a d m).2.2] ∧ hs = [k1, k2, K1, K2] ∧ OArr v1 encV 1 31 k1 us ∧ OArr v2 encV 1 31 k2 ws ∧ Rows us K1 (boundsG h lo hi a d m).1 ∧ Rows ws K2 (boundsG h lo hi a d m).2.1) := by
  have hnil : OArr (.slice none 0 0) encV 1 31 emp ([] : List Value) := OArr.nil (fun _ => rfl)
  refine Spec.intro (fn := Try.f64) (N := 53) Try.func64 rfl Try.ntmps64 rfl fun B => ?_
  refine XK.seq (XK.region rfl ?_)
  refine XO.box rfl fun b5 => ?_
  refine XO.box rfl fun b8 => ?_
  refine XO.q (Q.assign rfl) (XO.q (Q.assign rfl) (XO.q (Q.assign rfl) (XO.done (XK.seq (XK.seq ?_)))))
  refine XK.region rfl ?_
  refine XO.q (Q.ldA [_, _, _, _] rfl rfl rfl) ?_
  refine XO.q (Q.move rfl) (XO.q (Q.move rfl) ?_)
  refine XO.q (Q.ldA [_, _, _, _, _, _] rfl rfl rfl) ?_
  refine XO.call Try.call98 rfl rfl rfl (rBoxed_spec h vr vw vb vc hr hw hb hc a d va vd ha hd lo hi vlo vhi hlo hhi) fun v21 s21 R21 => ?_
  obtain ⟨rfl, rfl⟩ := R21
  dsimp only [lcA, lnA]
  refine XO.q (Q.assign rfl) (XO.done (XK.seq (XK.region rfl (XO.q (Q.move rfl) ?_))))
  refine XO.q (Q.neq rfl rfl) ?_
  refine XO.done ?_
  refine XK.if rfl (fun c0 => ?_) (fun c0 => ?_)
  · skip
    refine XK.seq (XK.region rfl (XO.q (Q.move rfl) (XO.q (Q.assign rfl) (XO.q (Q.assign rfl) (XO.q (Q.assign rfl) ?_)))))
    refine XO.done ?_
    refine XK.rt [emp, emp, emp, emp] Try.func64 Try.results64 (.t rfl (.t rfl (.t rfl .n))) ?_
    have hw0 : boundsG h lo hi a d m = ([], [], boxedG h lo hi a d) := by rw [boundsG, if_pos c0]
    rw [hw0]
    exact ⟨.slice none 0 0, .slice none 0 0, emp, emp, emp, emp, [], [], rfl, rfl, OArr.nil (fun _ => rfl), OArr.nil (fun _ => rfl), ⟨rfl, fun i hi => absurd hi (Nat.not_lt_zero i)⟩, rfl, fun i hi => absurd hi (Nat.not_lt_zero i)⟩
  · skip
    obtain ⟨ok0, oka, okd, oklo, okhi, _, _⟩ := boxed_ok (Decidable.of_not_not c0)
    have ok := hcheck_ok ok0
    refine XK.skip (XK.seq (XK.seq (XK.region rfl (XO.q (Q.move rfl) ?_))))
    refine XO.call Try.call84 rfl rfl rfl (rin_spec _ _ _) fun v26 s26 R26 => ?_
    obtain ⟨rfl, rfl⟩ := R26
    dsimp only [lcA, lnA]
    refine XO.q (Q.not rfl) ?_
    refine XO.done ?_
    refine XK.if rfl (fun c1 => ?_) (fun c1 => ?_)
    · skip
      refine XK.seq (XK.region rfl (XO.q (Q.assign rfl) (XO.q (Q.assign rfl) (XO.q (Q.assign rfl) (XO.done ?_)))))
      refine XK.rt [emp, emp, emp, emp] Try.func64 Try.results64 (.t rfl (.t rfl (.t rfl .n))) ?_
      have hw0 : boundsG h lo hi a d m = ([], [], 2) := by rw [boundsG, if_neg c0, if_pos (show ¬ inP m 20000 = true from c1)]
      rw [hw0]
      exact ⟨.slice none 0 0, .slice none 0 0, emp, emp, emp, emp, [], [], rfl, rfl, OArr.nil (fun _ => rfl), OArr.nil (fun _ => rfl), ⟨rfl, fun i hi => absurd hi (Nat.not_lt_zero i)⟩, rfl, fun i hi => absurd hi (Nat.not_lt_zero i)⟩
    · skip
      obtain ⟨hm0, hm1⟩ := inP_le (show inP m 20000 = true from Decidable.of_not_not c1)
      obtain ⟨N, eN⟩ : ∃ N : Nat, m = N := ⟨m.toNat, by omega⟩
      subst eN
      refine XK.skip (XK.seq (XK.region rfl (XO.q (Q.assign rfl) (XO.q (Q.assign rfl) (XO.done ?_)))))
      refine XK.seq (XK.seq (XK.region rfl (XO.q (Q.assign rfl) (XO.done (XK.block ?_)))))
      refine XK.while (X := Nat × Value × PHeap × Value × PHeap × Value × PHeap × Value × PHeap × PHeap × PHeap × List Value × List Value) [1, 2, 14, 15, 16, 28, 29, 30, 31, 32, 33, 34, 35, 36, 37, 38, 39, 40, 41, 42, 43, 44, 45, 46, 47, 48, 49, 50] (fun ⟨i, vx, kx, vy, ky, vo, ho, wo, jo, K, J, us, ws⟩ => [(16, some (.int .i64 (i : Nat))), (1, some (vx)), (2, some (vy)), (14, some (vo)), (15, some (wo))]) (fun ⟨i, vx, kx, vy, ky, vo, ho, wo, jo, K, J, us, ws⟩ => [ho, jo, K, J]) (fun ⟨i, vx, kx, vy, ky, vo, ho, wo, jo, K, J, us, ws⟩ => i ≤ N ∧ (Arr vx encI 1 kx (iterT h (fun _ => a) lo i) ∧ Either kx hlo K ∧ OArr vo encV 1 31 ho us ∧ RowsTo us K h (fun _ => a) lo i) ∧ Arr vy encI 1 ky (iterT h (fun _ => d) hi i) ∧ Either ky hhi J ∧ OArr wo encV 1 31 jo ws ∧ RowsTo ws J h (fun _ => d) hi i) (fun ⟨i, vx, kx, vy, ky, vo, ho, wo, jo, K, J, us, ws⟩ => N - i) (0, vlo, hlo, vhi, hhi, .slice none 0 0, emp, .slice none 0 0, emp, emp, emp, [], []) [emp, emp, emp, emp] rfl ⟨by first | omega | (dsimp only; omega), ⟨ilo, ⟨.inl rfl⟩, hnil, RowsTo.nil⟩, ihi, ⟨.inl rfl⟩, hnil, RowsTo.nil⟩ (.c rfl (.c rfl (.c rfl (.c rfl (.c rfl (.base 0 rfl rfl)))))) ?_
      rintro ⟨i, vx, kx, vy, ky, vo, ho, wo, jo, K, J, us, ws⟩ ⟨hi_, ⟨aT, eT, OO, rT⟩, aU, eU, OW, rU⟩ ih0
      dsimp only [lcA, lnA] at ih0 ⊢
      refine XK.seq (XK.seq (XK.region rfl (XO.q (Q.move rfl) (XO.q (Q.move rfl) ?_))))
      refine XO.q (Q.lss rfl rfl) ?_
      refine XO.done ?_
      refine XK.if rfl (fun c2 => ?_) (fun c2 => ?_)
      · skip
        have hul := rT.1
        have hwl := rU.1
        refine XK.skip (XK.seq (XK.block (XK.seq (XK.region rfl ?_))))
        refine XO.q (Q.ldA [_, _, _, _] rfl rfl rfl) ?_
        refine XO.q (Q.move rfl) ?_
        refine XO.q (Q.fieldAddr rfl) ?_
        refine XO.q (Q.ldA [_, _, _] rfl rfl rfl) ?_
        refine XO.call Try.call90 rfl rfl rfl (rStep_spec h vr vw vb vc hr hw hb hc ok (iterT h (fun _ => a) lo i) vx kx (iter_ok2 ok oklo (n := N) (fun _ _ => oka) i (by omega)) a oka va ha) fun v37 s37 R37 => ?_
        obtain ⟨k37, rfl, O37⟩ := R37
        dsimp only [lcA, lnA]
        refine XO.q (Q.assign rfl) (XO.done (XK.seq (XK.region rfl ?_)))
        refine XO.cat K k37 fun leK le37 => ?_
        have A37 : Arr v37 encI 1 (cat K k37) (iterT h (fun _ => a) lo (i + 1)) := Arr.le_heap (OArr.arr (s := O37)) le37
        clear O37
        refine XO.q (Q.ldA [_, _, _, _] rfl rfl rfl) ?_
        refine XO.q (Q.move rfl) ?_
        refine XO.q (Q.fieldAddr rfl) ?_
        refine XO.q (Q.ldA [_, _, _] rfl rfl rfl) ?_
        refine XO.call Try.call90 rfl rfl rfl (rStep_spec h vr vw vb vc hr hw hb hc ok (iterT h (fun _ => d) hi i) vy ky (iter_ok2 ok okhi (n := N) (fun _ _ => okd) i (by omega)) d okd vd hd) fun v42 s42 R42 => ?_
        obtain ⟨k42, rfl, O42⟩ := R42
        dsimp only [lcA, lnA]
        refine XO.q (Q.assign rfl) (XO.done (XK.seq (XK.region rfl ?_)))
        refine XO.cat J k42 fun leJ le42 => ?_
        have A42 : Arr v42 encI 1 (cat J k42) (iterT h (fun _ => d) hi (i + 1)) := Arr.le_heap (OArr.arr (s := O42)) le42
        clear O42
        refine XO.q (Q.move rfl) (XO.q (Q.move rfl) ?_)
        refine XO.lit [_] [_] [v37] encV (by rfl) (by rfl) rfl (by rfl) (by exact .c 0 1 rfl rfl rfl (.n _)) (fun _ => rfl) (by rfl) rfl (by infer_instance) rfl fun v45 h45 O45 => ?_
        refine XO.append rfl rfl rfl rfl (by simp only [List.length_cons, List.length_nil]; omega) fun v46 h46 O46 => ?_
        refine XO.q (Q.assign rfl) (XO.done (XK.region rfl (XO.q (Q.move rfl) (XO.q (Q.move rfl) ?_))))
        refine XO.lit [_] [_] [v42] encV (by rfl) (by rfl) rfl (by rfl) (by exact .c 0 1 rfl rfl rfl (.n _)) (fun _ => rfl) (by rfl) rfl (by infer_instance) rfl fun v49 h49 O49 => ?_
        refine XO.append rfl rfl rfl rfl (by simp only [List.length_cons, List.length_nil]; omega) fun v50 h50 O50 => ?_
        refine XO.q (Q.assign rfl) (XO.done ?_)
        refine XK.inBlock ?_
        refine XK.region rfl (XO.q (Q.move rfl) ?_)
        refine XO.q (Q.add rfl rfl ⟨by omega, by omega⟩) ?_
        refine XO.q (Q.assign rfl) (XO.done ?_)
        exact ih0 (i + 1, v37, cat K k37, v42, cat J k42, v46, h46, v50, h50, cat K k37, cat J k42, us ++ [v37], ws ++ [v42]) _ _ ⟨by first | omega | (dsimp only; omega), ⟨A37, ⟨.inr rfl⟩, O46, (rT.mono leK).snoc A37⟩, A42, ⟨.inr rfl⟩, O50, (rU.mono leJ).snoc A42⟩ (by first | omega | (dsimp only; omega)) (.c rfl (.c rfl (.c rfl (.c rfl (.c rfl (.base 61 rfl rfl)))))) inferInstance
      · skip
        refine XK.exit rfl ?_
        refine XK.seq (XK.region rfl (XO.q (Q.move rfl) (XO.q (Q.move rfl) (XO.q (Q.assign rfl) (XO.q (Q.assign rfl) ?_)))))
        refine XO.q (Q.assign rfl) (XO.done ?_)
        refine XK.rt [ho, jo, K, J] Try.func64 Try.results64 (.t rfl (.t rfl (.t rfl .n))) ?_
        have hin : i = N := by omega
        subst hin
        have hw0 : boundsG h lo hi a d i = (rowsL h (fun _ => a) lo i, rowsL h (fun _ => d) hi i, 0) := by rw [boundsG, if_neg c0, if_neg (show ¬ ¬ inP (i : Int) 20000 = true from c1), Int.toNat_natCast]
        rw [hw0]
        exact ⟨vo, wo, ho, jo, K, J, us, ws, rfl, rfl, OO, OW, rT.rows, rU.rows⟩
theorem rRide_spec (h : Hall) (vr vw vb vc : Value) (hr hw hb hc : PHeap) [ir : Arr vr encRoom 2 hr h.rooms] [iw : Arr vw encWall 3 hw h.walls] [ib : Arr vb encBranch 3 hb h.branches] [ic : Arr vc encCooler 5 hc h.coolers] (t : List Int) (vt : Value) (ht : PHeap) [it : Arr vt encI 1 ht t] (a d : HCase) (va vd : Value) (ha hd : PHeap) [ia : Arr va encI 1 ha a.load] [id : Arr vd encI 1 hd d.load] (m : Int) : Spec Try.prog 65 #[.agg #[vr, vw, vb, vc], vt, .agg #[va, .int .i64 a.out, .int .i64 a.pump, vd, .int .i64 d.out, .int .i64 d.pump], .int .i64 m] [] [hr, hw, hb, hc, ht, ha, hd]
    (fun v hs => v = .tuple #[.int .i64 (rideG h t a d m).1, .int .i64 (rideG h t a d m).2.1, .int .i64 (rideG h t a d m).2.2] ∧ hs = []) := by
  refine Spec.intro (fn := Try.f65) (N := 63) Try.func65 rfl Try.ntmps65 rfl fun B => ?_
  refine XK.seq (XK.region rfl ?_)
  refine XO.box rfl fun b4 => ?_
  refine XO.box rfl fun b6 => ?_
  refine XO.q (Q.assign rfl) (XO.q (Q.assign rfl) (XO.q (Q.assign rfl) (XO.done (XK.seq (XK.seq ?_)))))
  refine XK.region rfl ?_
  refine XO.q (Q.ldA [_, _, _, _] rfl rfl rfl) ?_
  refine XO.q (Q.ldA [_, _, _, _, _, _] rfl rfl rfl) ?_
  refine XO.q (Q.fieldAddr rfl) ?_
  refine XO.q (Q.ldA [_, _, _] rfl rfl rfl) ?_
  refine XO.call Try.call96 rfl rfl rfl (rclassed_spec h vr vw vb vc hr hw hb hc a d va vd ha hd a va ha) fun v19 s19 R19 => ?_
  obtain ⟨rfl, rfl⟩ := R19
  dsimp only [lcA, lnA]
  rw [classed_low]
  refine XO.q (Q.assign rfl) (XO.done (XK.seq (XK.region rfl (XO.q (Q.move rfl) ?_))))
  refine XO.q (Q.neq rfl rfl) ?_
  refine XO.done ?_
  refine XK.if rfl (fun c0 => ?_) (fun c0 => ?_)
  · skip
    refine XK.seq (XK.region rfl (XO.q (Q.move rfl) (XO.q (Q.assign rfl) (XO.q (Q.assign rfl) (XO.q (Q.assign rfl) ?_)))))
    refine XO.done ?_
    refine XK.rt [] Try.func65 Try.results65 (.t rfl (.t rfl (.t rfl .n))) ?_
    exact ⟨by rw [rideG, if_pos c0], rfl⟩
  · skip
    refine XK.skip (XK.seq (XK.seq (XK.region rfl ?_)))
    refine XO.q (Q.ldA [_, _, _, _] rfl rfl rfl) ?_
    refine XO.q (Q.move rfl) ?_
    refine XO.call Try.call86 rfl rfl rfl (rwarm_spec h vr vw vb vc hr vt ht t) fun v25 s25 R25 => ?_
    obtain ⟨rfl, rfl⟩ := R25
    dsimp only [lcA, lnA]
    refine XO.q (Q.assign rfl) (XO.done (XK.seq (XK.region rfl (XO.q (Q.move rfl) ?_))))
    refine XO.q (Q.neq rfl rfl) ?_
    refine XO.done ?_
    refine XK.if rfl (fun c1 => ?_) (fun c1 => ?_)
    · skip
      refine XK.seq (XK.region rfl (XO.q (Q.move rfl) (XO.q (Q.assign rfl) (XO.q (Q.assign rfl) (XO.q (Q.assign rfl) ?_)))))
      refine XO.done ?_
      refine XK.rt [] Try.func65 Try.results65 (.t rfl (.t rfl (.t rfl .n))) ?_
      exact ⟨by rw [rideG, if_neg c0, if_pos c1], rfl⟩
    · skip
      obtain ⟨ok0, oka, okd, _, _⟩ := classed_ok (Decidable.of_not_not c0)
      have ok := hcheck_ok ok0
      have okt : TOk h t := warm_ok (Decidable.of_not_not c1)
      refine XK.skip (XK.seq (XK.seq (XK.region rfl (XO.q (Q.move rfl) ?_))))
      refine XO.call Try.call84 rfl rfl rfl (rin_spec _ _ _) fun v30 s30 R30 => ?_
      obtain ⟨rfl, rfl⟩ := R30
      dsimp only [lcA, lnA]
      refine XO.q (Q.not rfl) ?_
      refine XO.done ?_
      refine XK.if rfl (fun c2 => ?_) (fun c2 => ?_)
      · skip
        refine XK.seq (XK.region rfl (XO.q (Q.assign rfl) (XO.q (Q.assign rfl) (XO.q (Q.assign rfl) (XO.done ?_)))))
        refine XK.rt [] Try.func65 Try.results65 (.t rfl (.t rfl (.t rfl .n))) ?_
        exact ⟨by rw [rideG, if_neg c0, if_neg c1, if_pos (show ¬ inP m 20000 = true from c2)], rfl⟩
      · skip
        obtain ⟨hm0, hm1⟩ := inP_le (show inP m 20000 = true from Decidable.of_not_not c2)
        obtain ⟨N, eN⟩ : ∃ N : Nat, m = N := ⟨m.toNat, by omega⟩
        subst eN
        have hw0 : rideG h t a d N = ((rideL h d N 0 t).1, (rideL h d N 0 t).2, 0) := by rw [rideG, if_neg c0, if_neg c1, if_neg (show ¬ ¬ inP (N : Int) 20000 = true from c2), Int.toNat_natCast]
        rw [hw0]
        dsimp only
        refine XK.skip (XK.seq (XK.seq (XK.region rfl (XO.q (Q.assign rfl) (XO.done ?_)))))
        refine XK.block ?_
        refine XK.while (X := Nat × Value × PHeap × PHeap × List Int) [1, 8, 9, 10, 13, 14, 32, 33, 34, 35, 36, 37, 38, 39, 40, 41, 42, 43, 44, 45, 46, 47, 48, 49, 50, 51, 52, 53, 54, 55, 56, 57, 58, 59, 60] (fun ⟨n, vx, kx, K, x⟩ => [(13, some (.int .i64 (n : Nat))), (1, some (vx))]) (fun ⟨n, vx, kx, K, x⟩ => [K]) (fun ⟨n, vx, kx, K, x⟩ => n ≤ N + 1 ∧ Arr vx encI 1 kx x ∧ Either kx ht K ∧ TOk h x ∧ RideAt h d N t n x) (fun ⟨n, vx, kx, K, x⟩ => N + 1 - n) (0, vt, ht, emp, t) [emp] rfl ⟨by first | omega | (dsimp only; omega), it, ⟨.inl rfl⟩, okt, RideAt.start ..⟩ (.c rfl (.c rfl (.base 0 rfl rfl))) ?_
        rintro ⟨n, vx, kx, K, x⟩ ⟨hn, aT, eT, okx, hra⟩ ih0
        dsimp only [lcA, lnA] at ih0 ⊢
        refine XK.seq (XK.seq (XK.region rfl (XO.q (Q.move rfl) (XO.q (Q.move rfl) ?_))))
        refine XO.q (Q.leq rfl rfl) ?_
        refine XO.done ?_
        refine XK.if rfl (fun c3 => ?_) (fun c3 => ?_)
        · skip
          have xl := okx.len
          refine XK.skip (XK.seq (XK.block (XK.seq (XK.seq (XK.region rfl ?_)))))
          refine XO.q (Q.assign rfl) (XO.done (XK.block ?_))
          refine XK.while (X := Nat) [8, 9, 10, 14, 37, 38, 39, 40, 41, 42, 43, 44, 45, 46, 47, 48, 49, 50, 51, 52, 53, 54, 55] (fun i => [(14, some (.int .i64 (i : Nat)))]) (fun i => []) (fun i => i ≤ x.length ∧ ∀ j, j < i → hotAt h x j = false) (fun i => x.length - i) (0) [] rfl ⟨by omega, fun j hj => absurd hj (Nat.not_lt_zero j)⟩ (.c rfl (.base 0 rfl rfl)) ?_
          rintro i ⟨hi, hall⟩ ih1
          dsimp only [lcA, lnA] at ih1 ⊢
          refine XK.seq (XK.seq (XK.region rfl (XO.q (Q.move rfl) (XO.q (Q.move rfl) ?_))))
          refine XO.len rfl fun l39 => ?_
          refine XO.q (Q.lss rfl rfl) ?_
          refine XO.done ?_
          refine XK.if rfl (fun c4 => ?_) (fun c4 => ?_)
          · skip
            refine XK.skip (XK.seq (XK.block (XK.seq ?_)))
            refine XK.drawn [0, 1, 2, 3, 4, 5, 6, 7, 8, 9, 10] [b4] [K] (.q 0 (.q 1 (.q 2 (.q 3 (.q 4 (.q 5 (.q 6 (.q 7 (.q 8 (.q 9 (.q 10 .done))))))))))) Try.mixed rfl (by kernel_rfl) ?_
            refine XT.q rfl rfl (Q.move rfl) ?_
            refine XT.q rfl rfl (Q.move rfl) ?_
            refine XT.ix rfl rfl rfl rfl (by omega) (by omega) fun i45 => ?_
            refine XT.q rfl rfl (Q.ldE rfl (by first | assumption | omega) rfl) ?_
            refine XT.q rfl rfl (Q.fieldAddr rfl) ?_
            refine XT.q rfl rfl (Q.ld rfl rfl) ?_
            refine XT.q rfl rfl (Q.move rfl) ?_
            refine XT.ix rfl rfl rfl rfl (by omega) (by omega) fun i50 => ?_
            refine XT.q rfl rfl (Q.fieldQ rfl (by first | assumption | omega)) ?_
            refine XT.q rfl rfl (Q.ldE rfl (by first | assumption | omega) rfl) ?_
            refine XT.q rfl rfl (Q.gtr rfl rfl) ?_
            refine XT.done ?_
            refine XK.if rfl (fun c5 => ?_) (fun c5 => ?_)
            · skip
              have hh := hra.hot (by omega) (i := i) (by omega) (decide_eq_true c5) hall
              refine XK.seq (XK.region rfl (XO.q (Q.move rfl) (XO.q (Q.move rfl) (XO.q (Q.assign rfl) (XO.q (Q.assign rfl) ?_)))))
              refine XO.q (Q.assign rfl) (XO.done ?_)
              refine XK.rt [] Try.func65 Try.results65 (.t rfl (.t rfl (.t rfl .n))) ?_
              exact ⟨by rw [hh], rfl⟩
            · skip
              refine XK.skip ?_
              refine XK.inBlock ?_
              refine XK.region rfl (XO.q (Q.move rfl) ?_)
              refine XO.q (Q.add rfl rfl ⟨by omega, by omega⟩) ?_
              refine XO.q (Q.assign rfl) (XO.done ?_)
              exact ih1 (i + 1) _ _ ⟨by omega, fun j hj => by
                  by_cases hji : j < i
                  · exact hall j hji
                  · rw [show j = i by omega]; exact decide_eq_false c5⟩ (by first | omega | (dsimp only; omega)) (.c rfl (.base 42 rfl rfl)) inferInstance
          · skip
            have hcool : ∀ j, j < h.rooms.length → hotAt h x j = false := fun j hj => hall j (by omega)
            have hra2 := hra.on (by omega) hcool
            refine XK.exit rfl ?_
            refine XK.region rfl ?_
            refine XO.q (Q.ldA [_, _, _, _] rfl rfl rfl) ?_
            refine XO.q (Q.move rfl) ?_
            refine XO.q (Q.fieldAddr rfl) ?_
            refine XO.q (Q.ldA [_, _, _] rfl rfl rfl) ?_
            refine XO.call Try.call90 rfl rfl rfl (rStep_spec h vr vw vb vc hr hw hb hc ok x vx kx okx d okd vd hd) fun v60 s60 R60 => ?_
            obtain ⟨k60, rfl, O60⟩ := R60
            dsimp only [lcA, lnA]
            refine XO.q (Q.assign rfl) (XO.done ?_)
            refine XK.inBlock ?_
            refine XK.region rfl ?_
            refine XO.cat K k60 fun leK le60 => ?_
            have A60 : Arr v60 encI 1 (cat K k60) (nextL h x d) := Arr.le_heap (OArr.arr (s := O60)) le60
            clear O60
            refine XO.q (Q.move rfl) ?_
            refine XO.q (Q.add rfl rfl ⟨by omega, by omega⟩) ?_
            refine XO.q (Q.assign rfl) (XO.done ?_)
            exact ih0 (n + 1, v60, cat K k60, cat K k60, nextL h x d) _ _ ⟨by first | omega | (dsimp only; omega), A60, ⟨.inr rfl⟩, next_ok ok okx okd, hra2⟩ (by first | omega | (dsimp only; omega)) (.c rfl (.c rfl (.base 78 rfl rfl))) inferInstance
        · skip
          refine XK.exit rfl ?_
          refine XK.seq (XK.region rfl (XO.q (Q.move rfl) ?_))
          refine XO.q (Q.add rfl rfl ⟨by omega, by omega⟩) ?_
          refine XO.q (Q.assign rfl) (XO.q (Q.assign rfl) (XO.q (Q.assign rfl) (XO.done ?_)))
          refine XK.rt [] Try.func65 Try.results65 (.t rfl (.t rfl (.t rfl .n))) ?_
          exact ⟨by rw [hra.out (by omega)], rfl⟩
theorem rSettle_spec (h : Hall) (vr vw vb vc : Value) (hr hw hb hc : PHeap) [ir : Arr vr encRoom 2 hr h.rooms] [iw : Arr vw encWall 3 hw h.walls] [ib : Arr vb encBranch 3 hb h.branches] [ic : Arr vc encCooler 5 hc h.coolers] (t : List Int) (vt : Value) (ht : PHeap) [it : Arr vt encI 1 ht t] (c : HCase) (vl : Value) (hl : PHeap) [il : Arr vl encI 1 hl c.load] (m : Int) : Spec Try.prog 66 #[.agg #[vr, vw, vb, vc], vt, .agg #[vl, .int .i64 c.out, .int .i64 c.pump], .int .i64 m] [] [hr, hw, hb, hc, ht, hl]
    (fun v hs => ∃ v1 k1, v = .tuple #[v1, .int .i64 (settleG h t c m).2.1, .int .i64 (settleG h t c m).2.2] ∧ hs = [k1] ∧ Arr v1 encI 1 k1 (settleG h t c m).1) := by
  refine Spec.intro (fn := Try.f66) (N := 48) Try.func66 rfl Try.ntmps66 rfl fun B => ?_
  refine XK.seq (XK.region rfl ?_)
  refine XO.box rfl fun b4 => ?_
  refine XO.box rfl fun b6 => ?_
  refine XO.q (Q.assign rfl) (XO.q (Q.assign rfl) (XO.q (Q.assign rfl) (XO.done (XK.seq (XK.seq ?_)))))
  refine XK.region rfl ?_
  refine XO.q (Q.ldA [_, _, _, _] rfl rfl rfl) ?_
  refine XO.call Try.call55 rfl rfl rfl (rCheck_spec h vr vw vb vc hr hw hb hc) fun v16 s16 R16 => ?_
  obtain ⟨rfl, rfl⟩ := R16
  dsimp only [lcA, lnA]
  refine XO.q (Q.assign rfl) (XO.done (XK.seq (XK.region rfl (XO.q (Q.move rfl) ?_))))
  refine XO.q (Q.neq rfl rfl) ?_
  refine XO.done ?_
  refine XK.if rfl (fun c0 => ?_) (fun c0 => ?_)
  · skip
    refine XK.seq (XK.region rfl (XO.q (Q.move rfl) (XO.q (Q.assign rfl) (XO.q (Q.assign rfl) (XO.q (Q.assign rfl) ?_)))))
    refine XO.done ?_
    refine XK.rt [emp] Try.func66 Try.results66 (.t rfl (.t rfl (.t rfl .n))) ?_
    have hw0 : settleG h t c m = ([], 0, hcheck h) := by rw [settleG, if_pos c0]
    rw [hw0]
    exact ⟨.slice none 0 0, emp, rfl, rfl, Arr.nil (fun _ => rfl)⟩
  · skip
    refine XK.skip (XK.seq (XK.seq ?_))
    refine XK.drawn [0, 1, 3, 4, 7] [b4, b6] [] (.q 0 (.q 1 (.q 3 (.q 4 (.br 2 true (.br 5 true (.br 6 true (.q 7 .done) .stop) .stop) .stop))))) Try.mixed rfl (by kernel_rfl) ?_
    refine XT.q rfl rfl (Q.ldA [_, _, _, _] rfl rfl rfl) ?_
    refine XT.q rfl rfl (Q.move rfl) ?_
    refine XT.q rfl rfl (Q.ldA [_, _, _, _] rfl rfl rfl) ?_
    refine XT.q rfl rfl (Q.ldA [_, _, _] rfl rfl rfl) ?_
    refine XT.call rfl rfl Try.call86 rfl rfl rfl (rwarm_spec h vr vw vb vc hr vt ht t) (fun v22 s22 R22 => ?_) XT.stop
    obtain ⟨rfl, rfl⟩ := R22
    dsimp only [lcA, lnA]
    refine ⟨inferInstance, ?_⟩
    refine XT.call rfl rfl Try.call89 rfl rfl rfl (rcased_spec h vr vw vb vc hr vl hl c) (fun v25 s25 R25 => ?_) XT.stop
    obtain ⟨rfl, rfl⟩ := R25
    dsimp only [lcA, lnA]
    refine ⟨inferInstance, ?_⟩
    refine XT.call rfl rfl Try.call88 rfl rfl rfl (rjoined_spec _ _) (fun v26 s26 R26 => ?_) XT.stop
    obtain ⟨rfl, rfl⟩ := R26
    dsimp only [lcA, lnA]
    refine ⟨inferInstance, ?_⟩
    rw [join_both]
    refine XT.q rfl rfl (Q.assign rfl) ?_
    refine XT.done ?_
    refine XK.seq (XK.region rfl (XO.q (Q.move rfl) ?_))
    refine XO.q (Q.neq rfl rfl) ?_
    refine XO.done ?_
    refine XK.if rfl (fun c1 => ?_) (fun c1 => ?_)
    · skip
      refine XK.seq (XK.region rfl (XO.q (Q.move rfl) (XO.q (Q.assign rfl) (XO.q (Q.assign rfl) (XO.q (Q.assign rfl) ?_)))))
      refine XO.done ?_
      refine XK.rt [emp] Try.func66 Try.results66 (.t rfl (.t rfl (.t rfl .n))) ?_
      have hw0 : settleG h t c m = ([], 0, bothP [warmP h t, casedP h c]) := by rw [settleG, if_neg c0, if_pos c1]
      rw [hw0]
      exact ⟨.slice none 0 0, emp, rfl, rfl, Arr.nil (fun _ => rfl)⟩
    · skip
      have ok := hcheck_ok (Decidable.of_not_not c0)
      obtain ⟨okt, okc⟩ := both_ok (Decidable.of_not_not c1)
      refine XK.skip (XK.seq (XK.seq (XK.region rfl (XO.q (Q.move rfl) ?_))))
      refine XO.call Try.call84 rfl rfl rfl (rin_spec _ _ _) fun v31 s31 R31 => ?_
      obtain ⟨rfl, rfl⟩ := R31
      dsimp only [lcA, lnA]
      refine XO.q (Q.not rfl) ?_
      refine XO.done ?_
      refine XK.if rfl (fun c2 => ?_) (fun c2 => ?_)
      · skip
        refine XK.seq (XK.region rfl (XO.q (Q.assign rfl) (XO.q (Q.assign rfl) (XO.q (Q.assign rfl) (XO.done ?_)))))
        refine XK.rt [emp] Try.func66 Try.results66 (.t rfl (.t rfl (.t rfl .n))) ?_
        have hw0 : settleG h t c m = ([], 0, 2) := by rw [settleG, if_neg c0, if_neg c1, if_pos (show ¬ inP m 20000 = true from c2)]
        rw [hw0]
        exact ⟨.slice none 0 0, emp, rfl, rfl, Arr.nil (fun _ => rfl)⟩
      · skip
        obtain ⟨hm0, hm1⟩ := inP_le (show inP m 20000 = true from Decidable.of_not_not c2)
        obtain ⟨N, eN⟩ : ∃ N : Nat, m = N := ⟨m.toNat, by omega⟩
        subst eN
        refine XK.skip (XK.seq (XK.seq (XK.region rfl (XO.q (Q.assign rfl) (XO.done ?_)))))
        refine XK.block ?_
        refine XK.while (X := Nat × Value × PHeap × PHeap × List Int) [1, 8, 9, 10, 13, 14, 33, 34, 35, 36, 37, 38, 39, 40, 41, 42, 43, 44, 45, 46, 47] (fun ⟨n, vx, kx, K, x⟩ => [(13, some (.int .i64 (n : Nat))), (1, some (vx))]) (fun ⟨n, vx, kx, K, x⟩ => [K]) (fun ⟨n, vx, kx, K, x⟩ => n ≤ N ∧ Arr vx encI 1 kx x ∧ Either kx ht K ∧ TOk h x ∧ SettleAt h c N t n x) (fun ⟨n, vx, kx, K, x⟩ => N - n) (0, vt, ht, emp, t) [emp] rfl ⟨by first | omega | (dsimp only; omega), it, ⟨.inl rfl⟩, okt, SettleAt.start ..⟩ (.c rfl (.c rfl (.base 0 rfl rfl))) ?_
        rintro ⟨n, vx, kx, K, x⟩ ⟨hn, aT, eT, okx, hsa⟩ ih0
        dsimp only [lcA, lnA] at ih0 ⊢
        refine XK.seq (XK.seq (XK.region rfl (XO.q (Q.move rfl) (XO.q (Q.move rfl) ?_))))
        refine XO.q (Q.lss rfl rfl) ?_
        refine XO.done ?_
        refine XK.if rfl (fun c3 => ?_) (fun c3 => ?_)
        · skip
          refine XK.skip (XK.seq (XK.block (XK.seq (XK.region rfl ?_))))
          refine XO.q (Q.ldA [_, _, _, _] rfl rfl rfl) ?_
          refine XO.q (Q.move rfl) ?_
          refine XO.q (Q.ldA [_, _, _] rfl rfl rfl) ?_
          refine XO.call Try.call90 rfl rfl rfl (rStep_spec h vr vw vb vc hr hw hb hc ok x vx kx okx c okc vl hl) fun v41 s41 R41 => ?_
          obtain ⟨k41, rfl, O41⟩ := R41
          dsimp only [lcA, lnA]
          refine XO.q (Q.assign rfl) (XO.done (XK.seq (XK.seq (XK.region rfl ?_))))
          refine XO.cat K k41 fun leK le41 => ?_
          have A41 : Arr v41 encI 1 (cat K k41) (nextL h x c) := Arr.le_heap (OArr.arr (s := O41)) le41
          clear O41
          have aTE : ArrE vx x ht K := eT.1.elim (fun e => .inl (e ▸ aT)) (fun e => .inr (e ▸ aT))
          obtain ⟨kz, aT2, eT2⟩ := (aTE.mono leK).open
          refine XO.q (Q.move rfl) (XO.q (Q.move rfl) ?_)
          refine XO.call Try.call99 rfl rfl rfl (sameInts v41 vx (cat K k41) kz (nextL h x c) x) fun v44 s44 R44 => ?_
          obtain ⟨rfl, rfl⟩ := R44
          dsimp only [lcA, lnA]
          refine XO.done ?_
          refine XK.if rfl (fun c4 => ?_) (fun c4 => ?_)
          · skip
            have hh := hsa.stop (by omega) (show nextL h x c = x from c4)
            refine XK.seq (XK.region rfl (XO.q (Q.move rfl) (XO.q (Q.move rfl) (XO.q (Q.assign rfl) (XO.q (Q.assign rfl) ?_)))))
            refine XO.q (Q.assign rfl) (XO.done ?_)
            refine XK.rt [cat K k41] Try.func66 Try.results66 (.t rfl (.t rfl (.t rfl .n))) ?_
            have hw0 : settleG h t c N = (nextL h x c, (n : Int), 0) := by rw [settleG, if_neg c0, if_neg c1, if_neg (show ¬ ¬ inP (N : Int) 20000 = true from c2), Int.toNat_natCast, hh]
            rw [hw0]
            exact ⟨v41, cat K k41, rfl, rfl, A41⟩
          · skip
            have hsb := hsa.on (by omega) (show ¬ nextL h x c = x from c4)
            refine XK.skip (XK.region rfl (XO.q (Q.move rfl) (XO.q (Q.assign rfl) (XO.done ?_))))
            refine XK.inBlock ?_
            refine XK.region rfl (XO.q (Q.move rfl) ?_)
            refine XO.q (Q.add rfl rfl ⟨by omega, by omega⟩) ?_
            refine XO.q (Q.assign rfl) (XO.done ?_)
            exact ih0 (n + 1, v41, cat K k41, cat K k41, nextL h x c) _ _ ⟨by first | omega | (dsimp only; omega), A41, ⟨.inr rfl⟩, next_ok ok okx okc, hsb⟩ (by first | omega | (dsimp only; omega)) (.c rfl (.c rfl (.base 39 rfl rfl))) inferInstance
        · skip
          refine XK.exit rfl ?_
          refine XK.seq (XK.region rfl (XO.q (Q.assign rfl) (XO.q (Q.assign rfl) (XO.q (Q.assign rfl) (XO.done ?_)))))
          refine XK.rt [emp] Try.func66 Try.results66 (.t rfl (.t rfl (.t rfl .n))) ?_
          have hw0 : settleG h t c N = ([], 0, 60) := by rw [settleG, if_neg c0, if_neg c1, if_neg (show ¬ ¬ inP (N : Int) 20000 = true from c2), Int.toNat_natCast, hsa.out (by omega)]
          rw [hw0]
          exact ⟨.slice none 0 0, emp, rfl, rfl, Arr.nil (fun _ => rfl)⟩
theorem rHeld_spec (h : Hall) (vr vw vb vc : Value) (hr hw hb hc : PHeap) [ir : Arr vr encRoom 2 hr h.rooms] [iw : Arr vw encWall 3 hw h.walls] [ib : Arr vb encBranch 3 hb h.branches] [ic : Arr vc encCooler 5 hc h.coolers] (a d : HCase) (va vd : Value) (ha hd : PHeap) [ia : Arr va encI 1 ha a.load] [id : Arr vd encI 1 hd d.load] (lo hi : List Int) (vlo vhi : Value) (hlo hhi : PHeap) [ilo : Arr vlo encI 1 hlo lo] [ihi : Arr vhi encI 1 hhi hi] : Spec Try.prog 67 #[.agg #[vr, vw, vb, vc], vlo, vhi, .agg #[va, .int .i64 a.out, .int .i64 a.pump, vd, .int .i64 d.out, .int .i64 d.pump]] [] [hr, hw, hb, hc, ha, hd, hlo, hhi] (fun v hs => v = .tuple #[.bool (heldG h lo hi a d).1, .int .i64 (heldG h lo hi a d).2] ∧ hs = []) := by
  refine Spec.intro (fn := Try.f67) (N := 58) Try.func67 rfl Try.ntmps67 rfl fun B => ?_
  refine XK.seq (XK.region rfl ?_)
  refine XO.box rfl fun b4 => ?_
  refine XO.box rfl fun b7 => ?_
  refine XO.q (Q.assign rfl) (XO.q (Q.assign rfl) (XO.done (XK.seq (XK.seq (XK.region rfl ?_)))))
  refine XO.q (Q.ldA [_, _, _, _] rfl rfl rfl) ?_
  refine XO.q (Q.move rfl) (XO.q (Q.move rfl) ?_)
  refine XO.q (Q.ldA [_, _, _, _, _, _] rfl rfl rfl) ?_
  refine XO.call Try.call98 rfl rfl rfl (rBoxed_spec h vr vw vb vc hr hw hb hc a d va vd ha hd lo hi vlo vhi hlo hhi) fun v18 s18 R18 => ?_
  obtain ⟨rfl, rfl⟩ := R18
  dsimp only [lcA, lnA]
  refine XO.q (Q.assign rfl) (XO.done (XK.seq (XK.region rfl (XO.q (Q.move rfl) ?_))))
  refine XO.q (Q.neq rfl rfl) ?_
  refine XO.done ?_
  refine XK.if rfl (fun c0 => ?_) (fun c0 => ?_)
  · skip
    refine XK.seq (XK.region rfl (XO.q (Q.move rfl) (XO.q (Q.assign rfl) (XO.q (Q.assign rfl) (XO.done ?_)))))
    refine XK.rt [] Try.func67 Try.results67 (.t rfl (.t rfl .n)) ?_
    exact ⟨by rw [heldG, if_pos c0], rfl⟩
  · skip
    obtain ⟨ok0, oka, okd, oklo, okhi, _, _⟩ := boxed_ok (Decidable.of_not_not c0)
    have ok := hcheck_ok ok0
    have ll := oklo.len
    have lh := okhi.len
    have la : (nextL h lo a).length = h.rooms.length := nextL_len ..
    have lb : (nextL h hi d).length = h.rooms.length := nextL_len ..
    refine XK.skip (XK.seq ?_)
    refine XK.drawn [0, 1, 2, 3, 5, 6, 7, 8, 10, 11] [b4, b7] [] (.q 0 (.q 1 (.q 2 (.q 3 (.q 5 (.q 6 (.q 7 (.q 8 (.br 4 true (.br 9 true (.q 10 (.q 11 .done)) .stop) .stop))))))))) Try.mixed rfl (by kernel_rfl) ?_
    refine XT.q rfl rfl (Q.ldA [_, _, _, _] rfl rfl rfl) ?_
    refine XT.q rfl rfl (Q.move rfl) ?_
    refine XT.q rfl rfl (Q.fieldAddr rfl) ?_
    refine XT.q rfl rfl (Q.ldA [_, _, _] rfl rfl rfl) ?_
    refine XT.q rfl rfl (Q.ldA [_, _, _, _] rfl rfl rfl) ?_
    refine XT.q rfl rfl (Q.move rfl) ?_
    refine XT.q rfl rfl (Q.fieldAddr rfl) ?_
    refine XT.q rfl rfl (Q.ldA [_, _, _] rfl rfl rfl) ?_
    refine XT.call rfl rfl Try.call90 rfl rfl rfl (rStep_spec h vr vw vb vc hr hw hb hc ok lo vlo hlo oklo a oka va ha) (fun v26 s26 R26 => ?_) XT.stop
    obtain ⟨k26, rfl, O26⟩ := R26
    dsimp only [lcA, lnA]
    refine ⟨inferInstance, ?_⟩
    refine XT.call rfl rfl Try.call90 rfl rfl rfl (rStep_spec h vr vw vb vc hr hw hb hc ok hi vhi hhi okhi d okd vd hd) (fun v31 s31 R31 => ?_) XT.stop
    obtain ⟨k31, rfl, O31⟩ := R31
    dsimp only [lcA, lnA]
    refine ⟨inferInstance, ?_⟩
    refine XT.q rfl rfl (Q.assign rfl) ?_
    refine XT.q rfl rfl (Q.assign rfl) ?_
    refine XT.done ?_
    refine XK.seq (XK.seq (XK.region rfl (XO.q (Q.assign rfl) (XO.done (XK.block ?_)))))
    refine XK.while (X := Nat) [8, 9, 13, 32, 33, 34, 35, 36, 37, 38, 39, 40, 41, 42, 43, 44, 45, 46, 47, 48, 49, 50, 51, 52, 53, 54, 55, 56, 57] (fun i => [(13, some (.int .i64 (i : Nat)))]) (fun i => []) (fun i => i ≤ (nextL h lo a).length ∧ allTo (fun i => decide (lo.getD i 0 ≤ (nextL h lo a).getD i 0)) i = true ∧ allTo (fun i => decide ((nextL h hi d).getD i 0 ≤ hi.getD i 0)) i = true) (fun i => (nextL h lo a).length - i) (0) [] rfl ⟨by omega, rfl, rfl⟩ (.c rfl (.base 0 rfl rfl)) ?_
    rintro i ⟨hi_, hx, hy⟩ ih0
    dsimp only [lcA, lnA] at ih0 ⊢
    refine XK.seq (XK.seq (XK.region rfl (XO.q (Q.move rfl) (XO.q (Q.move rfl) ?_))))
    refine XO.len rfl fun l34 => ?_
    refine XO.q (Q.lss rfl rfl) ?_
    refine XO.done ?_
    refine XK.if rfl (fun c1 => ?_) (fun c1 => ?_)
    · skip
      refine XK.skip (XK.seq (XK.block (XK.seq ?_)))
      refine XK.drawn [0, 1, 2, 3, 4, 5, 6, 7, 8, 9, 10, 11, 12, 13, 14, 15, 16, 17, 18, 19] [] [k26, k31] (.q 0 (.q 1 (.q 2 (.q 3 (.q 4 (.q 5 (.q 6 (.q 7 (.q 8 (.q 9 (.q 10 (.q 11 (.q 12 (.q 13 (.q 14 (.q 15 (.q 16 (.q 17 (.q 18 (.q 19 .done)))))))))))))))))))) Try.mixed rfl (by kernel_rfl) ?_
      refine XT.q rfl rfl (Q.move rfl) ?_
      refine XT.q rfl rfl (Q.move rfl) ?_
      refine XT.ix rfl rfl rfl rfl (by omega) (by omega) fun i40 => ?_
      refine XT.q rfl rfl (Q.ldE rfl (by first | assumption | omega) rfl) ?_
      refine XT.q rfl rfl (Q.move rfl) ?_
      refine XT.q rfl rfl (Q.move rfl) ?_
      refine XT.ix rfl rfl rfl rfl (by omega) (by omega) fun i44 => ?_
      refine XT.q rfl rfl (Q.ldE rfl (by first | assumption | omega) rfl) ?_
      refine XT.q rfl rfl (Q.lss rfl rfl) ?_
      refine XT.q rfl rfl (Q.move rfl) ?_
      refine XT.q rfl rfl (Quiet.guardF rfl rfl fun g48 p48 => Q.move rfl) ?_
      refine XT.q rfl rfl (Quiet.guardF rfl rfl fun g49 p49 => Q.move rfl) ?_
      refine XT.q rfl rfl (Quiet.guardF rfl rfl fun g50 p50 => Q.ix (lzv g50 rfl) (lzv g50 rfl) (by omega) (by omega)) ?_
      refine XT.q rfl rfl (Quiet.guardF rfl rfl fun g51 p51 => Q.ldE (lzv g51 rfl) (by first | assumption | omega) rfl) ?_
      refine XT.q rfl rfl (Quiet.guardF rfl rfl fun g52 p52 => Q.move rfl) ?_
      refine XT.q rfl rfl (Quiet.guardF rfl rfl fun g53 p53 => Q.move rfl) ?_
      refine XT.q rfl rfl (Quiet.guardF rfl rfl fun g54 p54 => Q.ix (lzv g54 rfl) (lzv g54 rfl) (by omega) (by omega)) ?_
      refine XT.q rfl rfl (Quiet.guardF rfl rfl fun g55 p55 => Q.ldE (lzv g55 rfl) (by first | assumption | omega) rfl) ?_
      refine XT.q rfl rfl (Quiet.guardF rfl rfl fun g56 p56 => Q.gtr (lzv g56 rfl) (lzv g56 rfl)) ?_
      refine XT.q rfl rfl (Q.or rfl (fun hp => lzv hp rfl)) ?_
      refine XT.done ?_
      refine XK.if rfl (fun c2 => ?_) (fun c2 => ?_)
      · skip
        refine XK.seq (XK.region rfl (XO.q (Q.assign rfl) (XO.q (Q.assign rfl) (XO.done ?_))))
        refine XK.rt [] Try.func67 Try.results67 (.t rfl (.t rfl .n)) ?_
        exact ⟨by rw [heldG, if_neg c0, held_no (i := i) (by omega) (by omega) c2], rfl⟩
      · skip
        refine XK.skip ?_
        refine XK.inBlock ?_
        refine XK.region rfl (XO.q (Q.move rfl) ?_)
        refine XO.q (Q.add rfl rfl ⟨by omega, by omega⟩) ?_
        refine XO.q (Q.assign rfl) (XO.done ?_)
        exact ih0 (i + 1) _ _ ⟨by omega, by rw [allTo_succ, hx, Bool.true_and, decide_eq_true_eq]; change ¬ ((nextL h lo a).getD i 0 < lo.getD i 0 ∨ hi.getD i 0 < (nextL h hi d).getD i 0) at c2; omega, by rw [allTo_succ, hy, Bool.true_and, decide_eq_true_eq]; change ¬ ((nextL h lo a).getD i 0 < lo.getD i 0 ∨ hi.getD i 0 < (nextL h hi d).getD i 0) at c2; omega⟩ (by first | omega | (dsimp only; omega)) (.c rfl (.base 57 rfl rfl)) inferInstance
    · skip
      refine XK.exit rfl ?_
      refine XK.seq (XK.region rfl (XO.q (Q.assign rfl) (XO.q (Q.assign rfl) (XO.done ?_))))
      refine XK.rt [] Try.func67 Try.results67 (.t rfl (.t rfl .n)) ?_
      have hin : i = h.rooms.length := by omega
      rw [hin] at hx hy
      exact ⟨by rw [heldG, if_neg c0, show lbelow lo (nextL h lo a) = true by rw [lbelow, ll]; exact hx, show lbelow (nextL h hi d) hi = true by rw [lbelow, lb]; exact hy]; rfl, rfl⟩
end Go.X

set_option linter.unusedSimpArgs false
set_option linter.unusedVariables false
set_option maxRecDepth 20000
namespace Go.X
open Go.Proofs
theorem cloneRoom (v : Value) (h : PHeap) (xs : List HRoom) [s : Arr v encRoom 2 h xs] (hl : xs.length ≤ 68719476736) :
    Spec Try.prog 50 #[v] [] [h] (fun v' hs => ∃ h', hs = [h'] ∧ OArr v' encRoom 2 48 h' xs) := by
  refine Spec.intro (fn := Try.f50) (N := 8) Try.func50 rfl Try.ntmps50 rfl fun B => ?_
  refine XK.seq (XK.region rfl (XO.q (Q.assign rfl) (XO.done (XK.seq (XK.seq ?_)))))
  refine XK.region rfl (XO.q (Q.move rfl) ?_)
  refine XO.eqNil rfl fun z4 hz4 => ?_
  refine XO.done ?_
  refine XK.if rfl (fun c0 => ?_) (fun c0 => ?_)
  · skip
    refine XK.seq (XK.region rfl (XO.q (Q.assign rfl) (XO.done ?_)))
    refine XK.rt [emp] Try.func50 Try.results50 (.t rfl .n) ?_
    exact ⟨emp, rfl, by rw [(hz4 c0).1]; exact OArr.nil (fun _ => rfl)⟩
  · skip
    refine XK.skip (XK.seq (XK.region rfl ?_))
    refine XO.lit [] [] [] encRoom (by rfl) (by rfl) rfl (by rfl) (by exact .n _) (fun _ => rfl) (by rfl) rfl (by infer_instance) rfl fun v5 h5 O5 => ?_
    refine XO.q (Q.move rfl) ?_
    refine XO.append rfl rfl rfl rfl (by first | omega | (simp; omega)) fun v7 h7 O7 => ?_
    refine XO.q (Q.assign rfl) (XO.done ?_)
    refine XK.rt [h7] Try.func50 Try.results50 (.t rfl .n) ?_
    exact ⟨h7, rfl, O7⟩
theorem equalRoom_eq (x : HRoom) : (!(decide (x.store = x.store) && (decide (x.limit = x.limit) && true))) = false := by simp
theorem equalRoom (v1 v2 : Value) (h1 h2 : PHeap) (xs : List HRoom) [s1 : Arr v1 encRoom 2 h1 xs] [s2 : Arr v2 encRoom 2 h2 xs] :
    Spec Try.prog 92 #[v1, v2] [] [h1, h2] (fun v hs => v = .bool true ∧ hs = []) := by
  refine Spec.intro (fn := Try.f92) (N := 26) Try.func92 rfl Try.ntmps92 rfl fun B => ?_
  refine XK.seq (XK.region rfl (XO.q (Q.assign rfl) (XO.done (XK.seq (XK.seq ?_)))))
  refine XK.region rfl (XO.q (Q.move rfl) ?_)
  refine XO.len rfl fun l7 => ?_
  refine XO.q (Q.move rfl) ?_
  refine XO.len rfl fun l9 => ?_
  refine XO.q (Q.neq rfl rfl) ?_
  refine XO.done ?_
  refine XK.if rfl (fun c0 => ?_) (fun c0 => ?_)
  · skip
    simp at c0
  · skip
    refine XK.skip (XK.seq (XK.seq (XK.region rfl (XO.q (Q.move rfl) ?_))))
    refine XO.len rfl fun l12 => ?_
    refine XO.q (Q.move rfl) (XO.done (XK.block ?_))
    refine XK.while (X := Nat) [4, 5, 13, 14, 15, 16, 17, 18, 19, 20, 21, 22, 23, 24, 25] (fun i => [(13, some (.int .i64 (i : Nat)))]) (fun i => []) (fun i => i ≤ xs.length) (fun i => xs.length - i) (0) [] rfl (by omega) (.c rfl (.base 0 rfl rfl)) ?_
    rintro i hi ih0
    dsimp only [lcA, lnA] at ih0 ⊢
    refine XK.seq (XK.region rfl ?_)
    refine XO.q (Q.lss rfl rfl) ?_
    refine XO.done (XK.seq ?_)
    refine XK.if rfl (fun c1 => ?_) (fun c1 => ?_)
    · skip
      refine XK.skip (XK.seq (XK.block (XK.seq (XK.region rfl (XO.q (Q.move rfl) ?_)))))
      refine XO.q (Q.assign rfl) (XO.done (XK.seq ?_))
      refine XK.drawn [0, 1, 2, 3, 4, 5, 6, 7, 8] [] [] (.q 0 (.q 1 (.q 2 (.q 3 (.q 4 (.q 5 (.q 6 (.q 7 (.q 8 .done))))))))) Try.mixed rfl (by kernel_rfl) ?_
      refine XT.q rfl rfl (Q.move rfl) ?_
      refine XT.q rfl rfl (Q.move rfl) ?_
      refine XT.ix rfl rfl rfl rfl (by omega) (by omega) fun i18 => ?_
      refine XT.q rfl rfl (Q.ldEA [_, _] rfl (by first | assumption | omega) rfl rfl) ?_
      refine XT.q rfl rfl (Q.move rfl) ?_
      refine XT.q rfl rfl (Q.move rfl) ?_
      refine XT.ix rfl rfl rfl rfl (by omega) (by omega) fun i22 => ?_
      refine XT.q rfl rfl (Q.ldEA [_, _] rfl (by first | assumption | omega) rfl rfl) ?_
      refine XT.q rfl rfl (Q.neqS (us := [_, _]) (vs := [_, _]) rfl rfl inferInstance (by kernel_rfl) (by kernel_rfl) (.c rfl inferInstance inferInstance rfl rfl (.c rfl inferInstance inferInstance rfl rfl .n))) ?_
      rw [equalRoom_eq]
      refine XT.done ?_
      refine XK.if rfl (fun c2 => ?_) (fun c2 => ?_)
      · skip
        simp at c2
      · skip
        refine XK.skip ?_
        refine XK.inBlock ?_
        refine XK.region rfl ?_
        refine XO.q (Q.add rfl rfl ⟨by omega, by omega⟩) ?_
        refine XO.q (Q.move rfl) (XO.done ?_)
        exact ih0 (i + 1) _ _ (by omega) (by first | omega | (dsimp only; omega)) (.c rfl (.base 30 rfl rfl)) inferInstance
    · skip
      refine XK.exit rfl ?_
      refine XK.seq (XK.region rfl (XO.q (Q.assign rfl) (XO.done ?_)))
      refine XK.rt [] Try.func92 Try.results92 (.t rfl .n) ?_
      exact ⟨rfl, rfl⟩
theorem cloneWall (v : Value) (h : PHeap) (xs : List HWall) [s : Arr v encWall 3 h xs] (hl : xs.length ≤ 68719476736) :
    Spec Try.prog 51 #[v] [] [h] (fun v' hs => ∃ h', hs = [h'] ∧ OArr v' encWall 3 50 h' xs) := by
  refine Spec.intro (fn := Try.f51) (N := 8) Try.func51 rfl Try.ntmps51 rfl fun B => ?_
  refine XK.seq (XK.region rfl (XO.q (Q.assign rfl) (XO.done (XK.seq (XK.seq ?_)))))
  refine XK.region rfl (XO.q (Q.move rfl) ?_)
  refine XO.eqNil rfl fun z4 hz4 => ?_
  refine XO.done ?_
  refine XK.if rfl (fun c0 => ?_) (fun c0 => ?_)
  · skip
    refine XK.seq (XK.region rfl (XO.q (Q.assign rfl) (XO.done ?_)))
    refine XK.rt [emp] Try.func51 Try.results51 (.t rfl .n) ?_
    exact ⟨emp, rfl, by rw [(hz4 c0).1]; exact OArr.nil (fun _ => rfl)⟩
  · skip
    refine XK.skip (XK.seq (XK.region rfl ?_))
    refine XO.lit [] [] [] encWall (by rfl) (by rfl) rfl (by rfl) (by exact .n _) (fun _ => rfl) (by rfl) rfl (by infer_instance) rfl fun v5 h5 O5 => ?_
    refine XO.q (Q.move rfl) ?_
    refine XO.append rfl rfl rfl rfl (by first | omega | (simp; omega)) fun v7 h7 O7 => ?_
    refine XO.q (Q.assign rfl) (XO.done ?_)
    refine XK.rt [h7] Try.func51 Try.results51 (.t rfl .n) ?_
    exact ⟨h7, rfl, O7⟩
theorem equalWall_eq (x : HWall) : (!(decide (x.a = x.a) && (decide (x.b = x.b) && (decide (x.pass = x.pass) && true)))) = false := by simp
theorem equalWall (v1 v2 : Value) (h1 h2 : PHeap) (xs : List HWall) [s1 : Arr v1 encWall 3 h1 xs] [s2 : Arr v2 encWall 3 h2 xs] :
    Spec Try.prog 93 #[v1, v2] [] [h1, h2] (fun v hs => v = .bool true ∧ hs = []) := by
  refine Spec.intro (fn := Try.f93) (N := 26) Try.func93 rfl Try.ntmps93 rfl fun B => ?_
  refine XK.seq (XK.region rfl (XO.q (Q.assign rfl) (XO.done (XK.seq (XK.seq ?_)))))
  refine XK.region rfl (XO.q (Q.move rfl) ?_)
  refine XO.len rfl fun l7 => ?_
  refine XO.q (Q.move rfl) ?_
  refine XO.len rfl fun l9 => ?_
  refine XO.q (Q.neq rfl rfl) ?_
  refine XO.done ?_
  refine XK.if rfl (fun c0 => ?_) (fun c0 => ?_)
  · skip
    simp at c0
  · skip
    refine XK.skip (XK.seq (XK.seq (XK.region rfl (XO.q (Q.move rfl) ?_))))
    refine XO.len rfl fun l12 => ?_
    refine XO.q (Q.move rfl) (XO.done (XK.block ?_))
    refine XK.while (X := Nat) [4, 5, 13, 14, 15, 16, 17, 18, 19, 20, 21, 22, 23, 24, 25] (fun i => [(13, some (.int .i64 (i : Nat)))]) (fun i => []) (fun i => i ≤ xs.length) (fun i => xs.length - i) (0) [] rfl (by omega) (.c rfl (.base 0 rfl rfl)) ?_
    rintro i hi ih0
    dsimp only [lcA, lnA] at ih0 ⊢
    refine XK.seq (XK.region rfl ?_)
    refine XO.q (Q.lss rfl rfl) ?_
    refine XO.done (XK.seq ?_)
    refine XK.if rfl (fun c1 => ?_) (fun c1 => ?_)
    · skip
      refine XK.skip (XK.seq (XK.block (XK.seq (XK.region rfl (XO.q (Q.move rfl) ?_)))))
      refine XO.q (Q.assign rfl) (XO.done (XK.seq ?_))
      refine XK.drawn [0, 1, 2, 3, 4, 5, 6, 7, 8] [] [] (.q 0 (.q 1 (.q 2 (.q 3 (.q 4 (.q 5 (.q 6 (.q 7 (.q 8 .done))))))))) Try.mixed rfl (by kernel_rfl) ?_
      refine XT.q rfl rfl (Q.move rfl) ?_
      refine XT.q rfl rfl (Q.move rfl) ?_
      refine XT.ix rfl rfl rfl rfl (by omega) (by omega) fun i18 => ?_
      refine XT.q rfl rfl (Q.ldEA [_, _, _] rfl (by first | assumption | omega) rfl rfl) ?_
      refine XT.q rfl rfl (Q.move rfl) ?_
      refine XT.q rfl rfl (Q.move rfl) ?_
      refine XT.ix rfl rfl rfl rfl (by omega) (by omega) fun i22 => ?_
      refine XT.q rfl rfl (Q.ldEA [_, _, _] rfl (by first | assumption | omega) rfl rfl) ?_
      refine XT.q rfl rfl (Q.neqS (us := [_, _, _]) (vs := [_, _, _]) rfl rfl inferInstance (by kernel_rfl) (by kernel_rfl) (.c rfl inferInstance inferInstance rfl rfl (.c rfl inferInstance inferInstance rfl rfl (.c rfl inferInstance inferInstance rfl rfl .n)))) ?_
      rw [equalWall_eq]
      refine XT.done ?_
      refine XK.if rfl (fun c2 => ?_) (fun c2 => ?_)
      · skip
        simp at c2
      · skip
        refine XK.skip ?_
        refine XK.inBlock ?_
        refine XK.region rfl ?_
        refine XO.q (Q.add rfl rfl ⟨by omega, by omega⟩) ?_
        refine XO.q (Q.move rfl) (XO.done ?_)
        exact ih0 (i + 1) _ _ (by omega) (by first | omega | (dsimp only; omega)) (.c rfl (.base 30 rfl rfl)) inferInstance
    · skip
      refine XK.exit rfl ?_
      refine XK.seq (XK.region rfl (XO.q (Q.assign rfl) (XO.done ?_)))
      refine XK.rt [] Try.func93 Try.results93 (.t rfl .n) ?_
      exact ⟨rfl, rfl⟩
theorem cloneBranch (v : Value) (h : PHeap) (xs : List HBranch) [s : Arr v encBranch 3 h xs] (hl : xs.length ≤ 68719476736) :
    Spec Try.prog 52 #[v] [] [h] (fun v' hs => ∃ h', hs = [h'] ∧ OArr v' encBranch 3 38 h' xs) := by
  refine Spec.intro (fn := Try.f52) (N := 8) Try.func52 rfl Try.ntmps52 rfl fun B => ?_
  refine XK.seq (XK.region rfl (XO.q (Q.assign rfl) (XO.done (XK.seq (XK.seq ?_)))))
  refine XK.region rfl (XO.q (Q.move rfl) ?_)
  refine XO.eqNil rfl fun z4 hz4 => ?_
  refine XO.done ?_
  refine XK.if rfl (fun c0 => ?_) (fun c0 => ?_)
  · skip
    refine XK.seq (XK.region rfl (XO.q (Q.assign rfl) (XO.done ?_)))
    refine XK.rt [emp] Try.func52 Try.results52 (.t rfl .n) ?_
    exact ⟨emp, rfl, by rw [(hz4 c0).1]; exact OArr.nil (fun _ => rfl)⟩
  · skip
    refine XK.skip (XK.seq (XK.region rfl ?_))
    refine XO.lit [] [] [] encBranch (by rfl) (by rfl) rfl (by rfl) (by exact .n _) (fun _ => rfl) (by rfl) rfl (by infer_instance) rfl fun v5 h5 O5 => ?_
    refine XO.q (Q.move rfl) ?_
    refine XO.append rfl rfl rfl rfl (by first | omega | (simp; omega)) fun v7 h7 O7 => ?_
    refine XO.q (Q.assign rfl) (XO.done ?_)
    refine XK.rt [h7] Try.func52 Try.results52 (.t rfl .n) ?_
    exact ⟨h7, rfl, O7⟩
theorem equalBranch_eq (x : HBranch) : (!(decide (x.up = x.up) && (decide (x.opn = x.opn) && (decide (x.leak = x.leak) && true)))) = false := by simp
theorem equalBranch (v1 v2 : Value) (h1 h2 : PHeap) (xs : List HBranch) [s1 : Arr v1 encBranch 3 h1 xs] [s2 : Arr v2 encBranch 3 h2 xs] :
    Spec Try.prog 94 #[v1, v2] [] [h1, h2] (fun v hs => v = .bool true ∧ hs = []) := by
  refine Spec.intro (fn := Try.f94) (N := 26) Try.func94 rfl Try.ntmps94 rfl fun B => ?_
  refine XK.seq (XK.region rfl (XO.q (Q.assign rfl) (XO.done (XK.seq (XK.seq ?_)))))
  refine XK.region rfl (XO.q (Q.move rfl) ?_)
  refine XO.len rfl fun l7 => ?_
  refine XO.q (Q.move rfl) ?_
  refine XO.len rfl fun l9 => ?_
  refine XO.q (Q.neq rfl rfl) ?_
  refine XO.done ?_
  refine XK.if rfl (fun c0 => ?_) (fun c0 => ?_)
  · skip
    simp at c0
  · skip
    refine XK.skip (XK.seq (XK.seq (XK.region rfl (XO.q (Q.move rfl) ?_))))
    refine XO.len rfl fun l12 => ?_
    refine XO.q (Q.move rfl) (XO.done (XK.block ?_))
    refine XK.while (X := Nat) [4, 5, 13, 14, 15, 16, 17, 18, 19, 20, 21, 22, 23, 24, 25] (fun i => [(13, some (.int .i64 (i : Nat)))]) (fun i => []) (fun i => i ≤ xs.length) (fun i => xs.length - i) (0) [] rfl (by omega) (.c rfl (.base 0 rfl rfl)) ?_
    rintro i hi ih0
    dsimp only [lcA, lnA] at ih0 ⊢
    refine XK.seq (XK.region rfl ?_)
    refine XO.q (Q.lss rfl rfl) ?_
    refine XO.done (XK.seq ?_)
    refine XK.if rfl (fun c1 => ?_) (fun c1 => ?_)
    · skip
      refine XK.skip (XK.seq (XK.block (XK.seq (XK.region rfl (XO.q (Q.move rfl) ?_)))))
      refine XO.q (Q.assign rfl) (XO.done (XK.seq ?_))
      refine XK.drawn [0, 1, 2, 3, 4, 5, 6, 7, 8] [] [] (.q 0 (.q 1 (.q 2 (.q 3 (.q 4 (.q 5 (.q 6 (.q 7 (.q 8 .done))))))))) Try.mixed rfl (by kernel_rfl) ?_
      refine XT.q rfl rfl (Q.move rfl) ?_
      refine XT.q rfl rfl (Q.move rfl) ?_
      refine XT.ix rfl rfl rfl rfl (by omega) (by omega) fun i18 => ?_
      refine XT.q rfl rfl (Q.ldEA [_, _, _] rfl (by first | assumption | omega) rfl rfl) ?_
      refine XT.q rfl rfl (Q.move rfl) ?_
      refine XT.q rfl rfl (Q.move rfl) ?_
      refine XT.ix rfl rfl rfl rfl (by omega) (by omega) fun i22 => ?_
      refine XT.q rfl rfl (Q.ldEA [_, _, _] rfl (by first | assumption | omega) rfl rfl) ?_
      refine XT.q rfl rfl (Q.neqS (us := [_, _, _]) (vs := [_, _, _]) rfl rfl inferInstance (by kernel_rfl) (by kernel_rfl) (.c rfl inferInstance inferInstance rfl rfl (.c rfl inferInstance inferInstance rfl rfl (.c rfl inferInstance inferInstance rfl rfl .n)))) ?_
      rw [equalBranch_eq]
      refine XT.done ?_
      refine XK.if rfl (fun c2 => ?_) (fun c2 => ?_)
      · skip
        simp at c2
      · skip
        refine XK.skip ?_
        refine XK.inBlock ?_
        refine XK.region rfl ?_
        refine XO.q (Q.add rfl rfl ⟨by omega, by omega⟩) ?_
        refine XO.q (Q.move rfl) (XO.done ?_)
        exact ih0 (i + 1) _ _ (by omega) (by first | omega | (dsimp only; omega)) (.c rfl (.base 30 rfl rfl)) inferInstance
    · skip
      refine XK.exit rfl ?_
      refine XK.seq (XK.region rfl (XO.q (Q.assign rfl) (XO.done ?_)))
      refine XK.rt [] Try.func94 Try.results94 (.t rfl .n) ?_
      exact ⟨rfl, rfl⟩
theorem cloneCooler (v : Value) (h : PHeap) (xs : List HCooler) [s : Arr v encCooler 5 h xs] (hl : xs.length ≤ 68719476736) :
    Spec Try.prog 53 #[v] [] [h] (fun v' hs => ∃ h', hs = [h'] ∧ OArr v' encCooler 5 52 h' xs) := by
  refine Spec.intro (fn := Try.f53) (N := 8) Try.func53 rfl Try.ntmps53 rfl fun B => ?_
  refine XK.seq (XK.region rfl (XO.q (Q.assign rfl) (XO.done (XK.seq (XK.seq ?_)))))
  refine XK.region rfl (XO.q (Q.move rfl) ?_)
  refine XO.eqNil rfl fun z4 hz4 => ?_
  refine XO.done ?_
  refine XK.if rfl (fun c0 => ?_) (fun c0 => ?_)
  · skip
    refine XK.seq (XK.region rfl (XO.q (Q.assign rfl) (XO.done ?_)))
    refine XK.rt [emp] Try.func53 Try.results53 (.t rfl .n) ?_
    exact ⟨emp, rfl, by rw [(hz4 c0).1]; exact OArr.nil (fun _ => rfl)⟩
  · skip
    refine XK.skip (XK.seq (XK.region rfl ?_))
    refine XO.lit [] [] [] encCooler (by rfl) (by rfl) rfl (by rfl) (by exact .n _) (fun _ => rfl) (by rfl) rfl (by infer_instance) rfl fun v5 h5 O5 => ?_
    refine XO.q (Q.move rfl) ?_
    refine XO.append rfl rfl rfl rfl (by first | omega | (simp; omega)) fun v7 h7 O7 => ?_
    refine XO.q (Q.assign rfl) (XO.done ?_)
    refine XK.rt [h7] Try.func53 Try.results53 (.t rfl .n) ?_
    exact ⟨h7, rfl, O7⟩
theorem equalCooler_eq (x : HCooler) : (!(decide (x.room = x.room) && (decide (x.br = x.br) && (decide (x.gain = x.gain) && (decide (x.carry = x.carry) && (decide (x.supply = x.supply) && true)))))) = false := by simp
theorem equalCooler (v1 v2 : Value) (h1 h2 : PHeap) (xs : List HCooler) [s1 : Arr v1 encCooler 5 h1 xs] [s2 : Arr v2 encCooler 5 h2 xs] :
    Spec Try.prog 95 #[v1, v2] [] [h1, h2] (fun v hs => v = .bool true ∧ hs = []) := by
  refine Spec.intro (fn := Try.f95) (N := 26) Try.func95 rfl Try.ntmps95 rfl fun B => ?_
  refine XK.seq (XK.region rfl (XO.q (Q.assign rfl) (XO.done (XK.seq (XK.seq ?_)))))
  refine XK.region rfl (XO.q (Q.move rfl) ?_)
  refine XO.len rfl fun l7 => ?_
  refine XO.q (Q.move rfl) ?_
  refine XO.len rfl fun l9 => ?_
  refine XO.q (Q.neq rfl rfl) ?_
  refine XO.done ?_
  refine XK.if rfl (fun c0 => ?_) (fun c0 => ?_)
  · skip
    simp at c0
  · skip
    refine XK.skip (XK.seq (XK.seq (XK.region rfl (XO.q (Q.move rfl) ?_))))
    refine XO.len rfl fun l12 => ?_
    refine XO.q (Q.move rfl) (XO.done (XK.block ?_))
    refine XK.while (X := Nat) [4, 5, 13, 14, 15, 16, 17, 18, 19, 20, 21, 22, 23, 24, 25] (fun i => [(13, some (.int .i64 (i : Nat)))]) (fun i => []) (fun i => i ≤ xs.length) (fun i => xs.length - i) (0) [] rfl (by omega) (.c rfl (.base 0 rfl rfl)) ?_
    rintro i hi ih0
    dsimp only [lcA, lnA] at ih0 ⊢
    refine XK.seq (XK.region rfl ?_)
    refine XO.q (Q.lss rfl rfl) ?_
    refine XO.done (XK.seq ?_)
    refine XK.if rfl (fun c1 => ?_) (fun c1 => ?_)
    · skip
      refine XK.skip (XK.seq (XK.block (XK.seq (XK.region rfl (XO.q (Q.move rfl) ?_)))))
      refine XO.q (Q.assign rfl) (XO.done (XK.seq ?_))
      refine XK.drawn [0, 1, 2, 3, 4, 5, 6, 7, 8] [] [] (.q 0 (.q 1 (.q 2 (.q 3 (.q 4 (.q 5 (.q 6 (.q 7 (.q 8 .done))))))))) Try.mixed rfl (by kernel_rfl) ?_
      refine XT.q rfl rfl (Q.move rfl) ?_
      refine XT.q rfl rfl (Q.move rfl) ?_
      refine XT.ix rfl rfl rfl rfl (by omega) (by omega) fun i18 => ?_
      refine XT.q rfl rfl (Q.ldEA [_, _, _, _, _] rfl (by first | assumption | omega) rfl rfl) ?_
      refine XT.q rfl rfl (Q.move rfl) ?_
      refine XT.q rfl rfl (Q.move rfl) ?_
      refine XT.ix rfl rfl rfl rfl (by omega) (by omega) fun i22 => ?_
      refine XT.q rfl rfl (Q.ldEA [_, _, _, _, _] rfl (by first | assumption | omega) rfl rfl) ?_
      refine XT.q rfl rfl (Q.neqS (us := [_, _, _, _, _]) (vs := [_, _, _, _, _]) rfl rfl inferInstance (by kernel_rfl) (by kernel_rfl) (.c rfl inferInstance inferInstance rfl rfl (.c rfl inferInstance inferInstance rfl rfl (.c rfl inferInstance inferInstance rfl rfl (.c rfl inferInstance inferInstance rfl rfl (.c rfl inferInstance inferInstance rfl rfl .n)))))) ?_
      rw [equalCooler_eq]
      refine XT.done ?_
      refine XK.if rfl (fun c2 => ?_) (fun c2 => ?_)
      · skip
        simp at c2
      · skip
        refine XK.skip ?_
        refine XK.inBlock ?_
        refine XK.region rfl ?_
        refine XO.q (Q.add rfl rfl ⟨by omega, by omega⟩) ?_
        refine XO.q (Q.move rfl) (XO.done ?_)
        exact ih0 (i + 1) _ _ (by omega) (by first | omega | (dsimp only; omega)) (.c rfl (.base 30 rfl rfl)) inferInstance
    · skip
      refine XK.exit rfl ?_
      refine XK.seq (XK.region rfl (XO.q (Q.assign rfl) (XO.done ?_)))
      refine XK.rt [] Try.func95 Try.results95 (.t rfl .n) ?_
      exact ⟨rfl, rfl⟩
theorem take_recH {α : Type} [Inhabited α] {l : List α} {i : Nat} (hi : i < l.length) : l.take (i + 1) = l.take i ++ [l.getD i default] := by
  rw [List.take_add_one, List.getElem?_eq_getElem hi, List.getD_eq_getElem?_getD, List.getElem?_eq_getElem hi]; rfl
theorem copied07 (h : Hall) (vr vw vb vc : Value) (hr hw hb hc : PHeap) [ir : Arr vr encRoom 2 hr h.rooms] [iw : Arr vw encWall 3 hw h.walls] [ib : Arr vb encBranch 3 hb h.branches] [ic : Arr vc encCooler 5 hc h.coolers] (n1 : h.rooms.length ≤ 1000) (n2 : h.walls.length ≤ 1000) (n3 : h.branches.length ≤ 1000) (n4 : h.coolers.length ≤ 1000) : Spec Try.prog 26 #[.agg #[vr, vw, vb, vc]] [] [hr, hw, hb, hc] (fun v hs => ∃ a1 a2 a3 a4 b1 b2 b3 b4 k1 k2 k3 k4 j1 j2 j3 j4, v = .tuple #[.agg #[a1, a2, a3, a4], .agg #[b1, b2, b3, b4]] ∧ hs = [k1, k2, k3, k4, j1, j2, j3, j4] ∧
    (OArr a1 encRoom 2 48 k1 h.rooms ∧ OArr a2 encWall 3 50 k2 h.walls ∧ OArr a3 encBranch 3 38 k3 h.branches ∧ OArr a4 encCooler 5 52 k4 h.coolers) ∧ OArr b1 encRoom 2 123 j1 h.rooms ∧ OArr b2 encWall 3 124 j2 h.walls ∧ OArr b3 encBranch 3 125 j3 h.branches ∧ OArr b4 encCooler 5 126 j4 h.coolers) := by
  have n_r : OArr (.slice none 0 0) encRoom 2 123 emp ([] : List HRoom) := OArr.nil (fun _ => rfl)
  have n_w : OArr (.slice none 0 0) encWall 3 124 emp ([] : List HWall) := OArr.nil (fun _ => rfl)
  have n_b : OArr (.slice none 0 0) encBranch 3 125 emp ([] : List HBranch) := OArr.nil (fun _ => rfl)
  have n_c : OArr (.slice none 0 0) encCooler 5 126 emp ([] : List HCooler) := OArr.nil (fun _ => rfl)
  refine Spec.intro (fn := Try.f26) (N := 85) Try.func26 rfl Try.ntmps26 rfl fun B => ?_
  refine XK.seq (XK.region rfl ?_)
  refine XO.box rfl fun b1 => ?_
  refine XO.alloc fun b2 => ?_
  refine XO.alloc fun b3 => ?_
  refine XO.done (XK.seq ?_)
  refine XK.meet (X := Nat × Value × Value × Value × Value × PHeap × PHeap × PHeap × PHeap) [4, 14, 15, 16, 17, 18, 19, 20, 21, 22, 23, 24, 25, 26] (fun ⟨b4, v16, v19, v22, v25, k16, k19, k22, k25⟩ => [(4, some (ptr b4 0))]) (fun ⟨b4, v16, v19, v22, v25, k16, k19, k22, k25⟩ => [blk b4 [v16, v19, v22, v25] 29, k16, k19, k22, k25]) (fun ⟨b4, v16, v19, v22, v25, k16, k19, k22, k25⟩ => OArr v16 encRoom 2 48 k16 h.rooms ∧ OArr v19 encWall 3 50 k19 h.walls ∧ OArr v22 encBranch 3 38 k22 h.branches ∧ OArr v25 encCooler 5 52 k25 h.coolers) [] ?_ ?_
  · rintro ⟨b4, v16, v19, v22, v25, k16, k19, k22, k25⟩ ⟨O16, O19, O22, O25⟩
    dsimp only [lcA, lnA]
    refine XK.seq (XK.region rfl ?_)
    refine XO.alloc fun b5 => ?_
    refine XO.done (XK.seq (XK.seq (XK.region rfl ?_)))
    refine XO.q (Q.fieldAddr rfl) ?_
    refine XO.q (Q.ld rfl rfl) ?_
    refine XO.len rfl fun l29 => ?_
    refine XO.q (Q.move rfl) (XO.done (XK.block ?_))
    refine XK.while (X := Nat × Value × PHeap) [7, 30, 31, 32, 33, 34, 35, 36, 37, 38, 39, 40] (fun ⟨i, w1, q1⟩ => [(30, some (.int .i64 (i : Nat)))]) (fun ⟨i, w1, q1⟩ => [blk b5 [w1, .slice none 0 0, .slice none 0 0, .slice none 0 0] 74, q1]) (fun ⟨i, w1, q1⟩ => i ≤ h.rooms.length ∧ OArr w1 encRoom 2 123 q1 (h.rooms.take i)) (fun ⟨i, w1, q1⟩ => h.rooms.length - i) (0, .slice none 0 0, emp) [blk b5 [.slice none 0 0, .slice none 0 0, .slice none 0 0, .slice none 0 0] 74, emp] rfl ⟨by omega, n_r⟩ (.c rfl (.base 0 rfl rfl)) ?_
    rintro ⟨i, w1, q1⟩ ⟨hi, OQ1⟩ ih0
    dsimp only [lcA, lnA] at ih0 ⊢
    have el : (h.rooms.take i).length = i := by rw [List.length_take]; omega
    refine XK.seq (XK.region rfl ?_)
    refine XO.q (Q.lss rfl rfl) ?_
    refine XO.done (XK.seq ?_)
    refine XK.if rfl (fun c0 => ?_) (fun c0 => ?_)
    · skip
      refine XK.skip (XK.seq (XK.block (XK.seq (XK.region rfl ?_))))
      refine XO.ix rfl rfl (by omega) (by omega) fun i32 => ?_
      refine XO.q (Q.ldEA [_, _] rfl (by first | assumption | omega) rfl rfl) ?_
      refine XO.alloc fun b7 => ?_
      refine XO.st rfl rfl rfl ?_
      refine XO.done (XK.region rfl ?_)
      refine XO.q (Q.fieldAddr rfl) ?_
      refine XO.q (Q.ld rfl rfl) ?_
      refine XO.q (Q.ldA [_, _] rfl rfl rfl) ?_
      refine XO.lit [_, _] [_, _] [h.rooms.getD i default] encRoom (by rfl) (by rfl) rfl (by rfl) (by exact .c 0 2 rfl rfl rfl (.n _)) (fun _ => rfl) (by rfl) rfl (by infer_instance) rfl fun v37 h37 O37 => ?_
      refine XO.append rfl rfl rfl rfl (by first | omega | (simp; omega)) fun v38 h38 O38 => ?_
      refine XO.q (Q.fieldAddr rfl) ?_
      refine XO.st rfl rfl rfl ?_
      refine XO.done ?_
      refine XK.inBlock ?_
      refine XK.region rfl ?_
      refine XO.q (Q.add rfl rfl ⟨by omega, by omega⟩) ?_
      refine XO.q (Q.move rfl) (XO.done ?_)
      exact ih0 (i + 1, v38, h38) _ _ ⟨by dsimp only; omega, by dsimp only; rw [take_recH (by omega)]; exact O38⟩ (by first | omega | (dsimp only; omega)) (.c rfl (.base 25 rfl rfl)) inferInstance
    · skip
      have hil : i = h.rooms.length := by omega
      subst hil
      rw [List.take_length] at OQ1
      clear ih0
      refine XK.exit rfl ?_
      refine XK.seq (XK.seq (XK.region rfl ?_))
      refine XO.q (Q.fieldAddr rfl) ?_
      refine XO.q (Q.ld rfl rfl) ?_
      refine XO.len rfl fun l43 => ?_
      refine XO.q (Q.move rfl) (XO.done (XK.block ?_))
      refine XK.while (X := Nat × Value × PHeap) [9, 44, 45, 46, 47, 48, 49, 50, 51, 52, 53, 54] (fun ⟨i, w2, q2⟩ => [(44, some (.int .i64 (i : Nat)))]) (fun ⟨i, w2, q2⟩ => [blk b5 [w1, w2, .slice none 0 0, .slice none 0 0] 74, q2]) (fun ⟨i, w2, q2⟩ => i ≤ h.walls.length ∧ OArr w2 encWall 3 124 q2 (h.walls.take i)) (fun ⟨i, w2, q2⟩ => h.walls.length - i) (0, .slice none 0 0, emp) [blk b5 [w1, .slice none 0 0, .slice none 0 0, .slice none 0 0] 74, emp] rfl ⟨by omega, n_w⟩ (.c rfl (.base 0 rfl rfl)) ?_
      rintro ⟨i, w2, q2⟩ ⟨hi, OQ2⟩ ih1
      dsimp only [lcA, lnA] at ih1 ⊢
      have el : (h.walls.take i).length = i := by rw [List.length_take]; omega
      refine XK.seq (XK.region rfl ?_)
      refine XO.q (Q.lss rfl rfl) ?_
      refine XO.done (XK.seq ?_)
      refine XK.if rfl (fun c1 => ?_) (fun c1 => ?_)
      · skip
        refine XK.skip (XK.seq (XK.block (XK.seq (XK.region rfl ?_))))
        refine XO.ix rfl rfl (by omega) (by omega) fun i46 => ?_
        refine XO.q (Q.ldEA [_, _, _] rfl (by first | assumption | omega) rfl rfl) ?_
        refine XO.alloc fun b9 => ?_
        refine XO.st rfl rfl rfl ?_
        refine XO.done (XK.region rfl ?_)
        refine XO.q (Q.fieldAddr rfl) ?_
        refine XO.q (Q.ld rfl rfl) ?_
        refine XO.q (Q.ldA [_, _, _] rfl rfl rfl) ?_
        refine XO.lit [_, _, _] [_, _, _] [h.walls.getD i default] encWall (by rfl) (by rfl) rfl (by rfl) (by exact .c 0 3 rfl rfl rfl (.n _)) (fun _ => rfl) (by rfl) rfl (by infer_instance) rfl fun v51 h51 O51 => ?_
        refine XO.append rfl rfl rfl rfl (by first | omega | (simp; omega)) fun v52 h52 O52 => ?_
        refine XO.q (Q.fieldAddr rfl) ?_
        refine XO.st rfl rfl rfl ?_
        refine XO.done ?_
        refine XK.inBlock ?_
        refine XK.region rfl ?_
        refine XO.q (Q.add rfl rfl ⟨by omega, by omega⟩) ?_
        refine XO.q (Q.move rfl) (XO.done ?_)
        exact ih1 (i + 1, v52, h52) _ _ ⟨by dsimp only; omega, by dsimp only; rw [take_recH (by omega)]; exact O52⟩ (by first | omega | (dsimp only; omega)) (.c rfl (.base 25 rfl rfl)) inferInstance
      · skip
        have hil : i = h.walls.length := by omega
        subst hil
        rw [List.take_length] at OQ2
        clear ih1
        refine XK.exit rfl ?_
        refine XK.seq (XK.seq (XK.region rfl ?_))
        refine XO.q (Q.fieldAddr rfl) ?_
        refine XO.q (Q.ld rfl rfl) ?_
        refine XO.len rfl fun l57 => ?_
        refine XO.q (Q.move rfl) (XO.done (XK.block ?_))
        refine XK.while (X := Nat × Value × PHeap) [11, 58, 59, 60, 61, 62, 63, 64, 65, 66, 67, 68] (fun ⟨i, w3, q3⟩ => [(58, some (.int .i64 (i : Nat)))]) (fun ⟨i, w3, q3⟩ => [blk b5 [w1, w2, w3, .slice none 0 0] 74, q3]) (fun ⟨i, w3, q3⟩ => i ≤ h.branches.length ∧ OArr w3 encBranch 3 125 q3 (h.branches.take i)) (fun ⟨i, w3, q3⟩ => h.branches.length - i) (0, .slice none 0 0, emp) [blk b5 [w1, w2, .slice none 0 0, .slice none 0 0] 74, emp] rfl ⟨by omega, n_b⟩ (.c rfl (.base 0 rfl rfl)) ?_
        rintro ⟨i, w3, q3⟩ ⟨hi, OQ3⟩ ih2
        dsimp only [lcA, lnA] at ih2 ⊢
        have el : (h.branches.take i).length = i := by rw [List.length_take]; omega
        refine XK.seq (XK.region rfl ?_)
        refine XO.q (Q.lss rfl rfl) ?_
        refine XO.done (XK.seq ?_)
        refine XK.if rfl (fun c2 => ?_) (fun c2 => ?_)
        · skip
          refine XK.skip (XK.seq (XK.block (XK.seq (XK.region rfl ?_))))
          refine XO.ix rfl rfl (by omega) (by omega) fun i60 => ?_
          refine XO.q (Q.ldEA [_, _, _] rfl (by first | assumption | omega) rfl rfl) ?_
          refine XO.alloc fun b11 => ?_
          refine XO.st rfl rfl rfl ?_
          refine XO.done (XK.region rfl ?_)
          refine XO.q (Q.fieldAddr rfl) ?_
          refine XO.q (Q.ld rfl rfl) ?_
          refine XO.q (Q.ldA [_, _, _] rfl rfl rfl) ?_
          refine XO.lit [_, _, _] [_, _, _] [h.branches.getD i default] encBranch (by rfl) (by rfl) rfl (by rfl) (by exact .c 0 3 rfl rfl rfl (.n _)) (fun _ => rfl) (by rfl) rfl (by infer_instance) rfl fun v65 h65 O65 => ?_
          refine XO.append rfl rfl rfl rfl (by first | omega | (simp; omega)) fun v66 h66 O66 => ?_
          refine XO.q (Q.fieldAddr rfl) ?_
          refine XO.st rfl rfl rfl ?_
          refine XO.done ?_
          refine XK.inBlock ?_
          refine XK.region rfl ?_
          refine XO.q (Q.add rfl rfl ⟨by omega, by omega⟩) ?_
          refine XO.q (Q.move rfl) (XO.done ?_)
          exact ih2 (i + 1, v66, h66) _ _ ⟨by dsimp only; omega, by dsimp only; rw [take_recH (by omega)]; exact O66⟩ (by first | omega | (dsimp only; omega)) (.c rfl (.base 25 rfl rfl)) inferInstance
        · skip
          have hil : i = h.branches.length := by omega
          subst hil
          rw [List.take_length] at OQ3
          clear ih2
          refine XK.exit rfl ?_
          refine XK.seq (XK.seq (XK.region rfl ?_))
          refine XO.q (Q.fieldAddr rfl) ?_
          refine XO.q (Q.ld rfl rfl) ?_
          refine XO.len rfl fun l71 => ?_
          refine XO.q (Q.move rfl) (XO.done (XK.block ?_))
          refine XK.while (X := Nat × Value × PHeap) [13, 72, 73, 74, 75, 76, 77, 78, 79, 80, 81, 82] (fun ⟨i, w4, q4⟩ => [(72, some (.int .i64 (i : Nat)))]) (fun ⟨i, w4, q4⟩ => [blk b5 [w1, w2, w3, w4] 74, q4]) (fun ⟨i, w4, q4⟩ => i ≤ h.coolers.length ∧ OArr w4 encCooler 5 126 q4 (h.coolers.take i)) (fun ⟨i, w4, q4⟩ => h.coolers.length - i) (0, .slice none 0 0, emp) [blk b5 [w1, w2, w3, .slice none 0 0] 74, emp] rfl ⟨by omega, n_c⟩ (.c rfl (.base 0 rfl rfl)) ?_
          rintro ⟨i, w4, q4⟩ ⟨hi, OQ4⟩ ih3
          dsimp only [lcA, lnA] at ih3 ⊢
          have el : (h.coolers.take i).length = i := by rw [List.length_take]; omega
          refine XK.seq (XK.region rfl ?_)
          refine XO.q (Q.lss rfl rfl) ?_
          refine XO.done (XK.seq ?_)
          refine XK.if rfl (fun c3 => ?_) (fun c3 => ?_)
          · skip
            refine XK.skip (XK.seq (XK.block (XK.seq (XK.region rfl ?_))))
            refine XO.ix rfl rfl (by omega) (by omega) fun i74 => ?_
            refine XO.q (Q.ldEA [_, _, _, _, _] rfl (by first | assumption | omega) rfl rfl) ?_
            refine XO.alloc fun b13 => ?_
            refine XO.st rfl rfl rfl ?_
            refine XO.done (XK.region rfl ?_)
            refine XO.q (Q.fieldAddr rfl) ?_
            refine XO.q (Q.ld rfl rfl) ?_
            refine XO.q (Q.ldA [_, _, _, _, _] rfl rfl rfl) ?_
            refine XO.lit [_, _, _, _, _] [_, _, _, _, _] [h.coolers.getD i default] encCooler (by rfl) (by rfl) rfl (by rfl) (by exact .c 0 5 rfl rfl rfl (.n _)) (fun _ => rfl) (by rfl) rfl (by infer_instance) rfl fun v79 h79 O79 => ?_
            refine XO.append rfl rfl rfl rfl (by first | omega | (simp; omega)) fun v80 h80 O80 => ?_
            refine XO.q (Q.fieldAddr rfl) ?_
            refine XO.st rfl rfl rfl ?_
            refine XO.done ?_
            refine XK.inBlock ?_
            refine XK.region rfl ?_
            refine XO.q (Q.add rfl rfl ⟨by omega, by omega⟩) ?_
            refine XO.q (Q.move rfl) (XO.done ?_)
            exact ih3 (i + 1, v80, h80) _ _ ⟨by dsimp only; omega, by dsimp only; rw [take_recH (by omega)]; exact O80⟩ (by first | omega | (dsimp only; omega)) (.c rfl (.base 25 rfl rfl)) inferInstance
          · skip
            have hil : i = h.coolers.length := by omega
            subst hil
            rw [List.take_length] at OQ4
            clear ih3
            refine XK.exit rfl ?_
            refine XK.seq ?_
            refine XK.drawn [0, 1] [b4, b5] [] (.q 0 (.q 1 (.br 2 true (.br 3 false .done .stop) .stop))) Try.mixed rfl (by kernel_rfl) ?_
            refine XT.q rfl rfl (Q.ldA [_, _, _, _] rfl rfl rfl) ?_
            refine XT.q rfl rfl (Q.ldA [_, _, _, _] rfl rfl rfl) ?_
            refine XT.st rfl rfl rfl rfl rfl ⟨inferInstance, ?_⟩ XT.stop
            refine XT.st rfl rfl rfl rfl rfl ⟨inferInstance, ?_⟩ XT.stop
            refine XT.done ?_
            refine XK.rt [k16, k19, k22, k25, q1, q2, q3, q4] Try.func26 Try.results26 (.cell [_, _, _, _] rfl rfl rfl (.cell [_, _, _, _] rfl rfl rfl (.n))) ?_
            exact ⟨v16, v19, v22, v25, w1, w2, w3, w4, k16, k19, k22, k25, q1, q2, q3, q4, rfl, rfl, ⟨O16, O19, O22, O25⟩, OQ1, OQ2, OQ3, OQ4⟩
  · intro mtr1
    dsimp only [lcA, lnA] at mtr1
    refine XK.drawn [0, 1, 3, 4, 6, 7, 9, 10, 12] [b1] [] (.q 0 (.q 1 (.q 3 (.q 4 (.q 6 (.q 7 (.q 9 (.q 10 (.br 2 true (.br 5 true (.br 8 true (.br 11 true (.q 12 (.br 13 true (.br 14 false .done .stop) .stop)) (.br 13 true (.br 11 true (.q 12 (.br 14 false .done .stop)) .stop) .stop)) (.br 13 true (.br 8 true (.br 11 true (.q 12 (.br 14 false .done .stop)) .stop) .stop) .stop)) (.br 13 true (.br 5 true (.br 8 true (.br 11 true (.q 12 (.br 14 false .done .stop)) .stop) .stop) .stop) .stop)) (.br 13 true (.br 2 true (.br 5 true (.br 8 true (.br 11 true (.q 12 (.br 14 false .done .stop)) .stop) .stop) .stop) .stop) .stop)))))))))) Try.mixed rfl (by kernel_rfl) ?_
    refine XT.q rfl rfl (Q.fieldAddr rfl) ?_
    refine XT.q rfl rfl (Q.ld rfl rfl) ?_
    refine XT.q rfl rfl (Q.fieldAddr rfl) ?_
    refine XT.q rfl rfl (Q.ld rfl rfl) ?_
    refine XT.q rfl rfl (Q.fieldAddr rfl) ?_
    refine XT.q rfl rfl (Q.ld rfl rfl) ?_
    refine XT.q rfl rfl (Q.fieldAddr rfl) ?_
    refine XT.q rfl rfl (Q.ld rfl rfl) ?_
    refine XT.call rfl rfl Try.call50 rfl rfl rfl (cloneRoom vr hr h.rooms (by omega)) (fun v16 s16 R16 => ?_) ?_
    · skip
      obtain ⟨k16, rfl, O16⟩ := R16
      dsimp only [lcA, lnA]
      refine ⟨inferInstance, ?_⟩
      refine XT.call rfl rfl Try.call51 rfl rfl rfl (cloneWall vw hw h.walls (by omega)) (fun v19 s19 R19 => ?_) ?_
      · skip
        obtain ⟨k19, rfl, O19⟩ := R19
        dsimp only [lcA, lnA]
        refine ⟨inferInstance, ?_⟩
        refine XT.call rfl rfl Try.call52 rfl rfl rfl (cloneBranch vb hb h.branches (by omega)) (fun v22 s22 R22 => ?_) ?_
        · skip
          obtain ⟨k22, rfl, O22⟩ := R22
          dsimp only [lcA, lnA]
          refine ⟨inferInstance, ?_⟩
          refine XT.call rfl rfl Try.call53 rfl rfl rfl (cloneCooler vc hc h.coolers (by omega)) (fun v25 s25 R25 => ?_) ?_
          · skip
            obtain ⟨k25, rfl, O25⟩ := R25
            dsimp only [lcA, lnA]
            refine ⟨inferInstance, ?_⟩
            refine XT.q rfl rfl (Q.build [_, _, _, _] (.c 0 1 rfl rfl rfl (.c 1 1 rfl rfl rfl (.c 2 1 rfl rfl rfl (.c 3 1 rfl rfl rfl (.n _)))))) ?_
            refine XT.alloc rfl rfl (fun b4 => ⟨inferInstance, ?_⟩) XT.stop
            refine XT.st rfl rfl rfl rfl rfl ⟨inferInstance, ?_⟩ XT.stop
            refine XT.done ?_
            exact mtr1 ((b4, v16, v19, v22, v25, k16, k19, k22, k25)) _ _ ⟨O16, O19, O22, O25⟩ (.c rfl (.base 14 rfl rfl)) inferInstance
          · skip
            refine XT.alloc rfl rfl (fun b4 => ⟨inferInstance, ?_⟩) XT.stop
            refine XT.call rfl rfl Try.call53 rfl rfl rfl (cloneCooler vc hc h.coolers (by omega)) (fun v25 s25 R25 => ?_) XT.stop
            obtain ⟨k25, rfl, O25⟩ := R25
            dsimp only [lcA, lnA]
            refine ⟨inferInstance, ?_⟩
            refine XT.q rfl rfl (Q.build [_, _, _, _] (.c 0 1 rfl rfl rfl (.c 1 1 rfl rfl rfl (.c 2 1 rfl rfl rfl (.c 3 1 rfl rfl rfl (.n _)))))) ?_
            refine XT.st rfl rfl rfl rfl rfl ⟨inferInstance, ?_⟩ XT.stop
            refine XT.done ?_
            exact mtr1 ((b4, v16, v19, v22, v25, k16, k19, k22, k25)) _ _ ⟨O16, O19, O22, O25⟩ (.c rfl (.base 14 rfl rfl)) inferInstance
        · skip
          refine XT.alloc rfl rfl (fun b4 => ⟨inferInstance, ?_⟩) XT.stop
          refine XT.call rfl rfl Try.call52 rfl rfl rfl (cloneBranch vb hb h.branches (by omega)) (fun v22 s22 R22 => ?_) XT.stop
          obtain ⟨k22, rfl, O22⟩ := R22
          dsimp only [lcA, lnA]
          refine ⟨inferInstance, ?_⟩
          refine XT.call rfl rfl Try.call53 rfl rfl rfl (cloneCooler vc hc h.coolers (by omega)) (fun v25 s25 R25 => ?_) XT.stop
          obtain ⟨k25, rfl, O25⟩ := R25
          dsimp only [lcA, lnA]
          refine ⟨inferInstance, ?_⟩
          refine XT.q rfl rfl (Q.build [_, _, _, _] (.c 0 1 rfl rfl rfl (.c 1 1 rfl rfl rfl (.c 2 1 rfl rfl rfl (.c 3 1 rfl rfl rfl (.n _)))))) ?_
          refine XT.st rfl rfl rfl rfl rfl ⟨inferInstance, ?_⟩ XT.stop
          refine XT.done ?_
          exact mtr1 ((b4, v16, v19, v22, v25, k16, k19, k22, k25)) _ _ ⟨O16, O19, O22, O25⟩ (.c rfl (.base 14 rfl rfl)) inferInstance
      · skip
        refine XT.alloc rfl rfl (fun b4 => ⟨inferInstance, ?_⟩) XT.stop
        refine XT.call rfl rfl Try.call51 rfl rfl rfl (cloneWall vw hw h.walls (by omega)) (fun v19 s19 R19 => ?_) XT.stop
        obtain ⟨k19, rfl, O19⟩ := R19
        dsimp only [lcA, lnA]
        refine ⟨inferInstance, ?_⟩
        refine XT.call rfl rfl Try.call52 rfl rfl rfl (cloneBranch vb hb h.branches (by omega)) (fun v22 s22 R22 => ?_) XT.stop
        obtain ⟨k22, rfl, O22⟩ := R22
        dsimp only [lcA, lnA]
        refine ⟨inferInstance, ?_⟩
        refine XT.call rfl rfl Try.call53 rfl rfl rfl (cloneCooler vc hc h.coolers (by omega)) (fun v25 s25 R25 => ?_) XT.stop
        obtain ⟨k25, rfl, O25⟩ := R25
        dsimp only [lcA, lnA]
        refine ⟨inferInstance, ?_⟩
        refine XT.q rfl rfl (Q.build [_, _, _, _] (.c 0 1 rfl rfl rfl (.c 1 1 rfl rfl rfl (.c 2 1 rfl rfl rfl (.c 3 1 rfl rfl rfl (.n _)))))) ?_
        refine XT.st rfl rfl rfl rfl rfl ⟨inferInstance, ?_⟩ XT.stop
        refine XT.done ?_
        exact mtr1 ((b4, v16, v19, v22, v25, k16, k19, k22, k25)) _ _ ⟨O16, O19, O22, O25⟩ (.c rfl (.base 14 rfl rfl)) inferInstance
    · skip
      refine XT.alloc rfl rfl (fun b4 => ⟨inferInstance, ?_⟩) XT.stop
      refine XT.call rfl rfl Try.call50 rfl rfl rfl (cloneRoom vr hr h.rooms (by omega)) (fun v16 s16 R16 => ?_) XT.stop
      obtain ⟨k16, rfl, O16⟩ := R16
      dsimp only [lcA, lnA]
      refine ⟨inferInstance, ?_⟩
      refine XT.call rfl rfl Try.call51 rfl rfl rfl (cloneWall vw hw h.walls (by omega)) (fun v19 s19 R19 => ?_) XT.stop
      obtain ⟨k19, rfl, O19⟩ := R19
      dsimp only [lcA, lnA]
      refine ⟨inferInstance, ?_⟩
      refine XT.call rfl rfl Try.call52 rfl rfl rfl (cloneBranch vb hb h.branches (by omega)) (fun v22 s22 R22 => ?_) XT.stop
      obtain ⟨k22, rfl, O22⟩ := R22
      dsimp only [lcA, lnA]
      refine ⟨inferInstance, ?_⟩
      refine XT.call rfl rfl Try.call53 rfl rfl rfl (cloneCooler vc hc h.coolers (by omega)) (fun v25 s25 R25 => ?_) XT.stop
      obtain ⟨k25, rfl, O25⟩ := R25
      dsimp only [lcA, lnA]
      refine ⟨inferInstance, ?_⟩
      refine XT.q rfl rfl (Q.build [_, _, _, _] (.c 0 1 rfl rfl rfl (.c 1 1 rfl rfl rfl (.c 2 1 rfl rfl rfl (.c 3 1 rfl rfl rfl (.n _)))))) ?_
      refine XT.st rfl rfl rfl rfl rfl ⟨inferInstance, ?_⟩ XT.stop
      refine XT.done ?_
      exact mtr1 ((b4, v16, v19, v22, v25, k16, k19, k22, k25)) _ _ ⟨O16, O19, O22, O25⟩ (.c rfl (.base 14 rfl rfl)) inferInstance
theorem kept07 (h : Hall) (vr vw vb vc : Value) (hr hw hb hc : PHeap) [ir : Arr vr encRoom 2 hr h.rooms] [iw : Arr vw encWall 3 hw h.walls] [ib : Arr vb encBranch 3 hb h.branches] [ic : Arr vc encCooler 5 hc h.coolers] (wr ww wb wc : Value) (gr gw gb gc : PHeap) [jr : Arr wr encRoom 2 gr h.rooms] [jw : Arr ww encWall 3 gw h.walls] [jb : Arr wb encBranch 3 gb h.branches] [jc : Arr wc encCooler 5 gc h.coolers] : Spec Try.prog 61 #[.agg #[vr, vw, vb, vc], .agg #[wr, ww, wb, wc]] [] [hr, hw, hb, hc, gr, gw, gb, gc] (fun v hs => v = .bool true ∧ hs = []) := by
  refine Spec.intro (fn := Try.f61) (N := 31) Try.func61 rfl Try.ntmps61 rfl fun B => ?_
  refine XK.seq (XK.region rfl ?_)
  refine XO.box rfl fun b2 => ?_
  refine XO.box rfl fun b3 => ?_
  refine XO.q (Q.assign rfl) (XO.done (XK.seq (XK.region rfl ?_)))
  refine XO.q (Q.fieldAddr rfl) ?_
  refine XO.q (Q.ld rfl rfl) ?_
  refine XO.q (Q.fieldAddr rfl) ?_
  refine XO.q (Q.ld rfl rfl) ?_
  refine XO.call Try.call92 rfl rfl rfl (equalRoom vr wr hr gr h.rooms) fun v9 s9 R9 => ?_
  obtain ⟨rfl, rfl⟩ := R9
  dsimp only [lcA, lnA]
  refine XO.q (Q.move rfl) ?_
  refine XO.q (Quiet.guardT rfl rfl fun g11 p11 => Q.fieldAddr rfl) ?_
  refine XO.q (Quiet.guardT rfl rfl fun g12 p12 => Q.ld (lzv g12 rfl) rfl) ?_
  refine XO.q (Quiet.guardT rfl rfl fun g13 p13 => Q.fieldAddr rfl) ?_
  refine XO.q (Quiet.guardT rfl rfl fun g14 p14 => Q.ld (lzv g14 rfl) rfl) ?_
  refine XO.gcallT rfl rfl Try.call93 rfl (fun g15 => .c (lzv g15 rfl) (.c (lzv g15 rfl) .n)) rfl (fun g15 p15 => equalWall vw ww hw gw h.walls) ?_
  refine XO.q (Q.and rfl (fun hp => lzv hp rfl)) ?_
  refine XO.q (Q.move rfl) ?_
  refine XO.q (Quiet.guardT rfl rfl fun g18 p18 => Q.fieldAddr rfl) ?_
  refine XO.q (Quiet.guardT rfl rfl fun g19 p19 => Q.ld (lzv g19 rfl) rfl) ?_
  refine XO.q (Quiet.guardT rfl rfl fun g20 p20 => Q.fieldAddr rfl) ?_
  refine XO.q (Quiet.guardT rfl rfl fun g21 p21 => Q.ld (lzv g21 rfl) rfl) ?_
  refine XO.gcallT rfl rfl Try.call94 rfl (fun g22 => .c (lzv g22 rfl) (.c (lzv g22 rfl) .n)) rfl (fun g22 p22 => equalBranch vb wb hb gb h.branches) ?_
  refine XO.q (Q.and rfl (fun hp => lzv hp rfl)) ?_
  refine XO.q (Q.move rfl) ?_
  refine XO.q (Quiet.guardT rfl rfl fun g25 p25 => Q.fieldAddr rfl) ?_
  refine XO.q (Quiet.guardT rfl rfl fun g26 p26 => Q.ld (lzv g26 rfl) rfl) ?_
  refine XO.q (Quiet.guardT rfl rfl fun g27 p27 => Q.fieldAddr rfl) ?_
  refine XO.q (Quiet.guardT rfl rfl fun g28 p28 => Q.ld (lzv g28 rfl) rfl) ?_
  refine XO.gcallT rfl rfl Try.call95 rfl (fun g29 => .c (lzv g29 rfl) (.c (lzv g29 rfl) .n)) rfl (fun g29 p29 => equalCooler vc wc hc gc h.coolers) ?_
  refine XO.q (Q.and rfl (fun hp => lzv hp rfl)) ?_
  refine XO.q (Q.assign rfl) (XO.done ?_)
  refine XK.rt [] Try.func61 Try.results61 (.t rfl .n) ?_
  exact ⟨by simp, rfl⟩
theorem caseOf07 (c : HCase) (vl : Value) (hl : PHeap) [il : Arr vl encI 1 hl c.load] (nl : c.load.length ≤ 1000000) : Spec Try.prog 29 #[.agg #[vl, .int .i64 c.out, .int .i64 c.pump]] [] [hl] (fun v hs => ∃ w1 w2 k1 k2, v = .tuple #[.agg #[w1, .int .i64 c.out, .int .i64 c.pump], .agg #[w2, .int .i64 c.out, .int .i64 c.pump]] ∧ hs = [k1, k2] ∧ OArr w1 encI 1 3 k1 c.load ∧ OArr w2 encI 1 3 k2 c.load) := by
  refine Spec.intro (fn := Try.f29) (N := 20) Try.func29 rfl Try.ntmps29 rfl fun B => ?_
  refine XK.seq (XK.region rfl ?_)
  refine XO.box rfl fun b1 => ?_
  refine XO.alloc fun b2 => ?_
  refine XO.alloc fun b3 => ?_
  refine XO.done (XK.seq ?_)
  refine XK.drawn [0, 1, 3, 4, 5, 6, 8, 9, 11, 12, 13, 14, 7, 15] [b1] [] (.q 0 (.q 1 (.q 3 (.q 4 (.q 5 (.q 6 (.q 8 (.q 9 (.q 11 (.q 12 (.q 13 (.q 14 (.br 2 true (.q 7 (.br 10 true (.q 15 (.br 16 true (.br 17 false .done .stop) .stop)) .stop)) .stop))))))))))))) Try.mixed rfl (by kernel_rfl) ?_
  refine XT.q rfl rfl (Q.fieldAddr rfl) ?_
  refine XT.q rfl rfl (Q.ld rfl rfl) ?_
  refine XT.q rfl rfl (Q.fieldAddr rfl) ?_
  refine XT.q rfl rfl (Q.ld rfl rfl) ?_
  refine XT.q rfl rfl (Q.fieldAddr rfl) ?_
  refine XT.q rfl rfl (Q.ld rfl rfl) ?_
  refine XT.q rfl rfl (Q.fieldAddr rfl) ?_
  refine XT.q rfl rfl (Q.ld rfl rfl) ?_
  refine XT.q rfl rfl (Q.fieldAddr rfl) ?_
  refine XT.q rfl rfl (Q.ld rfl rfl) ?_
  refine XT.q rfl rfl (Q.fieldAddr rfl) ?_
  refine XT.q rfl rfl (Q.ld rfl rfl) ?_
  refine XT.call rfl rfl Try.call23 rfl rfl rfl (cloneI vl hl c.load (by omega)) (fun v6 s6 R6 => ?_) XT.stop
  obtain ⟨k6, rfl, O6⟩ := R6
  dsimp only [lcA, lnA]
  refine ⟨inferInstance, ?_⟩
  refine XT.q rfl rfl (Q.build [_, _, _] (.c 0 1 rfl rfl rfl (.c 1 1 rfl rfl rfl (.c 2 1 rfl rfl rfl (.n _))))) ?_
  refine XT.call rfl rfl Try.call23 rfl rfl rfl (cloneI vl hl c.load (by omega)) (fun v14 s14 R14 => ?_) XT.stop
  obtain ⟨k14, rfl, O14⟩ := R14
  dsimp only [lcA, lnA]
  refine ⟨inferInstance, ?_⟩
  refine XT.q rfl rfl (Q.build [_, _, _] (.c 0 1 rfl rfl rfl (.c 1 1 rfl rfl rfl (.c 2 1 rfl rfl rfl (.n _))))) ?_
  refine XT.st rfl rfl rfl rfl rfl ⟨inferInstance, ?_⟩ XT.stop
  refine XT.st rfl rfl rfl rfl rfl ⟨inferInstance, ?_⟩ XT.stop
  refine XT.done ?_
  refine XK.rt [k6, k14] Try.func29 Try.results29 (.cell [_, _, _] rfl rfl rfl (.cell [_, _, _] rfl rfl rfl (.n))) ?_
  exact ⟨v6, v14, k6, k14, rfl, rfl, O6, O14⟩
theorem classOf07 (a d : HCase) (va vd : Value) (ha hd : PHeap) [ia : Arr va encI 1 ha a.load] [id : Arr vd encI 1 hd d.load] (na : a.load.length ≤ 1000000) (nd : d.load.length ≤ 1000000) : Spec Try.prog 62 #[.agg #[va, .int .i64 a.out, .int .i64 a.pump, vd, .int .i64 d.out, .int .i64 d.pump]] [] [ha, hd] (fun v hs => ∃ w1 w2 w3 w4 k1 k2 k3 k4, v = .tuple #[.agg #[w1, .int .i64 a.out, .int .i64 a.pump, w2, .int .i64 d.out, .int .i64 d.pump], .agg #[w3, .int .i64 a.out, .int .i64 a.pump, w4, .int .i64 d.out, .int .i64 d.pump]] ∧ hs = [k1, k2, k3, k4] ∧ OArr w1 encI 1 3 k1 a.load ∧ OArr w2 encI 1 3 k2 d.load ∧ OArr w3 encI 1 3 k3 a.load ∧ OArr w4 encI 1 3 k4 d.load) := by
  refine Spec.intro (fn := Try.f62) (N := 26) Try.func62 rfl Try.ntmps62 rfl fun B => ?_
  refine XK.seq (XK.region rfl ?_)
  refine XO.box rfl fun b1 => ?_
  refine XO.alloc fun b2 => ?_
  refine XO.alloc fun b3 => ?_
  refine XO.done (XK.seq (XK.region rfl ?_))
  refine XO.q (Q.fieldAddr rfl) ?_
  refine XO.q (Q.ldA [_, _, _] rfl rfl rfl) ?_
  refine XO.call Try.call29 rfl rfl rfl (caseOf07 a va ha (by omega)) fun v11 s11 R11 => ?_
  obtain ⟨x1, x2, k11, j11, rfl, rfl, O11, Q11⟩ := R11
  dsimp only [lcA, lnA]
  refine XO.q (Q.move rfl) ?_
  refine XO.q (Q.extract rfl rfl) ?_
  refine XO.q (Q.extract rfl rfl) ?_
  refine XO.alloc fun b4 => ?_
  refine XO.alloc fun b5 => ?_
  refine XO.st rfl rfl rfl ?_
  refine XO.st rfl rfl rfl ?_
  refine XO.done (XK.seq (XK.region rfl ?_))
  refine XO.q (Q.fieldAddr rfl) ?_
  refine XO.q (Q.ldA [_, _, _] rfl rfl rfl) ?_
  refine XO.call Try.call29 rfl rfl rfl (caseOf07 d vd hd (by omega)) fun v17 s17 R17 => ?_
  obtain ⟨y1, y2, k17, j17, rfl, rfl, O17, Q17⟩ := R17
  dsimp only [lcA, lnA]
  refine XO.q (Q.move rfl) ?_
  refine XO.q (Q.extract rfl rfl) ?_
  refine XO.q (Q.extract rfl rfl) ?_
  refine XO.alloc fun b6 => ?_
  refine XO.alloc fun b7 => ?_
  refine XO.st rfl rfl rfl ?_
  refine XO.st rfl rfl rfl ?_
  refine XO.done (XK.seq ?_)
  refine XK.drawn [0, 1, 2, 3, 4, 5] [b4, b6, b5, b7] [] (.q 0 (.q 1 (.q 2 (.q 3 (.q 4 (.q 5 (.br 6 true (.br 7 false .done .stop) .stop))))))) Try.mixed rfl (by kernel_rfl) ?_
  refine XT.q rfl rfl (Q.ldA [_, _, _] rfl rfl rfl) ?_
  refine XT.q rfl rfl (Q.ldA [_, _, _] rfl rfl rfl) ?_
  refine XT.q rfl rfl (Q.build [_, _, _, _, _, _] (.c 0 3 rfl rfl rfl (.c 3 3 rfl rfl rfl (.n _)))) ?_
  refine XT.q rfl rfl (Q.ldA [_, _, _] rfl rfl rfl) ?_
  refine XT.q rfl rfl (Q.ldA [_, _, _] rfl rfl rfl) ?_
  refine XT.q rfl rfl (Q.build [_, _, _, _, _, _] (.c 0 3 rfl rfl rfl (.c 3 3 rfl rfl rfl (.n _)))) ?_
  refine XT.st rfl rfl rfl rfl rfl ⟨inferInstance, ?_⟩ XT.stop
  refine XT.st rfl rfl rfl rfl rfl ⟨inferInstance, ?_⟩ XT.stop
  refine XT.done ?_
  refine XK.rt [k11, k17, j11, j17] Try.func62 Try.results62 (.cell [_, _, _, _, _, _] rfl rfl rfl (.cell [_, _, _, _, _, _] rfl rfl rfl (.n))) ?_
  exact ⟨x1, y1, x2, y2, k11, k17, j11, j17, rfl, rfl, O11, O17, Q11, Q17⟩
theorem large07 (h : Hall) (vr vw vb vc : Value) (hr hw hb hc : PHeap) [ir : Arr vr encRoom 2 hr h.rooms] [iw : Arr vw encWall 3 hw h.walls] [ib : Arr vb encBranch 3 hb h.branches] [ic : Arr vc encCooler 5 hc h.coolers] (n1 : h.rooms.length ≤ 20) (n2 : h.walls.length ≤ 20) (n3 : h.branches.length ≤ 20) (n4 : h.coolers.length ≤ 20) : Spec Try.prog 54 #[.agg #[vr, vw, vb, vc]] [] [hr, hw, hb, hc] (fun v hs => v = .bool false ∧ hs = []) := by
  refine Spec.intro (fn := Try.f54) (N := 17) Try.func54 rfl Try.ntmps54 rfl fun B => ?_
  refine XK.seq (XK.region rfl ?_)
  refine XO.box rfl fun b1 => ?_
  refine XO.q (Q.assign rfl) (XO.done (XK.seq (XK.region rfl ?_)))
  refine XO.q (Q.fieldAddr rfl) ?_
  refine XO.q (Q.ld rfl rfl) ?_
  refine XO.len rfl fun l5 => ?_
  refine XO.q (Q.fieldAddr rfl) ?_
  refine XO.q (Q.ld rfl rfl) ?_
  refine XO.len rfl fun l8 => ?_
  refine XO.q (Q.fieldAddr rfl) ?_
  refine XO.q (Q.ld rfl rfl) ?_
  refine XO.len rfl fun l11 => ?_
  refine XO.q (Q.fieldAddr rfl) ?_
  refine XO.q (Q.ld rfl rfl) ?_
  refine XO.len rfl fun l14 => ?_
  refine XO.q (Q.max4 rfl rfl rfl rfl) ?_
  refine XO.q (Q.gtr rfl rfl) ?_
  refine XO.q (Q.assign rfl) (XO.done ?_)
  refine XK.rt [] Try.func54 Try.results54 (.t rfl .n) ?_
  exact ⟨by rw [decide_eq_false (by omega)], rfl⟩
end Go.X

set_option linter.unusedSimpArgs false
set_option linter.unusedVariables false
set_option maxRecDepth 20000
namespace Go.X
open Go.Proofs
theorem Taken_spec (h : Hall) (vr vw vb vc : Value) (hr hw hb hc : PHeap) [ir : Arr vr encRoom 2 hr h.rooms] [iw : Arr vw encWall 3 hw h.walls] [ib : Arr vb encBranch 3 hb h.branches] [ic : Arr vc encCooler 5 hc h.coolers] (t : List Int) (vt : Value) (ht : PHeap) [it : Arr vt encI 1 ht t] (pump : Int) : Spec Try.prog 17 #[.agg #[vr, vw, vb, vc], vt, .int .i64 pump] [] [hr, hw, hb, hc, ht]
    (fun v hs => ∃ v1 k1, v = .tuple #[v1, .int .i64 (takenG h t pump).2] ∧ hs = [k1] ∧ OArr v1 encI 1 3 k1 (takenG h t pump).1) := by
  refine Spec.intro (fn := Try.f17) (N := 40) Try.func17 rfl Try.ntmps17 rfl fun B => ?_
  refine XK.seq (XK.region rfl ?_)
  refine XO.box rfl fun b3 => ?_
  refine XO.q (Q.assign rfl) (XO.q (Q.assign rfl) (XO.done (XK.seq (XK.seq (XK.region rfl ?_)))))
  refine XO.q (Q.ldA [_, _, _, _] rfl rfl rfl) ?_
  refine XO.call Try.call36 rfl rfl rfl (Check_spec h vr vw vb vc hr hw hb hc) fun v12 s12 R12 => ?_
  obtain ⟨rfl, rfl⟩ := R12
  dsimp only [lcA, lnA]
  refine XO.q (Q.assign rfl) (XO.done (XK.seq (XK.region rfl (XO.q (Q.move rfl) ?_))))
  refine XO.q (Q.neq rfl rfl) ?_
  refine XO.done ?_
  refine XK.if rfl (fun c0 => ?_) (fun c0 => ?_)
  · skip
    refine XK.seq (XK.region rfl (XO.q (Q.move rfl) (XO.q (Q.assign rfl) (XO.q (Q.assign rfl) (XO.done ?_)))))
    refine XK.rt [emp] Try.func17 Try.results17 (.t rfl (.t rfl .n)) ?_
    have hw0 : takenG h t pump = ([], hcheck h) := by rw [takenG, if_pos c0]
    rw [hw0]
    exact ⟨.slice none 0 0, emp, rfl, rfl, OArr.nil (fun _ => rfl)⟩
  · skip
    have ok := hcheck_ok (Decidable.of_not_not c0)
    have r2 := ok.r2
    refine XK.skip (XK.seq (XK.region rfl ?_))
    refine XO.q (Q.fieldAddr rfl) ?_
    refine XO.q (Q.ld rfl rfl) ?_
    refine XO.len rfl fun l18 => ?_
    refine XO.make encI (0) rfl rfl rfl (by omega) (by omega) (fun _ => rfl) rfl rfl rfl (by dsimp only [encI]; infer_instance) fun v19 h19 O19 => ?_
    refine XO.q (Q.move rfl) ?_
    refine XO.q (Q.build [_, _, _] (.c 0 1 rfl rfl rfl (.c 2 1 rfl rfl rfl (.n _)))) ?_
    refine XO.alloc fun b9 => ?_
    refine XO.st rfl rfl rfl ?_
    refine XO.done (XK.seq (XK.seq ?_))
    refine XK.drawn [0, 1, 3, 4, 8] [b3, b9] [] (.q 0 (.q 1 (.q 3 (.q 4 (.br 2 true (.br 5 true (.br 6 true (.br 7 true (.q 8 .done) .stop) .stop) .stop) .stop))))) Try.mixed rfl (by kernel_rfl) ?_
    refine XT.q rfl rfl (Q.ldA [_, _, _, _] rfl rfl rfl) ?_
    refine XT.q rfl rfl (Q.move rfl) ?_
    refine XT.q rfl rfl (Q.ldA [_, _, _, _] rfl rfl rfl) ?_
    refine XT.q rfl rfl (Q.ldA [_, _, _] rfl rfl rfl) ?_
    refine XT.call rfl rfl Try.call41 rfl rfl rfl (warm_spec h vr vw vb vc hr vt ht t) (fun v24 s24 R24 => ?_) XT.stop
    obtain ⟨rfl, rfl⟩ := R24
    dsimp only [lcA, lnA]
    refine ⟨inferInstance, ?_⟩
    refine XT.call rfl rfl Try.call42 rfl rfl rfl (cased_spec h vr vw vb vc hr v19 h19 (caseP h pump)) (fun v27 s27 R27 => ?_) XT.stop
    obtain ⟨rfl, rfl⟩ := R27
    dsimp only [lcA, lnA]
    refine ⟨inferInstance, ?_⟩
    refine XT.lit [_, _] [_, _] [warmP h t, casedP h (caseP h pump)] encI rfl rfl (by rfl) (by rfl) rfl (by rfl) (by exact .c 0 1 rfl rfl rfl (.c 1 1 rfl rfl rfl (.n _))) (fun _ => rfl) (by rfl) rfl (by infer_instance) rfl (fun v28 h28 O28 => ⟨inferInstance, ?_⟩) XT.stop
    refine XT.call rfl rfl Try.call40 rfl rfl rfl (both_spec v28 h28 [warmP h t, casedP h (caseP h pump)]) (fun v29 s29 R29 => ?_) XT.stop
    obtain ⟨rfl, rfl⟩ := R29
    dsimp only [lcA, lnA]
    refine ⟨inferInstance, ?_⟩
    refine XT.q rfl rfl (Q.assign rfl) ?_
    refine XT.done ?_
    refine XK.seq (XK.region rfl (XO.q (Q.move rfl) ?_))
    refine XO.q (Q.neq rfl rfl) ?_
    refine XO.done ?_
    refine XK.if rfl (fun c1 => ?_) (fun c1 => ?_)
    · skip
      refine XK.seq (XK.region rfl (XO.q (Q.move rfl) (XO.q (Q.assign rfl) (XO.q (Q.assign rfl) (XO.done ?_)))))
      refine XK.rt [emp] Try.func17 Try.results17 (.t rfl (.t rfl .n)) ?_
      have hw0 : takenG h t pump = ([], bothP [warmP h t, casedP h (caseP h pump)]) := by rw [takenG, if_neg c0, if_pos c1]
      rw [hw0]
      exact ⟨.slice none 0 0, emp, rfl, rfl, OArr.nil (fun _ => rfl)⟩
    · skip
      refine XK.skip (XK.seq (XK.region rfl ?_))
      refine XO.q (Q.ldA [_, _, _, _] rfl rfl rfl) ?_
      refine XO.q (Q.move rfl) ?_
      refine XO.q (Q.ldA [_, _, _] rfl rfl rfl) ?_
      refine XO.call Try.call44 rfl rfl rfl (at_spec h vr vw vb vc hb hc ok t vt ht (both_ok (Decidable.of_not_not c1)).1 (caseP h pump) (both_ok (Decidable.of_not_not c1)).2 v19) fun v36 s36 R36 => ?_
      obtain ⟨b36, vk, k1, rfl, rfl, O1⟩ := R36
      dsimp only [lcA, lnA]
      refine XO.q (Q.nilCheck rfl) ?_
      refine XO.q (Q.fieldAddr rfl) ?_
      refine XO.q (Q.ld rfl rfl) ?_
      refine XO.q (Q.assign rfl) (XO.q (Q.assign rfl) (XO.done ?_))
      refine XK.rt [k1] Try.func17 Try.results17 (.t rfl (.t rfl .n)) ?_
      have hw0 : takenG h t pump = (takenL h t pump, 0) := by rw [takenG, if_neg c0, if_neg c1]
      rw [hw0]
      exact ⟨_, k1, rfl, rfl, O1⟩
end Go.X

set_option linter.unusedSimpArgs false
set_option linter.unusedVariables false
set_option maxRecDepth 20000
namespace Go.X
open Go.Proofs
theorem equalSame (v1 v2 : Value) (h1 h2 : PHeap) (xs : List Int) [s1 : Arr v1 encI 1 h1 xs] [s2 : Arr v2 encI 1 h2 xs] : Spec Try.prog 39 #[v1, v2] [] [h1, h2] (fun v hs => v = .bool true ∧ hs = []) := by
  have e := equalI v1 v2 h1 h2 xs xs
  rwa [decide_eq_true rfl] at e
theorem sameRows (va vb : Value) (ha hb Ka Kb : PHeap) (us ws : List Value) [ia : Arr va encV 1 ha us] [ib : Arr vb encV 1 hb ws] (a : List (List Int)) (ra : Rows us Ka a) (rb : Rows ws Kb a) : Spec Try.prog 59 #[va, vb] [] [ha, hb, Ka, Kb] (fun v hs => v = .bool true ∧ hs = []) := by
  have e := sameLists va vb ha hb Ka Kb us ws a a ra rb
  rwa [decide_eq_true rfl] at e
def LoadsH (K : PHeap) (l : List (Value × HCase)) : Prop := ∀ i, i < l.length → Arr (l.getD i default).1 encI 1 K (l.getD i default).2.load
theorem LoadsH.snoc {K K' : PHeap} {l : List (Value × HCase)} {x : Value × HCase} (h : LoadsH K l) (hl : leH K K') (a : Arr x.1 encI 1 K' x.2.load) : LoadsH K' (l ++ [x]) := fun i hi => by
  rw [List.length_append] at hi
  rw [getD_snoc]
  by_cases hc : i < l.length
  · rw [if_pos hc]; exact Arr.le_heap (h i hc) hl
  · rw [if_neg hc, if_pos (by simp at hi; omega)]; exact a
theorem snd_at {m l : List (Value × HCase)} (e : m.map Prod.snd = l.map Prod.snd) (i : Nat) : (m.getD i default).2 = (l.getD i default).2 := by
  have a : (m.map Prod.snd).getD i default = (m.getD i default).2 := congrFun (map_snd_getD m) i
  have b : (l.map Prod.snd).getD i default = (l.getD i default).2 := congrFun (map_snd_getD l) i
  rw [← a, ← b, e]
theorem snd_snoc {m l : List (Value × HCase)} {i : Nat} (e : m.map Prod.snd = (l.map Prod.snd).take i) (hi : i < l.length) (v : Value) : (m ++ [(v, (l.getD i default).2)]).map Prod.snd = (l.map Prod.snd).take (i + 1) := by
  rw [List.map_append, e, List.take_add_one, List.getElem?_map, List.getElem?_eq_getElem hi, List.getD_eq_getElem?_getD, List.getElem?_eq_getElem hi]
  rfl
set_option maxHeartbeats 4000000 in
set_option synthInstance.maxSize 1000 in
set_option synthInstance.maxHeartbeats 400000 in
theorem HeatSteps_spec (h : Hall) (vr vw vb vc : Value) (hr hw hb hc : PHeap) [ir : Arr vr encRoom 2 hr h.rooms] [iw : Arr vw encWall 3 hw h.walls] [ib : Arr vb encBranch 3 hb h.branches] [ic : Arr vc encCooler 5 hc h.coolers] (t : List Int) (vt : Value) (ht : PHeap) [it : Arr vt encI 1 ht t] (l : List (Value × HCase)) (vl : Value) (hl hL : PHeap) [il : Arr vl encCV 3 hl l] (aL : LoadsH hL l) (pump : Int)
    (n1 : h.rooms.length ≤ 20) (n2 : h.walls.length ≤ 20) (n3 : h.branches.length ≤ 20) (n4 : h.coolers.length ≤ 20) (nt : t.length ≤ 1000000) (nl : l.length ≤ 60) (nL : ∀ i, i < l.length → (l.getD i default).2.load.length ≤ 1000000) :
    Spec Try.prog 27 #[.agg #[vr, vw, vb, vc], vt, vl, .int .i64 pump] [] [hr, hw, hb, hc, ht, hl, hL] (fun v hs => v = .bool true ∧ hs = []) := by
  have nA : OArr (.slice none 0 0) encCV 3 43 emp ([] : List (Value × HCase)) := OArr.nil (fun _ => rfl)
  have nB : OArr (.slice none 0 0) encCV 3 82 emp ([] : List (Value × HCase)) := OArr.nil (fun _ => rfl)
  refine Spec.intro (fn := Try.f27) (N := 193) Try.func27 rfl Try.ntmps27 rfl fun B => ?_
  refine XK.seq (XK.region rfl ?_)
  refine XO.box rfl fun b4 => ?_
  refine XO.q (Q.assign rfl) (XO.done (XK.seq (XK.seq (XK.region rfl ?_))))
  refine XO.q (Q.ldA [_, _, _, _] rfl rfl rfl) ?_
  refine XO.call Try.call54 rfl rfl rfl (large07 h vr vw vb vc hr hw hb hc n1 n2 n3 n4) fun v31 s31 R31 => ?_
  obtain ⟨rfl, rfl⟩ := R31
  dsimp only [lcA, lnA]
  refine XO.q (Q.move rfl) ?_
  refine XO.q (Quiet.guardF rfl rfl fun g33 p33 => Q.move rfl) ?_
  refine XO.q (Quiet.guardF rfl rfl fun g34 p34 => Q.len (lzv g34 rfl)) ?_
  refine XO.q (Quiet.guardF rfl rfl fun g35 p35 => Q.gtr (lzv g35 rfl) rfl) ?_
  refine XO.q (Q.or rfl (fun hp => lzv hp rfl)) ?_
  refine XO.done ?_
  refine XK.if rfl (fun c0 => ?_) (fun c0 => ?_)
  · skip
    refine XK.seq (XK.region rfl ?_)
    refine XO.call Try.call12 rfl rfl rfl (awake7) fun v37 s37 R37 => ?_
    obtain ⟨rfl, rfl⟩ := R37
    dsimp only [lcA, lnA]
    refine XO.q (Q.assign rfl) (XO.done ?_)
    refine XK.rt [] Try.func27 Try.results27 (.t rfl .n) ?_
    exact ⟨rfl, rfl⟩
  · skip
    refine XK.skip (XK.seq (XK.region rfl ?_))
    refine XO.q (Q.ldA [_, _, _, _] rfl rfl rfl) ?_
    refine XO.call Try.call26 rfl rfl rfl (copied07 h vr vw vb vc hr hw hb hc (by omega) (by omega) (by omega) (by omega)) fun v40 s40 R40 => ?_
    obtain ⟨a1, a2, a3, a4, b1, b2, b3, b4, k1, k2, k3, k4, j1, j2, j3, j4, rfl, rfl, ⟨A1, A2, A3, A4⟩, B1, B2, B3, B4⟩ := R40
    dsimp only [lcA, lnA]
    refine XO.q (Q.move rfl) ?_
    refine XO.q (Q.extract rfl rfl) ?_
    refine XO.q (Q.extract rfl rfl) ?_
    refine XO.alloc fun b9 => ?_
    refine XO.alloc fun b10 => ?_
    refine XO.st rfl rfl rfl ?_
    refine XO.st rfl rfl rfl ?_
    refine XO.done (XK.seq (XK.region rfl (XO.q (Q.move rfl) ?_)))
    refine XO.call Try.call23 rfl rfl rfl (cloneI vt ht t (by omega)) fun v44 s44 R44 => ?_
    obtain ⟨k44, rfl, O44⟩ := R44
    dsimp only [lcA, lnA]
    refine XO.q (Q.assign rfl) (XO.done (XK.seq (XK.region rfl (XO.q (Q.assign rfl) (XO.done ?_)))))
    refine XK.seq (XK.region rfl (XO.q (Q.assign rfl) (XO.done (XK.seq (XK.seq ?_)))))
    refine XK.region rfl (XO.q (Q.move rfl) ?_)
    refine XO.len rfl fun l46 => ?_
    refine XO.q (Q.move rfl) (XO.done (XK.block ?_))
    refine XK.while (X := Nat × List (Value × HCase) × List (Value × HCase) × Value × Value × PHeap × PHeap × PHeap × PHeap) [12, 13, 15, 16, 17, 47, 48, 49, 50, 51, 52, 53, 54, 55, 56, 57, 58, 59, 60, 61, 62, 63, 64] (fun ⟨i, m, n, vm, vn, km, kn, K, J⟩ => [(47, some (.int .i64 (i : Nat))), (12, some (vm)), (13, some (vn))]) (fun ⟨i, m, n, vm, vn, km, kn, K, J⟩ => [km, kn, K, J]) (fun ⟨i, m, n, vm, vn, km, kn, K, J⟩ => i ≤ l.length ∧ (m.map Prod.snd = (l.map Prod.snd).take i ∧ n.map Prod.snd = (l.map Prod.snd).take i) ∧ (m.length = i ∧ n.length = i) ∧ OArr vm encCV 3 43 km m ∧ OArr vn encCV 3 82 kn n ∧ LoadsH K m ∧ LoadsH J n) (fun ⟨i, m, n, vm, vn, km, kn, K, J⟩ => l.length - i) (0, [], [], .slice none 0 0, .slice none 0 0, emp, emp, emp, emp) [emp, emp, emp, emp] rfl ⟨by first | omega | (dsimp only; omega), ⟨rfl, rfl⟩, ⟨rfl, rfl⟩, nA, nB, fun i hi => absurd hi (Nat.not_lt_zero i), fun i hi => absurd hi (Nat.not_lt_zero i)⟩ (.c rfl (.c rfl (.c rfl (.base 0 rfl rfl)))) ?_
    rintro ⟨i, m, n, vm, vn, km, kn, K, J⟩ ⟨hi, ⟨em, en⟩, ⟨lm, ln⟩, OM_, ON_, aK, aJ⟩ ih0
    dsimp only [lcA, lnA] at ih0 ⊢
    refine XK.seq (XK.region rfl ?_)
    refine XO.q (Q.lss rfl rfl) ?_
    refine XO.done (XK.seq ?_)
    refine XK.if rfl (fun c1 => ?_) (fun c1 => ?_)
    · skip
      have ai := aL i (by omega)
      refine XK.skip (XK.seq (XK.block (XK.seq (XK.region rfl ?_))))
      refine XO.ix rfl rfl (by omega) (by omega) fun i49 => ?_
      refine XO.q (Q.ldEA [_, _, _] rfl (by first | assumption | omega) rfl rfl) ?_
      refine XO.alloc fun b15 => ?_
      refine XO.st rfl rfl rfl ?_
      refine XO.done (XK.seq (XK.region rfl ?_))
      refine XO.q (Q.ldA [_, _, _] rfl rfl rfl) ?_
      refine XO.call Try.call29 rfl rfl rfl (caseOf07 (l.getD i default).2 (l.getD i default).1 hL (nL i (by omega))) fun v53 s53 R53 => ?_
      obtain ⟨w1, w2, q1, q2, rfl, rfl, Q1, Q2⟩ := R53
      dsimp only [lcA, lnA]
      refine XO.q (Q.move rfl) ?_
      refine XO.q (Q.extract rfl rfl) ?_
      refine XO.q (Q.extract rfl rfl) ?_
      refine XO.alloc fun b16 => ?_
      refine XO.alloc fun b17 => ?_
      refine XO.st rfl rfl rfl ?_
      refine XO.st rfl rfl rfl ?_
      refine XO.done ?_
      refine XK.meet (X := Value × Value × PHeap × PHeap) [12, 13, 56, 57, 58, 59, 60, 61, 62, 63] (fun ⟨vm2, vn2, km2, kn2⟩ => [(12, some (vm2)), (13, some (vn2))]) (fun ⟨vm2, vn2, km2, kn2⟩ => [km2, kn2]) (fun ⟨vm2, vn2, km2, kn2⟩ => OArr vm2 encCV 3 43 km2 (m ++ [(w1, (l.getD i default).2)]) ∧ OArr vn2 encCV 3 82 kn2 (n ++ [(w2, (l.getD i default).2)])) [km, kn] ?_ ?_
      · rintro ⟨vm2, vn2, km2, kn2⟩ ⟨OM2, ON2⟩
        dsimp only [lcA, lnA]
        refine XK.inBlock ?_
        refine XK.region rfl ?_
        refine XO.cat K q1 fun leK le1 => ?_
        have Aq1 : Arr w1 encI 1 (cat K q1) (l.getD i default).2.load := Arr.le_heap (OArr.arr (s := Q1)) le1
        refine XO.cat J q2 fun leJ le2 => ?_
        have Aq2 : Arr w2 encI 1 (cat J q2) (l.getD i default).2.load := Arr.le_heap (OArr.arr (s := Q2)) le2
        clear Q1 Q2
        refine XO.q (Q.add rfl rfl ⟨by omega, by omega⟩) ?_
        refine XO.q (Q.move rfl) (XO.done ?_)
        exact ih0 (i + 1, m ++ [(w1, (l.getD i default).2)], n ++ [(w2, (l.getD i default).2)], vm2, vn2, km2, kn2, cat K q1, cat J q2) _ _ ⟨by first | omega | (dsimp only; omega), ⟨snd_snoc em (by omega) _, snd_snoc en (by omega) _⟩, ⟨by dsimp only; rw [List.length_append, lm]; rfl, by dsimp only; rw [List.length_append, ln]; rfl⟩, OM2, ON2, aK.snoc leK Aq1, aJ.snoc leJ Aq2⟩ (by first | omega | (dsimp only; omega)) (.c rfl (.c rfl (.c rfl (.base 51 rfl rfl)))) inferInstance
      · intro mtr11
        dsimp only [lcA, lnA] at mtr11
        refine XK.drawn [0, 1, 4, 5, 8, 9] [b16, b17] [] (.q 0 (.q 1 (.q 4 (.q 5 (.br 2 true (.br 3 true (.br 6 true (.br 7 true (.q 8 (.q 9 .done)) .stop) .stop) (.br 6 true (.br 3 true (.br 7 true (.q 8 (.q 9 .done)) .stop) .stop) .stop)) (.br 6 true (.br 2 true (.br 3 true (.br 7 true (.q 8 (.q 9 .done)) .stop) .stop) .stop) .stop)))))) Try.mixed rfl (by kernel_rfl) ?_
        refine XT.q rfl rfl (Q.move rfl) ?_
        refine XT.q rfl rfl (Q.ldA [_, _, _] rfl rfl rfl) ?_
        refine XT.q rfl rfl (Q.move rfl) ?_
        refine XT.q rfl rfl (Q.ldA [_, _, _] rfl rfl rfl) ?_
        refine XT.lit [_, _, _] [_, _, _] [(w1, (l.getD i default).2)] encCV rfl rfl (by rfl) (by rfl) rfl (by rfl) (by exact .c 0 3 rfl rfl rfl (.n _)) (fun _ => rfl) (by rfl) rfl (by infer_instance) rfl (fun v58 h58 O58 => ⟨inferInstance, ?_⟩) ?_
        · skip
          refine XT.append rfl rfl rfl rfl rfl rfl (by simp only [List.length_cons, List.length_nil]; omega) (fun v59 h59 O59 => ⟨inferInstance, ?_⟩) ?_
          · skip
            refine XT.lit [_, _, _] [_, _, _] [(w2, (l.getD i default).2)] encCV rfl rfl (by rfl) (by rfl) rfl (by rfl) (by exact .c 0 3 rfl rfl rfl (.n _)) (fun _ => rfl) (by rfl) rfl (by infer_instance) rfl (fun v62 h62 O62 => ⟨inferInstance, ?_⟩) XT.stop
            refine XT.append rfl rfl rfl rfl rfl rfl (by simp only [List.length_cons, List.length_nil]; omega) (fun v63 h63 O63 => ⟨inferInstance, ?_⟩) XT.stop
            refine XT.q rfl rfl (Q.assign rfl) ?_
            refine XT.q rfl rfl (Q.assign rfl) ?_
            refine XT.done ?_
            exact mtr11 ((v59, v63, h59, h63)) _ _ ⟨O59, O63⟩ (.c rfl (.c rfl (.base 10 rfl rfl))) inferInstance
          · skip
            refine XT.lit [_, _, _] [_, _, _] [(w2, (l.getD i default).2)] encCV rfl rfl (by rfl) (by rfl) rfl (by rfl) (by exact .c 0 3 rfl rfl rfl (.n _)) (fun _ => rfl) (by rfl) rfl (by infer_instance) rfl (fun v62 h62 O62 => ⟨inferInstance, ?_⟩) XT.stop
            refine XT.append rfl rfl rfl rfl rfl rfl (by simp only [List.length_cons, List.length_nil]; omega) (fun v59 h59 O59 => ⟨inferInstance, ?_⟩) XT.stop
            refine XT.append rfl rfl rfl rfl rfl rfl (by simp only [List.length_cons, List.length_nil]; omega) (fun v63 h63 O63 => ⟨inferInstance, ?_⟩) XT.stop
            refine XT.q rfl rfl (Q.assign rfl) ?_
            refine XT.q rfl rfl (Q.assign rfl) ?_
            refine XT.done ?_
            exact mtr11 ((v59, v63, h59, h63)) _ _ ⟨O59, O63⟩ (.c rfl (.c rfl (.base 10 rfl rfl))) inferInstance
        · skip
          refine XT.lit [_, _, _] [_, _, _] [(w2, (l.getD i default).2)] encCV rfl rfl (by rfl) (by rfl) rfl (by rfl) (by exact .c 0 3 rfl rfl rfl (.n _)) (fun _ => rfl) (by rfl) rfl (by infer_instance) rfl (fun v62 h62 O62 => ⟨inferInstance, ?_⟩) XT.stop
          refine XT.lit [_, _, _] [_, _, _] [(w1, (l.getD i default).2)] encCV rfl rfl (by rfl) (by rfl) rfl (by rfl) (by exact .c 0 3 rfl rfl rfl (.n _)) (fun _ => rfl) (by rfl) rfl (by infer_instance) rfl (fun v58 h58 O58 => ⟨inferInstance, ?_⟩) XT.stop
          refine XT.append rfl rfl rfl rfl rfl rfl (by simp only [List.length_cons, List.length_nil]; omega) (fun v59 h59 O59 => ⟨inferInstance, ?_⟩) XT.stop
          refine XT.append rfl rfl rfl rfl rfl rfl (by simp only [List.length_cons, List.length_nil]; omega) (fun v63 h63 O63 => ⟨inferInstance, ?_⟩) XT.stop
          refine XT.q rfl rfl (Q.assign rfl) ?_
          refine XT.q rfl rfl (Q.assign rfl) ?_
          refine XT.done ?_
          exact mtr11 ((v59, v63, h59, h63)) _ _ ⟨O59, O63⟩ (.c rfl (.c rfl (.base 10 rfl rfl))) inferInstance
    · skip
      have hil : i = l.length := by omega
      rw [hil, List.take_of_length_le (by rw [List.length_map]; exact Nat.le_refl _)] at em en
      refine XK.exit rfl ?_
      refine XK.seq (XK.seq ?_)
      refine XK.drawn [0, 2, 4] [b9, b10] [] (.q 0 (.q 2 (.br 1 true (.br 3 true (.q 4 .done) .stop) .stop))) Try.mixed rfl (by kernel_rfl) ?_
      refine XT.q rfl rfl (Q.ldA [_, _, _, _] rfl rfl rfl) ?_
      refine XT.q rfl rfl (Q.ldA [_, _, _, _] rfl rfl rfl) ?_
      refine XT.call rfl rfl Try.call36 rfl rfl rfl (Check_spec h a1 a2 a3 a4 k1 k2 k3 k4) (fun v66 s66 R66 => ?_) XT.stop
      obtain ⟨rfl, rfl⟩ := R66
      dsimp only [lcA, lnA]
      refine ⟨inferInstance, ?_⟩
      refine XT.call rfl rfl Try.call55 rfl rfl rfl (rCheck_spec h b1 b2 b3 b4 j1 j2 j3 j4) (fun v68 s68 R68 => ?_) XT.stop
      obtain ⟨rfl, rfl⟩ := R68
      dsimp only [lcA, lnA]
      refine ⟨inferInstance, ?_⟩
      refine XT.q rfl rfl (Q.neq rfl rfl) ?_
      refine XT.done ?_
      refine XK.if rfl (fun c2 => ?_) (fun c2 => ?_)
      · skip
        exact absurd rfl c2
      · skip
        refine XK.skip (XK.seq (XK.region rfl ?_))
        refine XO.q (Q.ldA [_, _, _, _] rfl rfl rfl) ?_
        refine XO.q (Q.move rfl) ?_
        refine XO.call Try.call10 rfl rfl rfl (Flows_spec h a1 a2 a3 a4 k1 k2 k3 k4 pump) fun v73 s73 R73 => ?_
        obtain ⟨x73, y73, rfl, rfl, X73⟩ := R73
        dsimp only [lcA, lnA]
        refine XO.q (Q.move rfl) ?_
        refine XO.q (Q.extract rfl rfl) ?_
        refine XO.q (Q.extract rfl rfl) ?_
        refine XO.q (Q.assign rfl) (XO.q (Q.assign rfl) (XO.done (XK.seq (XK.region rfl ?_))))
        refine XO.q (Q.ldA [_, _, _, _] rfl rfl rfl) ?_
        refine XO.q (Q.move rfl) ?_
        refine XO.call Try.call56 rfl rfl rfl (rFlows_spec h b1 b2 b3 b4 j1 j2 j3 j4 pump) fun v79 s79 R79 => ?_
        obtain ⟨x79, y79, rfl, rfl, X79⟩ := R79
        dsimp only [lcA, lnA]
        refine XO.q (Q.move rfl) ?_
        refine XO.q (Q.extract rfl rfl) ?_
        refine XO.q (Q.extract rfl rfl) ?_
        refine XO.q (Q.assign rfl) (XO.q (Q.assign rfl) (XO.done (XK.seq (XK.seq (XK.region rfl ?_)))))
        refine XO.q (Q.move rfl) (XO.q (Q.move rfl) ?_)
        refine XO.call Try.call39 rfl rfl rfl (equalSame x73 x79 y73 y79 _) fun v84 s84 R84 => ?_
        obtain ⟨rfl, rfl⟩ := R84
        dsimp only [lcA, lnA]
        refine XO.q (Q.not rfl) ?_
        refine XO.q (Q.move rfl) ?_
        refine XO.q (Quiet.guardF rfl rfl fun g87 p87 => Q.move rfl) ?_
        refine XO.q (Quiet.guardF rfl rfl fun g88 p88 => Q.move rfl) ?_
        refine XO.q (Quiet.guardF rfl rfl fun g89 p89 => Q.neq (lzv g89 rfl) (lzv g89 rfl)) ?_
        refine XO.q (Q.or rfl (fun hp => lzv hp rfl)) ?_
        refine XO.done ?_
        refine XK.if rfl (fun c3 => ?_) (fun c3 => ?_)
        · skip
          simp at c3
        · skip
          refine XK.skip (XK.seq (XK.region rfl ?_))
          refine XO.q (Q.ldA [_, _, _, _] rfl rfl rfl) ?_
          refine XO.q (Q.move rfl) (XO.q (Q.move rfl) ?_)
          refine XO.call Try.call17 rfl rfl rfl (Taken_spec h a1 a2 a3 a4 k1 k2 k3 k4 t v44 k44 pump) fun v95 s95 R95 => ?_
          obtain ⟨x95, y95, rfl, rfl, X95⟩ := R95
          dsimp only [lcA, lnA]
          refine XO.q (Q.move rfl) ?_
          refine XO.q (Q.extract rfl rfl) ?_
          refine XO.q (Q.extract rfl rfl) ?_
          refine XO.q (Q.assign rfl) (XO.q (Q.assign rfl) (XO.done (XK.seq (XK.region rfl ?_))))
          refine XO.q (Q.ldA [_, _, _, _] rfl rfl rfl) ?_
          refine XO.q (Q.move rfl) (XO.q (Q.move rfl) ?_)
          refine XO.call Try.call57 rfl rfl rfl (rTaken_spec h b1 b2 b3 b4 j1 j2 j3 j4 t vt ht pump) fun v102 s102 R102 => ?_
          obtain ⟨x102, y102, rfl, rfl, X102⟩ := R102
          dsimp only [lcA, lnA]
          refine XO.q (Q.move rfl) ?_
          refine XO.q (Q.extract rfl rfl) ?_
          refine XO.q (Q.extract rfl rfl) ?_
          refine XO.q (Q.assign rfl) (XO.q (Q.assign rfl) (XO.done (XK.seq (XK.seq (XK.region rfl ?_)))))
          refine XO.q (Q.move rfl) (XO.q (Q.move rfl) ?_)
          refine XO.call Try.call39 rfl rfl rfl (equalSame x95 x102 y95 y102 _) fun v107 s107 R107 => ?_
          obtain ⟨rfl, rfl⟩ := R107
          dsimp only [lcA, lnA]
          refine XO.q (Q.not rfl) ?_
          refine XO.q (Q.move rfl) ?_
          refine XO.q (Quiet.guardF rfl rfl fun g110 p110 => Q.move rfl) ?_
          refine XO.q (Quiet.guardF rfl rfl fun g111 p111 => Q.move rfl) ?_
          refine XO.q (Quiet.guardF rfl rfl fun g112 p112 => Q.neq (lzv g112 rfl) (lzv g112 rfl)) ?_
          refine XO.q (Q.or rfl (fun hp => lzv hp rfl)) ?_
          refine XO.done ?_
          refine XK.if rfl (fun c4 => ?_) (fun c4 => ?_)
          · skip
            simp at c4
          · skip
            refine XK.skip (XK.seq (XK.region rfl ?_))
            refine XO.q (Q.ldA [_, _, _, _] rfl rfl rfl) ?_
            refine XO.q (Q.move rfl) (XO.q (Q.move rfl) ?_)
            refine XO.call Try.call30 rfl rfl rfl (Run_spec h a1 a2 a3 a4 k1 k2 k3 k4 t v44 k44 m vm km K aK) fun v118 s118 R118 => ?_
            obtain ⟨x118, y118, K1, us1, rfl, rfl, O118, R1⟩ := R118
            dsimp only [lcA, lnA]
            rw [em] at R1 ⊢
            refine XO.q (Q.move rfl) ?_
            refine XO.q (Q.extract rfl rfl) ?_
            refine XO.q (Q.extract rfl rfl) ?_
            refine XO.q (Q.assign rfl) (XO.q (Q.assign rfl) (XO.done (XK.seq (XK.region rfl ?_))))
            refine XO.q (Q.ldA [_, _, _, _] rfl rfl rfl) ?_
            refine XO.q (Q.move rfl) (XO.q (Q.move rfl) ?_)
            refine XO.call Try.call58 rfl rfl rfl (rRun_spec h b1 b2 b3 b4 j1 j2 j3 j4 t vt ht n vn kn J aJ) fun v125 s125 R125 => ?_
            obtain ⟨x125, y125, K2, us2, rfl, rfl, O125, R2⟩ := R125
            dsimp only [lcA, lnA]
            rw [en] at R2 ⊢
            refine XO.q (Q.move rfl) ?_
            refine XO.q (Q.extract rfl rfl) ?_
            refine XO.q (Q.extract rfl rfl) ?_
            refine XO.q (Q.assign rfl) (XO.q (Q.assign rfl) (XO.done (XK.seq (XK.seq (XK.region rfl ?_)))))
            refine XO.q (Q.move rfl) (XO.q (Q.move rfl) ?_)
            refine XO.call Try.call59 rfl rfl rfl (sameRows x118 x125 y118 y125 K1 K2 us1 us2 _ R1 R2) fun v130 s130 R130 => ?_
            obtain ⟨rfl, rfl⟩ := R130
            dsimp only [lcA, lnA]
            refine XO.q (Q.not rfl) ?_
            refine XO.q (Q.move rfl) ?_
            refine XO.q (Quiet.guardF rfl rfl fun g133 p133 => Q.move rfl) ?_
            refine XO.q (Quiet.guardF rfl rfl fun g134 p134 => Q.move rfl) ?_
            refine XO.q (Quiet.guardF rfl rfl fun g135 p135 => Q.neq (lzv g135 rfl) (lzv g135 rfl)) ?_
            refine XO.q (Q.or rfl (fun hp => lzv hp rfl)) ?_
            refine XO.done ?_
            refine XK.if rfl (fun c5 => ?_) (fun c5 => ?_)
            · skip
              simp at c5
            · skip
              refine XK.skip (XK.seq (XK.seq (XK.region rfl (XO.q (Q.move rfl) ?_))))
              refine XO.len rfl fun l138 => ?_
              refine XO.q (Q.move rfl) (XO.done (XK.block ?_))
              refine XK.while (X := Nat) [8, 24, 25, 26, 27, 28, 29, 139, 140, 141, 142, 143, 144, 145, 146, 147, 148, 149, 150, 151, 152, 153, 154, 155, 156, 157, 158, 159, 160, 161, 162, 163, 164, 165, 166, 167, 168, 169, 170, 171, 172, 173, 174, 175, 176, 177, 178, 179, 180, 181] (fun i => [(139, some (.int .i64 (i : Nat)))]) (fun i => []) (fun i => i ≤ m.length) (fun i => m.length - i) (0) [] rfl (by omega) (.c rfl (.base 0 rfl rfl)) ?_
              rintro i hi ih1
              dsimp only [lcA, lnA] at ih1 ⊢
              refine XK.seq (XK.region rfl ?_)
              refine XO.q (Q.lss rfl rfl) ?_
              refine XO.done (XK.seq ?_)
              refine XK.if rfl (fun c6 => ?_) (fun c6 => ?_)
              · skip
                have ai := aL i (by omega)
                have aKi := aK i (by omega)
                have aJi := aJ i (by omega)
                have emi := snd_at em i
                have eni := snd_at en i
                have enm : (n.getD i default).2 = (m.getD i default).2 := eni.trans emi.symm
                refine XK.skip (XK.seq (XK.block (XK.seq (XK.region rfl (XO.q (Q.move rfl) ?_)))))
                refine XO.ix rfl rfl (by omega) (by omega) fun i142 => ?_
                refine XO.q (Q.ldEA [_, _, _] rfl (by first | assumption | omega) rfl rfl) ?_
                refine XO.alloc fun b25 => ?_
                refine XO.q (Q.assign rfl) ?_
                refine XO.st rfl rfl rfl ?_
                refine XO.done (XK.seq (XK.region rfl ?_))
                refine XO.q (Q.ldA [_, _, _, _] rfl rfl rfl) ?_
                refine XO.q (Q.move rfl) ?_
                refine XO.q (Q.ldA [_, _, _] rfl rfl rfl) ?_
                refine XO.call Try.call16 rfl rfl rfl (Next_spec h a1 a2 a3 a4 k1 k2 k3 k4 t v44 k44 (m.getD i default).2 (m.getD i default).1 K) fun v148 s148 R148 => ?_
                obtain ⟨x148, y148, rfl, rfl, X148⟩ := R148
                dsimp only [lcA, lnA]
                refine XO.q (Q.move rfl) ?_
                refine XO.q (Q.extract rfl rfl) ?_
                refine XO.q (Q.extract rfl rfl) ?_
                refine XO.q (Q.assign rfl) (XO.q (Q.assign rfl) (XO.done (XK.seq ?_)))
                refine XK.drawn [0, 1, 2, 3, 4, 5, 7, 8, 9, 10, 11] [b10] [kn] (.q 0 (.q 1 (.q 2 (.q 3 (.q 4 (.q 5 (.br 6 true (.q 7 (.q 8 (.q 9 (.q 10 (.q 11 .done))))) .stop))))))) Try.mixed rfl (by kernel_rfl) ?_
                refine XT.q rfl rfl (Q.ldA [_, _, _, _] rfl rfl rfl) ?_
                refine XT.q rfl rfl (Q.move rfl) ?_
                refine XT.q rfl rfl (Q.move rfl) ?_
                refine XT.q rfl rfl (Q.move rfl) ?_
                refine XT.ix rfl rfl rfl rfl (by omega) (by omega) fun i156 => ?_
                refine XT.q rfl rfl (Q.ldEA [_, _, _] rfl (by first | assumption | omega) rfl rfl) ?_
                refine XT.call rfl rfl Try.call60 rfl rfl rfl (rNext_spec h b1 b2 b3 b4 j1 j2 j3 j4 t vt ht (n.getD i default).2 (n.getD i default).1 J) (fun v158 s158 R158 => ?_) XT.stop
                obtain ⟨x158, y158, rfl, rfl, X158⟩ := R158
                dsimp only [lcA, lnA]
                refine ⟨inferInstance, ?_⟩
                rw [enm] at X158 ⊢
                refine XT.q rfl rfl (Q.move rfl) ?_
                refine XT.q rfl rfl (Q.extract rfl rfl) ?_
                refine XT.q rfl rfl (Q.extract rfl rfl) ?_
                refine XT.q rfl rfl (Q.assign rfl) ?_
                refine XT.q rfl rfl (Q.assign rfl) ?_
                refine XT.done ?_
                refine XK.seq ?_
                refine XK.drawn [0, 1, 3, 4, 5, 6, 7, 8, 9, 10, 11, 12, 13, 14, 15, 16, 18, 19] [b25] [] (.q 0 (.q 1 (.br 2 true (.q 3 (.q 4 (.q 5 (.q 6 (.q 7 (.q 8 (.q 9 (.q 10 (.q 11 (.q 12 (.q 13 (.q 14 (.q 15 (.q 16 (.br 17 true (.q 18 (.q 19 .done)) .stop))))))))))))))) .stop))) Try.mixed rfl (by kernel_rfl) ?_
                refine XT.q rfl rfl (Q.move rfl) ?_
                refine XT.q rfl rfl (Q.move rfl) ?_
                refine XT.call rfl rfl Try.call39 rfl rfl rfl (equalSame x148 x158 y148 y158 _) (fun v163 s163 R163 => ?_) XT.stop
                obtain ⟨rfl, rfl⟩ := R163
                dsimp only [lcA, lnA]
                refine ⟨inferInstance, ?_⟩
                refine XT.q rfl rfl (Q.not rfl) ?_
                refine XT.q rfl rfl (Q.move rfl) ?_
                refine XT.q rfl rfl (Quiet.guardF rfl rfl fun g166 p166 => Q.move rfl) ?_
                refine XT.q rfl rfl (Quiet.guardF rfl rfl fun g167 p167 => Q.move rfl) ?_
                refine XT.q rfl rfl (Quiet.guardF rfl rfl fun g168 p168 => Q.neq (lzv g168 rfl) (lzv g168 rfl)) ?_
                refine XT.q rfl rfl (Q.or rfl (fun hp => lzv hp rfl)) ?_
                refine XT.q rfl rfl (Q.move rfl) ?_
                refine XT.q rfl rfl (Quiet.guardF rfl rfl fun g171 p171 => Q.fieldAddr rfl) ?_
                refine XT.q rfl rfl (Quiet.guardF rfl rfl fun g172 p172 => Q.ld (lzv g172 rfl) rfl) ?_
                refine XT.q rfl rfl (Quiet.guardF rfl rfl fun g173 p173 => Q.move rfl) ?_
                refine XT.q rfl rfl (Quiet.guardF rfl rfl fun g174 p174 => Q.move rfl) ?_
                refine XT.q rfl rfl (Quiet.guardF rfl rfl fun g175 p175 => Q.ix (lzv g175 rfl) (lzv g175 rfl) (by omega) (by omega)) ?_
                refine XT.q rfl rfl (Quiet.guardF rfl rfl fun g176 p176 => Q.fieldQ (lzv g176 rfl) (by first | assumption | omega)) ?_
                refine XT.q rfl rfl (Quiet.guardF rfl rfl fun g177 p177 => Q.ldE (lzv g177 rfl) (by first | assumption | omega) rfl) ?_
                refine XT.gcallF rfl rfl rfl rfl Try.call39 rfl (fun g178 => .c (lzv g178 rfl) (.c (lzv g178 rfl) .n)) rfl (fun g178 p178 => equalSame (s1 := by rw [← emi]; exact aKi) (m.getD i default).1 (l.getD i default).1 K hL (l.getD i default).2.load) ⟨inferInstance, ?_⟩ XT.stop
                refine XT.q rfl rfl (Quiet.guardF rfl rfl fun g179 p179 => Q.not (lzv g179 rfl)) ?_
                refine XT.q rfl rfl (Q.or rfl (fun hp => lzv hp rfl)) ?_
                refine XT.done ?_
                refine XK.if rfl (fun c7 => ?_) (fun c7 => ?_)
                · skip
                  simp at c7
                · skip
                  refine XK.skip ?_
                  refine XK.inBlock ?_
                  refine XK.region rfl ?_
                  refine XO.q (Q.add rfl rfl ⟨by omega, by omega⟩) ?_
                  refine XO.q (Q.move rfl) (XO.done ?_)
                  exact ih1 (i + 1) _ _ (by omega) (by first | omega | (dsimp only; omega)) (.c rfl (.base 100 rfl rfl)) inferInstance
              · skip
                refine XK.exit rfl ?_
                refine XK.seq (XK.region rfl ?_)
                refine XO.q (Q.ldA [_, _, _, _] rfl rfl rfl) ?_
                refine XO.q (Q.ldA [_, _, _, _] rfl rfl rfl) ?_
                refine XO.call Try.call61 rfl rfl rfl (kept07 h a1 a2 a3 a4 k1 k2 k3 k4 vr vw vb vc hr hw hb hc) fun v184 s184 R184 => ?_
                obtain ⟨rfl, rfl⟩ := R184
                dsimp only [lcA, lnA]
                refine XO.q (Q.move rfl) ?_
                refine XO.q (Quiet.guardT rfl rfl fun g186 p186 => Q.move rfl) ?_
                refine XO.q (Quiet.guardT rfl rfl fun g187 p187 => Q.move rfl) ?_
                refine XO.gcallT rfl rfl Try.call39 rfl (fun g188 => .c (lzv g188 rfl) (.c (lzv g188 rfl) .n)) rfl (fun g188 p188 => equalSame v44 vt k44 ht t) ?_
                refine XO.q (Q.and rfl (fun hp => lzv hp rfl)) ?_
                refine XO.q (Q.move rfl) ?_
                refine XO.gcallT rfl rfl Try.call12 rfl (fun g191 => .n) rfl (fun g191 p191 => awake7) ?_
                refine XO.q (Q.and rfl (fun hp => lzv hp rfl)) ?_
                refine XO.q (Q.assign rfl) (XO.done ?_)
                refine XK.rt [] Try.func27 Try.results27 (.t rfl .n) ?_
                exact ⟨by simp, rfl⟩
end Go.X

set_option linter.unusedSimpArgs false
set_option linter.unusedVariables false
set_option maxRecDepth 20000
namespace Go.X
open Go.Proofs
set_option maxHeartbeats 8000000 in
set_option synthInstance.maxSize 1000 in
set_option synthInstance.maxHeartbeats 400000 in
theorem HeatBounds_spec (h : Hall) (vr vw vb vc : Value) (hr hw hb hc : PHeap) [ir : Arr vr encRoom 2 hr h.rooms] [iw : Arr vw encWall 3 hw h.walls] [ib : Arr vb encBranch 3 hb h.branches] [ic : Arr vc encCooler 5 hc h.coolers] (lo hi : List Int) (vlo vhi : Value) (hlo hhi : PHeap) [ilo : Arr vlo encI 1 hlo lo] [ihi : Arr vhi encI 1 hhi hi] (a d : HCase) (va vd : Value) (ha hd : PHeap) [ia : Arr va encI 1 ha a.load] [id : Arr vd encI 1 hd d.load] (c : HCase) (vl : Value) (hl : PHeap) [il : Arr vl encI 1 hl c.load] (n : Int)
    (n1 : h.rooms.length ≤ 20) (n2 : h.walls.length ≤ 20) (n3 : h.branches.length ≤ 20) (n4 : h.coolers.length ≤ 20) (nlo : lo.length ≤ 1000000) (nhi : hi.length ≤ 1000000) (na : a.load.length ≤ 1000000) (nd : d.load.length ≤ 1000000) (nc : c.load.length ≤ 1000000) :
    Spec Try.prog 28 #[.agg #[vr, vw, vb, vc], vlo, vhi, .agg #[va, .int .i64 a.out, .int .i64 a.pump, vd, .int .i64 d.out, .int .i64 d.pump], .agg #[vl, .int .i64 c.out, .int .i64 c.pump], .int .i64 n] [] [hr, hw, hb, hc, hlo, hhi, ha, hd, hl] (fun v hs => v = .bool true ∧ hs = []) := by
  refine Spec.intro (fn := Try.f28) (N := 252) Try.func28 rfl Try.ntmps28 rfl fun B => ?_
  refine XK.seq (XK.region rfl ?_)
  refine XO.box rfl fun b6 => ?_
  refine XO.box rfl fun b9 => ?_
  refine XO.box rfl fun b10 => ?_
  refine XO.q (Q.assign rfl) (XO.done (XK.seq (XK.seq (XK.region rfl ?_))))
  refine XO.q (Q.ldA [_, _, _, _] rfl rfl rfl) ?_
  refine XO.call Try.call54 rfl rfl rfl (large07 h vr vw vb vc hr hw hb hc n1 n2 n3 n4) fun v36 s36 R36 => ?_
  obtain ⟨rfl, rfl⟩ := R36
  dsimp only [lcA, lnA]
  refine XO.q (Q.move rfl) ?_
  refine XO.q (Quiet.guardF rfl rfl fun g38 p38 => Q.move rfl) ?_
  refine XO.q (Quiet.guardF rfl rfl fun g39 p39 => Q.gtr (lzv g39 rfl) rfl) ?_
  refine XO.q (Quiet.guardF rfl rfl fun g40 p40 => Q.move (lzv g40 rfl)) ?_
  refine XO.q (Quiet.guard2 rfl rfl fun g41a g41b => have p41a := bpF g41a; have p41b := bpT g41b; Q.move rfl) ?_
  refine XO.q (Quiet.guard2 rfl rfl fun g42a g42b => have p42a := bpF g42a; have p42b := bpT g42b; Q.leq (lzv g42b (lzv g42a rfl)) rfl) ?_
  refine XO.q (Quiet.guardF rfl rfl fun g43 p43 => Q.and (lzv g43 rfl) (fun hp => (lzv hp (lzv g43 rfl)))) ?_
  refine XO.q (Q.or rfl (fun hp => lzv hp rfl)) ?_
  refine XO.done ?_
  refine XK.if rfl (fun c0 => ?_) (fun c0 => ?_)
  · skip
    refine XK.seq (XK.region rfl ?_)
    refine XO.call Try.call12 rfl rfl rfl (awake7) fun v45 s45 R45 => ?_
    obtain ⟨rfl, rfl⟩ := R45
    dsimp only [lcA, lnA]
    refine XO.q (Q.assign rfl) (XO.done ?_)
    refine XK.rt [] Try.func28 Try.results28 (.t rfl .n) ?_
    exact ⟨rfl, rfl⟩
  · skip
    refine XK.skip (XK.seq (XK.region rfl ?_))
    refine XO.q (Q.ldA [_, _, _, _] rfl rfl rfl) ?_
    refine XO.call Try.call26 rfl rfl rfl (copied07 h vr vw vb vc hr hw hb hc (by omega) (by omega) (by omega) (by omega)) fun v48 s48 R48 => ?_
    obtain ⟨a1, a2, a3, a4, b1, b2, b3, b4, k1, k2, k3, k4, j1, j2, j3, j4, rfl, rfl, ⟨A1, A2, A3, A4⟩, B1, B2, B3, B4⟩ := R48
    dsimp only [lcA, lnA]
    refine XO.q (Q.move rfl) ?_
    refine XO.q (Q.extract rfl rfl) ?_
    refine XO.q (Q.extract rfl rfl) ?_
    refine XO.alloc fun b13 => ?_
    refine XO.alloc fun b14 => ?_
    refine XO.st rfl rfl rfl ?_
    refine XO.st rfl rfl rfl ?_
    refine XO.done (XK.seq (XK.region rfl ?_))
    refine XO.q (Q.ldA [_, _, _, _, _, _] rfl rfl rfl) ?_
    refine XO.call Try.call62 rfl rfl rfl (classOf07 a d va vd ha hd na nd) fun v53 s53 R53 => ?_
    obtain ⟨x1, x2, x3, x4, q1, q2, q3, q4, rfl, rfl, Q1, Q2, Q3, Q4⟩ := R53
    dsimp only [lcA, lnA]
    refine XO.q (Q.move rfl) ?_
    refine XO.q (Q.extract rfl rfl) ?_
    refine XO.q (Q.extract rfl rfl) ?_
    refine XO.alloc fun b15 => ?_
    refine XO.alloc fun b16 => ?_
    refine XO.st rfl rfl rfl ?_
    refine XO.st rfl rfl rfl ?_
    refine XO.done (XK.seq (XK.region rfl ?_))
    refine XO.q (Q.ldA [_, _, _] rfl rfl rfl) ?_
    refine XO.call Try.call29 rfl rfl rfl (caseOf07 c vl hl nc) fun v58 s58 R58 => ?_
    obtain ⟨y1, y2, p1, p2, rfl, rfl, P1, P2⟩ := R58
    dsimp only [lcA, lnA]
    refine XO.q (Q.move rfl) ?_
    refine XO.q (Q.extract rfl rfl) ?_
    refine XO.q (Q.extract rfl rfl) ?_
    refine XO.alloc fun b17 => ?_
    refine XO.alloc fun b18 => ?_
    refine XO.st rfl rfl rfl ?_
    refine XO.st rfl rfl rfl ?_
    refine XO.done (XK.seq (XK.region rfl (XO.q (Q.move rfl) ?_)))
    refine XO.call Try.call23 rfl rfl rfl (cloneI vlo hlo lo (by omega)) fun v62 s62 R62 => ?_
    obtain ⟨k62, rfl, O62⟩ := R62
    dsimp only [lcA, lnA]
    refine XO.q (Q.move rfl) ?_
    refine XO.call Try.call23 rfl rfl rfl (cloneI vhi hhi hi (by omega)) fun v64 s64 R64 => ?_
    obtain ⟨k64, rfl, O64⟩ := R64
    dsimp only [lcA, lnA]
    refine XO.q (Q.assign rfl) (XO.q (Q.assign rfl) (XO.done (XK.seq (XK.region rfl ?_))))
    refine XO.q (Q.ldA [_, _, _, _] rfl rfl rfl) ?_
    refine XO.q (Q.ldA [_, _, _, _, _, _] rfl rfl rfl) ?_
    refine XO.q (Q.ldA [_, _, _] rfl rfl rfl) ?_
    refine XO.call Try.call31 rfl rfl rfl (Belongs_spec h a1 a2 a3 a4 k1 k2 k3 k4 a d x1 x2 q1 q2 c y1 p1) fun v69 s69 R69 => ?_
    obtain ⟨rfl, rfl⟩ := R69
    dsimp only [lcA, lnA]
    refine XO.q (Q.move rfl) ?_
    refine XO.q (Q.extract rfl rfl) ?_
    refine XO.q (Q.extract rfl rfl) ?_
    refine XO.q (Q.assign rfl) (XO.q (Q.assign rfl) (XO.done (XK.seq (XK.region rfl ?_))))
    refine XO.q (Q.ldA [_, _, _, _] rfl rfl rfl) ?_
    refine XO.q (Q.ldA [_, _, _, _, _, _] rfl rfl rfl) ?_
    refine XO.q (Q.ldA [_, _, _] rfl rfl rfl) ?_
    refine XO.call Try.call63 rfl rfl rfl (rBelongs_spec h b1 b2 b3 b4 j1 j2 j3 j4 a d x3 x4 q3 q4 c y2 p2) fun v76 s76 R76 => ?_
    obtain ⟨rfl, rfl⟩ := R76
    dsimp only [lcA, lnA]
    refine XO.q (Q.move rfl) ?_
    refine XO.q (Q.extract rfl rfl) ?_
    refine XO.q (Q.extract rfl rfl) ?_
    refine XO.q (Q.assign rfl) (XO.q (Q.assign rfl) (XO.done (XK.seq (XK.seq (XK.region rfl ?_)))))
    refine XO.q (Q.move rfl) (XO.q (Q.move rfl) ?_)
    refine XO.q (Q.neqB rfl rfl) ?_
    refine XO.q (Q.move rfl) ?_
    refine XO.q (Quiet.guardF rfl rfl fun g83 p83 => Q.move rfl) ?_
    refine XO.q (Quiet.guardF rfl rfl fun g84 p84 => Q.move rfl) ?_
    refine XO.q (Quiet.guardF rfl rfl fun g85 p85 => Q.neq (lzv g85 rfl) (lzv g85 rfl)) ?_
    refine XO.q (Q.or rfl (fun hp => lzv hp rfl)) ?_
    refine XO.done ?_
    refine XK.if rfl (fun c1 => ?_) (fun c1 => ?_)
    · skip
      simp at c1
    · skip
      refine XK.skip (XK.seq (XK.region rfl ?_))
      refine XO.q (Q.ldA [_, _, _, _] rfl rfl rfl) ?_
      refine XO.q (Q.move rfl) (XO.q (Q.move rfl) ?_)
      refine XO.q (Q.ldA [_, _, _, _, _, _] rfl rfl rfl) ?_
      refine XO.q (Q.move rfl) ?_
      refine XO.call Try.call32 rfl rfl rfl (Bounds_spec h a1 a2 a3 a4 k1 k2 k3 k4 a d x1 x2 q1 q2 lo hi v62 v64 k62 k64 n) fun v93 s93 R93 => ?_
      obtain ⟨u1, u2, z1, z2, Z1, Z2, us1, us2, rfl, rfl, OU1, OU2, RU1, RU2⟩ := R93
      dsimp only [lcA, lnA]
      refine XO.q (Q.move rfl) ?_
      refine XO.q (Q.extract rfl rfl) ?_
      refine XO.q (Q.extract rfl rfl) ?_
      refine XO.q (Q.extract rfl rfl) ?_
      refine XO.q (Q.assign rfl) (XO.q (Q.assign rfl) (XO.q (Q.assign rfl) (XO.done (XK.seq (XK.region rfl ?_)))))
      refine XO.q (Q.ldA [_, _, _, _] rfl rfl rfl) ?_
      refine XO.q (Q.move rfl) (XO.q (Q.move rfl) ?_)
      refine XO.q (Q.ldA [_, _, _, _, _, _] rfl rfl rfl) ?_
      refine XO.q (Q.move rfl) ?_
      refine XO.call Try.call64 rfl rfl rfl (rBounds_spec h b1 b2 b3 b4 j1 j2 j3 j4 a d x3 x4 q3 q4 lo hi vlo vhi hlo hhi n) fun v103 s103 R103 => ?_
      obtain ⟨u3, u4, z3, z4, Z3, Z4, us3, us4, rfl, rfl, OU3, OU4, RU3, RU4⟩ := R103
      dsimp only [lcA, lnA]
      refine XO.q (Q.move rfl) ?_
      refine XO.q (Q.extract rfl rfl) ?_
      refine XO.q (Q.extract rfl rfl) ?_
      refine XO.q (Q.extract rfl rfl) ?_
      refine XO.q (Q.assign rfl) (XO.q (Q.assign rfl) (XO.q (Q.assign rfl) (XO.done (XK.seq (XK.seq ?_)))))
      refine XK.region rfl (XO.q (Q.move rfl) (XO.q (Q.move rfl) ?_))
      refine XO.call Try.call59 rfl rfl rfl (sameRows u1 u3 z1 z3 Z1 Z3 us1 us3 _ RU1 RU3) fun v109 s109 R109 => ?_
      obtain ⟨rfl, rfl⟩ := R109
      dsimp only [lcA, lnA]
      refine XO.q (Q.not rfl) ?_
      refine XO.q (Q.move rfl) ?_
      refine XO.q (Quiet.guardF rfl rfl fun g112 p112 => Q.move rfl) ?_
      refine XO.q (Quiet.guardF rfl rfl fun g113 p113 => Q.move rfl) ?_
      refine XO.gcallF rfl rfl Try.call59 rfl (fun g114 => .c (lzv g114 rfl) (.c (lzv g114 rfl) .n)) rfl (fun g114 p114 => sameRows u2 u4 z2 z4 Z2 Z4 us2 us4 _ RU2 RU4) ?_
      refine XO.q (Quiet.guardF rfl rfl fun g115 p115 => Q.not (lzv g115 rfl)) ?_
      refine XO.q (Q.or rfl (fun hp => lzv hp rfl)) ?_
      refine XO.q (Q.move rfl) ?_
      refine XO.q (Quiet.guardF rfl rfl fun g118 p118 => Q.move rfl) ?_
      refine XO.q (Quiet.guardF rfl rfl fun g119 p119 => Q.move rfl) ?_
      refine XO.q (Quiet.guardF rfl rfl fun g120 p120 => Q.neq (lzv g120 rfl) (lzv g120 rfl)) ?_
      refine XO.q (Q.or rfl (fun hp => lzv hp rfl)) ?_
      refine XO.done ?_
      refine XK.if rfl (fun c2 => ?_) (fun c2 => ?_)
      · skip
        simp at c2
      · skip
        refine XK.skip (XK.seq (XK.region rfl ?_))
        refine XO.q (Q.ldA [_, _, _, _] rfl rfl rfl) ?_
        refine XO.q (Q.move rfl) ?_
        refine XO.q (Q.ldA [_, _, _, _, _, _] rfl rfl rfl) ?_
        refine XO.q (Q.move rfl) ?_
        refine XO.call Try.call33 rfl rfl rfl (Ride_spec h a1 a2 a3 a4 k1 k2 k3 k4 hi v64 k64 a d x1 x2 q1 q2 n) fun v127 s127 R127 => ?_
        obtain ⟨rfl, rfl⟩ := R127
        dsimp only [lcA, lnA]
        refine XO.q (Q.move rfl) ?_
        refine XO.q (Q.extract rfl rfl) ?_
        refine XO.q (Q.extract rfl rfl) ?_
        refine XO.q (Q.extract rfl rfl) ?_
        refine XO.q (Q.assign rfl) (XO.q (Q.assign rfl) (XO.q (Q.assign rfl) (XO.done (XK.seq (XK.region rfl ?_)))))
        refine XO.q (Q.ldA [_, _, _, _] rfl rfl rfl) ?_
        refine XO.q (Q.move rfl) ?_
        refine XO.q (Q.ldA [_, _, _, _, _, _] rfl rfl rfl) ?_
        refine XO.q (Q.move rfl) ?_
        refine XO.call Try.call65 rfl rfl rfl (rRide_spec h b1 b2 b3 b4 j1 j2 j3 j4 hi vhi hhi a d x3 x4 q3 q4 n) fun v136 s136 R136 => ?_
        obtain ⟨rfl, rfl⟩ := R136
        dsimp only [lcA, lnA]
        refine XO.q (Q.move rfl) ?_
        refine XO.q (Q.extract rfl rfl) ?_
        refine XO.q (Q.extract rfl rfl) ?_
        refine XO.q (Q.extract rfl rfl) ?_
        refine XO.q (Q.assign rfl) (XO.q (Q.assign rfl) (XO.q (Q.assign rfl) (XO.done (XK.seq (XK.seq ?_)))))
        refine XK.region rfl (XO.q (Q.move rfl) (XO.q (Q.move rfl) ?_))
        refine XO.q (Q.neq rfl rfl) ?_
        refine XO.q (Q.move rfl) ?_
        refine XO.q (Quiet.guardF rfl rfl fun g144 p144 => Q.move rfl) ?_
        refine XO.q (Quiet.guardF rfl rfl fun g145 p145 => Q.move rfl) ?_
        refine XO.q (Quiet.guardF rfl rfl fun g146 p146 => Q.neq (lzv g146 rfl) (lzv g146 rfl)) ?_
        refine XO.q (Q.or rfl (fun hp => lzv hp rfl)) ?_
        refine XO.q (Q.move rfl) ?_
        refine XO.q (Quiet.guardF rfl rfl fun g149 p149 => Q.move rfl) ?_
        refine XO.q (Quiet.guardF rfl rfl fun g150 p150 => Q.move rfl) ?_
        refine XO.q (Quiet.guardF rfl rfl fun g151 p151 => Q.neq (lzv g151 rfl) (lzv g151 rfl)) ?_
        refine XO.q (Q.or rfl (fun hp => lzv hp rfl)) ?_
        refine XO.done ?_
        refine XK.if rfl (fun c3 => ?_) (fun c3 => ?_)
        · skip
          simp at c3
        · skip
          refine XK.skip (XK.seq (XK.region rfl ?_))
          refine XO.q (Q.ldA [_, _, _, _] rfl rfl rfl) ?_
          refine XO.q (Q.move rfl) ?_
          refine XO.q (Q.ldA [_, _, _] rfl rfl rfl) ?_
          refine XO.q (Q.move rfl) ?_
          refine XO.call Try.call21 rfl rfl rfl (Settle_spec h a1 a2 a3 a4 k1 k2 k3 k4 lo v62 k62 c y1 p1 n) fun v158 s158 R158 => ?_
          obtain ⟨s1, S1, rfl, rfl, AS1⟩ := R158
          dsimp only [lcA, lnA]
          refine XO.q (Q.move rfl) ?_
          refine XO.q (Q.extract rfl rfl) ?_
          refine XO.q (Q.extract rfl rfl) ?_
          refine XO.q (Q.extract rfl rfl) ?_
          refine XO.q (Q.assign rfl) (XO.q (Q.assign rfl) (XO.q (Q.assign rfl) (XO.done (XK.seq (XK.region rfl ?_)))))
          refine XO.q (Q.ldA [_, _, _, _] rfl rfl rfl) ?_
          refine XO.q (Q.move rfl) ?_
          refine XO.q (Q.ldA [_, _, _] rfl rfl rfl) ?_
          refine XO.q (Q.move rfl) ?_
          refine XO.call Try.call66 rfl rfl rfl (rSettle_spec h b1 b2 b3 b4 j1 j2 j3 j4 lo vlo hlo c y2 p2 n) fun v167 s167 R167 => ?_
          obtain ⟨s2, S2, rfl, rfl, AS2⟩ := R167
          dsimp only [lcA, lnA]
          refine XO.q (Q.move rfl) ?_
          refine XO.q (Q.extract rfl rfl) ?_
          refine XO.q (Q.extract rfl rfl) ?_
          refine XO.q (Q.extract rfl rfl) ?_
          refine XO.q (Q.assign rfl) (XO.q (Q.assign rfl) (XO.q (Q.assign rfl) (XO.done (XK.seq (XK.seq ?_)))))
          refine XK.region rfl (XO.q (Q.move rfl) (XO.q (Q.move rfl) ?_))
          refine XO.call Try.call39 rfl rfl rfl (equalSame s1 s2 S1 S2 _) fun v173 s173 R173 => ?_
          obtain ⟨rfl, rfl⟩ := R173
          dsimp only [lcA, lnA]
          refine XO.q (Q.not rfl) ?_
          refine XO.q (Q.move rfl) ?_
          refine XO.q (Quiet.guardF rfl rfl fun g176 p176 => Q.move rfl) ?_
          refine XO.q (Quiet.guardF rfl rfl fun g177 p177 => Q.move rfl) ?_
          refine XO.q (Quiet.guardF rfl rfl fun g178 p178 => Q.neq (lzv g178 rfl) (lzv g178 rfl)) ?_
          refine XO.q (Q.or rfl (fun hp => lzv hp rfl)) ?_
          refine XO.q (Q.move rfl) ?_
          refine XO.q (Quiet.guardF rfl rfl fun g181 p181 => Q.move rfl) ?_
          refine XO.q (Quiet.guardF rfl rfl fun g182 p182 => Q.move rfl) ?_
          refine XO.q (Quiet.guardF rfl rfl fun g183 p183 => Q.neq (lzv g183 rfl) (lzv g183 rfl)) ?_
          refine XO.q (Q.or rfl (fun hp => lzv hp rfl)) ?_
          refine XO.done ?_
          refine XK.if rfl (fun c4 => ?_) (fun c4 => ?_)
          · skip
            simp at c4
          · skip
            refine XK.skip (XK.seq (XK.region rfl ?_))
            refine XO.q (Q.ldA [_, _, _, _] rfl rfl rfl) ?_
            refine XO.q (Q.move rfl) (XO.q (Q.move rfl) ?_)
            refine XO.q (Q.ldA [_, _, _, _, _, _] rfl rfl rfl) ?_
            refine XO.call Try.call22 rfl rfl rfl (Held_spec h a1 a2 a3 a4 k1 k2 k3 k4 a d x1 x2 q1 q2 lo hi v62 v64 k62 k64) fun v190 s190 R190 => ?_
            obtain ⟨rfl, rfl⟩ := R190
            dsimp only [lcA, lnA]
            refine XO.q (Q.move rfl) ?_
            refine XO.q (Q.extract rfl rfl) ?_
            refine XO.q (Q.extract rfl rfl) ?_
            refine XO.q (Q.assign rfl) (XO.q (Q.assign rfl) (XO.done (XK.seq (XK.region rfl ?_))))
            refine XO.q (Q.ldA [_, _, _, _] rfl rfl rfl) ?_
            refine XO.q (Q.move rfl) (XO.q (Q.move rfl) ?_)
            refine XO.q (Q.ldA [_, _, _, _, _, _] rfl rfl rfl) ?_
            refine XO.call Try.call67 rfl rfl rfl (rHeld_spec h b1 b2 b3 b4 j1 j2 j3 j4 a d x3 x4 q3 q4 lo hi vlo vhi hlo hhi) fun v198 s198 R198 => ?_
            obtain ⟨rfl, rfl⟩ := R198
            dsimp only [lcA, lnA]
            refine XO.q (Q.move rfl) ?_
            refine XO.q (Q.extract rfl rfl) ?_
            refine XO.q (Q.extract rfl rfl) ?_
            refine XO.q (Q.assign rfl) (XO.q (Q.assign rfl) (XO.done (XK.seq (XK.region rfl (XO.q (Q.move rfl) ?_)))))
            refine XO.q (Q.move rfl) ?_
            refine XO.q (Q.eqlB rfl rfl) ?_
            refine XO.q (Q.move rfl) ?_
            refine XO.q (Quiet.guardT rfl rfl fun g205 p205 => Q.move rfl) ?_
            refine XO.q (Quiet.guardT rfl rfl fun g206 p206 => Q.move rfl) ?_
            refine XO.q (Quiet.guardT rfl rfl fun g207 p207 => Q.eql (lzv g207 rfl) (lzv g207 rfl)) ?_
            refine XO.q (Q.and rfl (fun hp => lzv hp rfl)) ?_
            refine XO.q (Q.move rfl) ?_
            refine XO.q (Quiet.guardT rfl rfl fun g210 p210 => Q.ldA [_, _, _, _] rfl rfl rfl) ?_
            refine XO.q (Quiet.guardT rfl rfl fun g211 p211 => Q.ldA [_, _, _, _] rfl rfl rfl) ?_
            refine XO.gcallT rfl rfl Try.call61 rfl (fun g212 => .c (lzv g212 rfl) (.c (lzv g212 rfl) .n)) rfl (fun g212 p212 => kept07 h a1 a2 a3 a4 k1 k2 k3 k4 vr vw vb vc hr hw hb hc) ?_
            refine XO.q (Q.and rfl (fun hp => lzv hp rfl)) ?_
            refine XO.q (Q.move rfl) ?_
            refine XO.q (Quiet.guardT rfl rfl fun g215 p215 => Q.move rfl) ?_
            refine XO.q (Quiet.guardT rfl rfl fun g216 p216 => Q.move rfl) ?_
            refine XO.gcallT rfl rfl Try.call39 rfl (fun g217 => .c (lzv g217 rfl) (.c (lzv g217 rfl) .n)) rfl (fun g217 p217 => equalSame v62 vlo k62 hlo lo) ?_
            refine XO.q (Q.and rfl (fun hp => lzv hp rfl)) ?_
            refine XO.q (Q.move rfl) ?_
            refine XO.q (Quiet.guardT rfl rfl fun g220 p220 => Q.move rfl) ?_
            refine XO.q (Quiet.guardT rfl rfl fun g221 p221 => Q.move rfl) ?_
            refine XO.gcallT rfl rfl Try.call39 rfl (fun g222 => .c (lzv g222 rfl) (.c (lzv g222 rfl) .n)) rfl (fun g222 p222 => equalSame v64 vhi k64 hhi hi) ?_
            refine XO.q (Q.and rfl (fun hp => lzv hp rfl)) ?_
            refine XO.q (Q.move rfl) ?_
            refine XO.q (Quiet.guardT rfl rfl fun g225 p225 => Q.fieldAddr rfl) ?_
            refine XO.q (Quiet.guardT rfl rfl fun g226 p226 => Q.ld (lzv g226 rfl) rfl) ?_
            refine XO.q (Quiet.guardT rfl rfl fun g227 p227 => Q.fieldAddr rfl) ?_
            refine XO.q (Quiet.guardT rfl rfl fun g228 p228 => Q.ld (lzv g228 rfl) rfl) ?_
            refine XO.gcallT rfl rfl Try.call39 rfl (fun g229 => .c (lzv g229 rfl) (.c (lzv g229 rfl) .n)) rfl (fun g229 p229 => equalSame y1 vl p1 hl c.load) ?_
            refine XO.q (Q.and rfl (fun hp => lzv hp rfl)) ?_
            refine XO.q (Q.move rfl) ?_
            refine XO.q (Quiet.guardT rfl rfl fun g232 p232 => Q.fieldAddr rfl) ?_
            refine XO.q (Quiet.guardT rfl rfl fun g233 p233 => Q.fieldAddr (lzv g233 rfl)) ?_
            refine XO.q (Quiet.guardT rfl rfl fun g234 p234 => Q.ld (lzv g234 rfl) rfl) ?_
            refine XO.q (Quiet.guardT rfl rfl fun g235 p235 => Q.fieldAddr rfl) ?_
            refine XO.q (Quiet.guardT rfl rfl fun g236 p236 => Q.fieldAddr (lzv g236 rfl)) ?_
            refine XO.q (Quiet.guardT rfl rfl fun g237 p237 => Q.ld (lzv g237 rfl) rfl) ?_
            refine XO.gcallT rfl rfl Try.call39 rfl (fun g238 => .c (lzv g238 rfl) (.c (lzv g238 rfl) .n)) rfl (fun g238 p238 => equalSame x1 va q1 ha a.load) ?_
            refine XO.q (Q.and rfl (fun hp => lzv hp rfl)) ?_
            refine XO.q (Q.move rfl) ?_
            refine XO.q (Quiet.guardT rfl rfl fun g241 p241 => Q.fieldAddr rfl) ?_
            refine XO.q (Quiet.guardT rfl rfl fun g242 p242 => Q.fieldAddr (lzv g242 rfl)) ?_
            refine XO.q (Quiet.guardT rfl rfl fun g243 p243 => Q.ld (lzv g243 rfl) rfl) ?_
            refine XO.q (Quiet.guardT rfl rfl fun g244 p244 => Q.fieldAddr rfl) ?_
            refine XO.q (Quiet.guardT rfl rfl fun g245 p245 => Q.fieldAddr (lzv g245 rfl)) ?_
            refine XO.q (Quiet.guardT rfl rfl fun g246 p246 => Q.ld (lzv g246 rfl) rfl) ?_
            refine XO.gcallT rfl rfl Try.call39 rfl (fun g247 => .c (lzv g247 rfl) (.c (lzv g247 rfl) .n)) rfl (fun g247 p247 => equalSame x2 vd q2 hd d.load) ?_
            refine XO.q (Q.and rfl (fun hp => lzv hp rfl)) ?_
            refine XO.q (Q.move rfl) ?_
            refine XO.gcallT rfl rfl Try.call12 rfl (fun g250 => .n) rfl (fun g250 p250 => awake7) ?_
            refine XO.q (Q.and rfl (fun hp => lzv hp rfl)) ?_
            refine XO.q (Q.assign rfl) (XO.done ?_)
            refine XK.rt [] Try.func28 Try.results28 (.t rfl .n) ?_
            exact ⟨by simp, rfl⟩
end Go.X

set_option linter.unusedSimpArgs false
set_option linter.unusedVariables false
set_option maxRecDepth 20000
namespace Go.X
open Go.Proofs
theorem steps0 (h : Hall) (vr vw vb vc : Value) (hr hw hb hc : PHeap) [ir : Arr vr encRoom 2 hr h.rooms] [iw : Arr vw encWall 3 hw h.walls] [ib : Arr vb encBranch 3 hb h.branches] [ic : Arr vc encCooler 5 hc h.coolers] (t : List Int) (vt : Value) (ht : PHeap) [it : Arr vt encI 1 ht t] (vl : Value) (hl : PHeap) [jl : Arr vl encCV 3 hl ([] : List (Value × HCase))] (pump : Int) (n1 : h.rooms.length ≤ 20) (n2 : h.walls.length ≤ 20) (n3 : h.branches.length ≤ 20) (n4 : h.coolers.length ≤ 20) (nt : t.length ≤ 1000000) : Spec Try.prog 27 #[.agg #[vr, vw, vb, vc], vt, vl, .int .i64 pump] [] [hr, hw, hb, hc, ht, hl] (fun v hs => v = .bool true ∧ hs = []) :=
  (HeatSteps_spec h vr vw vb vc hr hw hb hc t vt ht [] vl hl hl (fun i hi => absurd hi (Nat.not_lt_zero i)) pump n1 n2 n3 n4 nt (Nat.zero_le _) (fun i hi => absurd hi (Nat.not_lt_zero i))).wide (by intro x hx; simp only [List.mem_cons, List.not_mem_nil, or_false] at hx ⊢; rcases hx with h | h | h | h | h | h | h <;> simp [h])
theorem steps1 (h : Hall) (vr vw vb vc : Value) (hr hw hb hc : PHeap) [ir : Arr vr encRoom 2 hr h.rooms] [iw : Arr vw encWall 3 hw h.walls] [ib : Arr vb encBranch 3 hb h.branches] [ic : Arr vc encCooler 5 hc h.coolers] (t : List Int) (vt : Value) (ht : PHeap) [it : Arr vt encI 1 ht t] (c1 : HCase) (v1 : Value) (h1 : PHeap) [i1 : Arr v1 encI 1 h1 c1.load] (vl : Value) (hl : PHeap) [jl : Arr vl encCV 3 hl [(v1, c1)]] (pump : Int) (n1 : h.rooms.length ≤ 20) (n2 : h.walls.length ≤ 20) (n3 : h.branches.length ≤ 20) (n4 : h.coolers.length ≤ 20) (nt : t.length ≤ 1000000) (m1 : c1.load.length ≤ 1000000) : Spec Try.prog 27 #[.agg #[vr, vw, vb, vc], vt, vl, .int .i64 pump] [] [hr, hw, hb, hc, ht, hl, h1] (fun v hs => v = .bool true ∧ hs = []) :=
  HeatSteps_spec h vr vw vb vc hr hw hb hc t vt ht [(v1, c1)] vl hl h1 (fun i hi => (show i = 0 from Nat.lt_one_iff.1 hi) ▸ i1) pump n1 n2 n3 n4 nt (Nat.le_of_ble_eq_true rfl) (fun i hi => (show i = 0 from Nat.lt_one_iff.1 hi) ▸ m1)
theorem steps2 (h : Hall) (vr vw vb vc : Value) (hr hw hb hc : PHeap) [ir : Arr vr encRoom 2 hr h.rooms] [iw : Arr vw encWall 3 hw h.walls] [ib : Arr vb encBranch 3 hb h.branches] [ic : Arr vc encCooler 5 hc h.coolers] (t : List Int) (vt : Value) (ht : PHeap) [it : Arr vt encI 1 ht t] (c1 : HCase) (v1 : Value) (h1 : PHeap) [i1 : Arr v1 encI 1 h1 c1.load] (c2 : HCase) (v2 : Value) (h2 : PHeap) [i2 : Arr v2 encI 1 h2 c2.load] (vl : Value) (hl : PHeap) [jl : Arr vl encCV 3 hl [(v1, c1), (v2, c2)]] (pump : Int) (n1 : h.rooms.length ≤ 20) (n2 : h.walls.length ≤ 20) (n3 : h.branches.length ≤ 20) (n4 : h.coolers.length ≤ 20) (nt : t.length ≤ 1000000) (m1 : c1.load.length ≤ 1000000) (m2 : c2.load.length ≤ 1000000) : Spec Try.prog 27 #[.agg #[vr, vw, vb, vc], vt, vl, .int .i64 pump] [] [h1, h2, hr, hw, hb, hc, ht, hl] (fun v hs => v = .bool true ∧ hs = []) :=
  Spec.catR fun c la lb => (HeatSteps_spec h vr vw vb vc hr hw hb hc t vt ht [(v1, c1), (v2, c2)] vl hl c (fun i hi => by
    have e : i = 0 ∨ i = 1 := by
      change i < 2 at hi
      omega
    rcases e with rfl | rfl
    · exact Arr.le_heap i1 la
    · exact Arr.le_heap i2 lb) pump n1 n2 n3 n4 nt (Nat.le_of_ble_eq_true rfl) (fun i hi => by
    have e : i = 0 ∨ i = 1 := by
      change i < 2 at hi
      omega
    rcases e with rfl | rfl
    · exact m1
    · exact m2)).wide (by intro x hx; simp only [List.mem_cons, List.not_mem_nil, or_false] at hx ⊢; rcases hx with h | h | h | h | h | h | h <;> simp [h])
theorem Q.remY {P : Program} {ops : Array Oper} {e : Env} {o r : List PHeap} {d : Option Tmp} {ty : TypeId} {pos : String} {aft : Array Edge} {t t2 : TypeId} {x y : Operand} {k : IntKind} {m n z : Int} (hx : ev e x = some (.int k m)) (hy : ev e y = some (.int k n)) (hn : n ≠ 0) (hz : m.tmod n = z) :
    Quiet P ops ⟨d, .binOp .rem t x y t2, ty, pos, aft, none⟩ e o r (.int k z) := hz ▸ Q.remT hx hy hn
def encHV (x : Value × Value × Value × Value) : List Value := [x.1, x.2.1, x.2.2.1, x.2.2.2]
instance : Inhabited (Value × Value × Value × Value) := ⟨(.slice none 0 0, .slice none 0 0, .slice none 0 0, .slice none 0 0)⟩
theorem pat_one {v : Value} {α : Type} {enc : α → List Value} {sz : Nat} {h : PHeap} {xs : List α} (s : Arr v enc sz h xs) {i : Nat} (hi : i < xs.length) (off : Nat) : One (pat v sz i off) := by
  obtain ⟨b, k, cs, T, fr, c, _, _, hp, _⟩ := s.at' hi
  rw [hp off]; infer_instance
theorem run_many {l : List HCase} (t : List Int) (hl : 20000 < l.length) : runG exHall t l = ([], 2) := by
  have e : hcheck exHall = 0 := by decide +kernel
  rw [runG_errs, if_neg (by rw [e]; decide), if_pos hl]
abbrev zeroC : Value × HCase := (.slice none 0 0, ⟨[], 0, 0⟩)
theorem zero_loads (n : Nat) (K : PHeap) : ∀ i, i < (List.replicate n zeroC).length → Arr ((List.replicate n zeroC).getD i default).1 encI 1 K ((List.replicate n zeroC).getD i default).2.load := fun i hi => by
  rw [List.getD_eq_getElem?_getD, List.getElem?_eq_getElem hi, Option.getD_some, List.getElem_replicate]
  exact Arr.nil (fun _ => rfl)
theorem run_zero (h : Hall) (vr vw vb vc : Value) (hr hw hb hc : PHeap) [ir : Arr vr encRoom 2 hr h.rooms] [iw : Arr vw encWall 3 hw h.walls] [ib : Arr vb encBranch 3 hb h.branches] [ic : Arr vc encCooler 5 hc h.coolers] (e : h = exHall) (t : List Int) (vt : Value) (ht : PHeap) [it : Arr vt encI 1 ht t] (vl : Value) (hl : PHeap) (n : Nat) [jl : Arr vl encCV 3 hl (List.replicate n zeroC)] (hn : 20000 < n) : Spec Try.prog 30 #[.agg #[vr, vw, vb, vc], vt, vl] [] [hr, hw, hb, hc, ht, hl] (fun v hs => ∃ v1 k1 K us, v = .tuple #[v1, .int .i64 2] ∧ hs = [k1, K] ∧ OArr v1 encV 1 31 k1 us) := by
  subst e
  have s := (Run_spec exHall vr vw vb vc hr hw hb hc t vt ht (List.replicate n zeroC) vl hl hl (zero_loads n hl)).wide (Hr' := [hr, hw, hb, hc, ht, hl]) (by intro x hx; simp only [List.mem_cons, List.not_mem_nil, or_false] at hx ⊢; rcases hx with h | h | h | h | h | h | h <;> simp [h])
  rw [run_many t (by rw [List.length_map, List.length_replicate]; exact hn)] at s
  exact s.mono fun v hs ⟨v1, k1, K, us, e1, e2, o, _⟩ => ⟨v1, k1, K, us, e1, e2, o⟩
end Go.X
