/- Contracts of functions of the program, each proved by a walk through its operations. No condition but those that stand in each theorem. -/
import Derived.Test.YtfenlpoaphbfgaaK11
import Derived.Test.YtfenlpoaphbfgaaX17
import Derived.Test.YtfenlpoaphbfgaaP9
set_option linter.unusedSimpArgs false
set_option linter.unusedVariables false
set_option maxRecDepth 20000
namespace Go.X
open Go.Proofs
theorem Solve_spec (g : G) (vn vg : Value) (hn hg : PHeap) [sn : Arr vn encI 1 hn g.next] [sg : Arr vg encB 1 hg g.good] : Spec Try.prog 20 #[.agg #[.int .i64 g.S, .int .i64 g.C, .int .i64 g.K, vn, vg]] [] [hn, hg] (fun v hs => ∃ v1 v2 v3 k1 k2 k3, v = .tuple #[.agg #[v1, v2, v3], .int .i64 (gcheck g)] ∧ hs = [k1, k2, k3] ∧ OArr v1 encB 1 4 k1 (solveG g).1 ∧ OArr v2 encI 1 3 k2 (solveG g).2.1 ∧ OArr v3 encI 1 3 k3 (solveG g).2.2) := by
  refine Spec.intro (fn := Try.f20) (N := 13) Try.func20 rfl Try.ntmps20 rfl fun B => ?_
  refine XK.seq ?_
  refine XK.region rfl ?_
  refine XO.box rfl fun b1 => ?_
  refine XO.alloc fun b2 => ?_
  refine XO.q (Q.assign rfl) ?_
  refine XO.done ?_
  refine XK.seq ?_
  refine XK.seq ?_
  refine XK.region rfl ?_
  refine XO.q (Q.ldA [_, _, _, _, _] rfl rfl rfl) ?_
  refine XO.call Try.call38 rfl rfl rfl (check _ _ _ _ _) fun v6 s6 R6 => ?_
  obtain ⟨rfl, rfl⟩ := R6
  dsimp only [List.cons_append, List.nil_append]
  refine XO.q (Q.assign rfl) ?_
  refine XO.done ?_
  refine XK.seq ?_
  refine XK.region rfl ?_
  refine XO.q (Q.move rfl) ?_
  refine XO.q (Q.neq rfl rfl) ?_
  refine XO.done ?_
  refine XK.if rfl (fun c0 => ?_) (fun c0 => ?_)
  · have _t0 := True.intro
    refine XK.seq ?_
    refine XK.region rfl ?_
    refine XO.q (Q.build [_, _, _] (.n _)) ?_
    refine XO.q (Q.move rfl) ?_
    refine XO.st rfl rfl rfl ?_
    refine XO.q (Q.assign rfl) ?_
    refine XO.done ?_
    refine XK.rt [emp, emp, emp] Try.func20 Try.results20 (.cell [_, _, _] rfl rfl rfl (.t rfl .n)) ?_
    have hw : solveG g = ([], [], []) := by rw [solveG, if_pos c0]
    rw [hw]
    exact ⟨.slice none 0 0, .slice none 0 0, .slice none 0 0, emp, emp, emp, rfl, rfl, OArr.nil (fun _ => rfl), OArr.nil (fun _ => rfl), OArr.nil (fun _ => rfl)⟩
  · have _t0 := True.intro
    obtain ⟨S, C, K, hS, hC, hK, ok⟩ := gcheck_ok (Decidable.of_not_not c0)
    obtain ⟨gS, gC, gK, next, good⟩ := g
    dsimp only at hS hC hK ok sn sg ⊢
    subst hS hC hK
    refine XK.skip ?_
    refine XK.seq ?_
    refine XK.region rfl ?_
    refine XO.q (Q.ldA [_, _, _, _, _] rfl rfl rfl) ?_
    refine XO.call Try.call46 rfl rfl rfl (solve_spec S C K next good ok vn vg hn hg) fun v12 s12 R12 => ?_
    obtain ⟨v1, v2, v3, k1, k2, k3, rfl, rfl, O1, O2, O3⟩ := R12
    dsimp only [List.cons_append, List.nil_append]
    refine XO.st rfl rfl rfl ?_
    refine XO.q (Q.assign rfl) ?_
    refine XO.done ?_
    refine XK.rt [k1, k2, k3] Try.func20 Try.results20 (.cell [_, _, _] rfl rfl rfl (.t rfl .n)) ?_
    have hw : solveG ⟨S, C, K, next, good⟩ = solved S C K next good := by rw [solveG, if_neg c0]; simp
    have hw0 : gcheck ⟨S, C, K, next, good⟩ = 0 := Decidable.of_not_not c0
    rw [hw, hw0]
    exact ⟨v1, v2, v3, k1, k2, k3, rfl, rfl, O1, O2, O3⟩
theorem example_spec : Spec Try.prog 29 #[] [] [] (fun v hs => ∃ v1 v2 k1 k2, v = .agg #[.int .i64 exG.S, .int .i64 exG.C, .int .i64 exG.K, v1, v2] ∧ hs = [k1, k2] ∧ OArr v1 encI 1 3 k1 exG.next ∧ OArr v2 encB 1 4 k2 exG.good) := by
  refine Spec.intro (fn := Try.f29) (N := 4) Try.func29 rfl Try.ntmps29 rfl fun B => ?_
  refine XK.seq ?_
  refine XK.region rfl ?_
  refine XO.alloc fun b0 => ?_
  refine XO.done ?_
  refine XK.seq ?_
  refine XK.region rfl ?_
  refine XO.lit [_, _, _, _, _, _, _, _, _, _, _, _] [_, _, _, _, _, _, _, _, _, _, _, _] [_, _, _, _, _, _, _, _, _, _, _, _] encI (by rfl) (by rfl) rfl (by rfl) (by exact .c 0 1 rfl rfl rfl (.c 1 1 rfl rfl rfl (.c 2 1 rfl rfl rfl (.c 3 1 rfl rfl rfl (.c 4 1 rfl rfl rfl (.c 5 1 rfl rfl rfl (.c 6 1 rfl rfl rfl (.c 7 1 rfl rfl rfl (.c 8 1 rfl rfl rfl (.c 9 1 rfl rfl rfl (.c 10 1 rfl rfl rfl (.c 11 1 rfl rfl rfl (.n _))))))))))))) (fun _ => rfl) (by rfl) rfl (by infer_instance) rfl fun v1 h1 O1 => ?_
  refine XO.lit [_, _, _] [_, _, _] [_, _, _] encB (by rfl) (by rfl) rfl (by rfl) (by exact .c 0 1 rfl rfl rfl (.c 1 1 rfl rfl rfl (.c 2 1 rfl rfl rfl (.n _)))) (fun _ => rfl) (by rfl) rfl (by infer_instance) rfl fun v2 h2 O2 => ?_
  refine XO.q (Q.build [_, _, _, _, _] (.c 0 1 rfl rfl rfl (.c 1 1 rfl rfl rfl (.c 2 1 rfl rfl rfl (.c 3 1 rfl rfl rfl (.c 4 1 rfl rfl rfl (.n _))))))) ?_
  refine XO.st rfl rfl rfl ?_
  refine XO.done ?_
  refine XK.rt [h1, h2] Try.func29 Try.results29 (.cell [_, _, _, _, _] rfl rfl rfl (.n)) ?_
  exact ⟨v1, v2, h1, h2, rfl, rfl, O1, O2⟩
theorem awake_spec : Spec Try.prog 11 #[] [] [] (fun v hs => v = .bool true ∧ hs = []) := by
  refine Spec.intro (fn := Try.f11) (N := 97) Try.func11 rfl Try.ntmps11 rfl fun B => ?_
  refine XK.seq ?_
  refine XK.region rfl ?_
  refine XO.q (Q.assign rfl) ?_
  refine XO.done ?_
  refine XK.seq ?_
  refine XK.region rfl ?_
  refine XO.call Try.call29 rfl rfl rfl (example_spec) fun v15 s15 R15 => ?_
  obtain ⟨x15, y15, kx15, ky15, rfl, rfl, OX15, OY15⟩ := R15
  dsimp only [List.cons_append, List.nil_append]
  refine XO.call Try.call20 rfl rfl rfl (Solve_spec exG x15 y15 kx15 ky15) fun v16 s16 R16 => ?_
  obtain ⟨p16, q16, r16, kp16, kq16, kr16, rfl, rfl, OP16, OQ16, OR16⟩ := R16
  dsimp only [List.cons_append, List.nil_append]
  refine XO.q (Q.move rfl) ?_
  refine XO.q (Q.extract rfl rfl) ?_
  refine XO.q (Q.extract rfl rfl) ?_
  refine XO.alloc fun b1 => ?_
  refine XO.st rfl rfl rfl ?_
  refine XO.q (Q.assign rfl) ?_
  refine XO.done ?_
  refine XK.seq ?_
  refine XK.region rfl ?_
  refine XO.call Try.call29 rfl rfl rfl (example_spec) fun v20 s20 R20 => ?_
  obtain ⟨x20, y20, kx20, ky20, rfl, rfl, OX20, OY20⟩ := R20
  dsimp only [List.cons_append, List.nil_append]
  refine XO.call Try.call16 rfl rfl rfl (without_spec exG x20 y20 kx20 ky20 1) fun v21 s21 R21 => ?_
  obtain ⟨x21, y21, kx21, ky21, rfl, rfl, OX21, OY21⟩ := R21
  dsimp only [List.cons_append, List.nil_append]
  refine XO.q (Q.move rfl) ?_
  refine XO.q (Q.extract rfl rfl) ?_
  refine XO.q (Q.extract rfl rfl) ?_
  refine XO.alloc fun b3 => ?_
  refine XO.st rfl rfl rfl ?_
  refine XO.q (Q.assign rfl) ?_
  refine XO.done ?_
  refine XK.seq ?_
  refine XK.region rfl ?_
  refine XO.q (Q.ldA [_, _, _, _, _] rfl rfl rfl) ?_
  refine XO.call Try.call20 rfl rfl rfl (Solve_spec (without exG 1).1 x21 y21 kx21 ky21) fun v26 s26 R26 => ?_
  obtain ⟨p26, q26, r26, kp26, kq26, kr26, rfl, rfl, OP26, OQ26, OR26⟩ := R26
  dsimp only [List.cons_append, List.nil_append]
  refine XO.q (Q.move rfl) ?_
  refine XO.q (Q.extract rfl rfl) ?_
  refine XO.q (Q.extract rfl rfl) ?_
  refine XO.alloc fun b5 => ?_
  refine XO.st rfl rfl rfl ?_
  refine XO.q (Q.assign rfl) ?_
  refine XO.done ?_
  refine XK.seq ?_
  refine XK.region rfl ?_
  refine XO.call Try.call29 rfl rfl rfl (example_spec) fun v30 s30 R30 => ?_
  obtain ⟨x30, y30, kx30, ky30, rfl, rfl, OX30, OY30⟩ := R30
  dsimp only [List.cons_append, List.nil_append]
  refine XO.call Try.call29 rfl rfl rfl (example_spec) fun v31 s31 R31 => ?_
  obtain ⟨x31, y31, kx31, ky31, rfl, rfl, OX31, OY31⟩ := R31
  dsimp only [List.cons_append, List.nil_append]
  refine XO.call Try.call13 rfl rfl rfl (product_spec exG exG x30 y30 x31 y31 kx30 ky30 kx31 ky31) fun v32 s32 R32 => ?_
  obtain ⟨x32, y32, kx32, ky32, rfl, rfl, OX32, OY32⟩ := R32
  dsimp only [List.cons_append, List.nil_append]
  refine XO.q (Q.move rfl) ?_
  refine XO.q (Q.extract rfl rfl) ?_
  refine XO.q (Q.extract rfl rfl) ?_
  refine XO.alloc fun b7 => ?_
  refine XO.st rfl rfl rfl ?_
  refine XO.q (Q.assign rfl) ?_
  refine XO.done ?_
  refine XK.seq ?_
  refine XK.region rfl ?_
  refine XO.q (Q.ldA [_, _, _, _, _] rfl rfl rfl) ?_
  refine XO.call Try.call20 rfl rfl rfl (Solve_spec (product exG exG).1 x32 y32 kx32 ky32) fun v37 s37 R37 => ?_
  obtain ⟨p37, q37, r37, kp37, kq37, kr37, rfl, rfl, OP37, OQ37, OR37⟩ := R37
  dsimp only [List.cons_append, List.nil_append]
  refine XO.q (Q.move rfl) ?_
  refine XO.q (Q.extract rfl rfl) ?_
  refine XO.q (Q.extract rfl rfl) ?_
  refine XO.alloc fun b9 => ?_
  refine XO.st rfl rfl rfl ?_
  refine XO.q (Q.assign rfl) ?_
  refine XO.done ?_
  refine XK.seq ?_
  refine XK.region rfl ?_
  refine XO.q (Q.assign rfl) ?_
  refine XO.done ?_
  refine XK.seq ?_
  refine XK.seq ?_
  refine XK.region rfl ?_
  refine XO.q (Q.fieldAddr rfl) ?_
  refine XO.q (Q.ld rfl rfl) ?_
  refine XO.len rfl fun l42 => ?_
  refine XO.q (Q.move rfl) ?_
  refine XO.done ?_
  refine XK.block ?_
  refine XK.while (X := Nat × Nat) [11, 13, 43, 44, 45, 46, 47, 48, 49, 50] (fun ⟨i, n⟩ => [(43, some (.int .i64 (i : Nat))), (11, some (.int .i64 (n : Nat)))]) (fun ⟨i, n⟩ => []) (fun ⟨i, n⟩ => i ≤ (solveG (product exG exG).1).1.length ∧ n = ((solveG (product exG exG).1).1.take i).count true) (fun ⟨i, n⟩ => (solveG (product exG exG).1).1.length - i) (0, 0) [] rfl ⟨by omega, by simp⟩ (.c rfl (.c rfl (.base 0 rfl rfl))) ?_
  rintro ⟨i, n⟩ ⟨hi, hn⟩ ih0
  dsimp only [List.cons_append, List.nil_append] at ih0 ⊢
  refine XK.seq ?_
  refine XK.region rfl ?_
  refine XO.q (Q.lss rfl rfl) ?_
  refine XO.done ?_
  refine XK.seq ?_
  refine XK.if rfl (fun c0 => ?_) (fun c0 => ?_)
  · have _t0 := True.intro
    have hni := List.count_le_length (a := true) (l := (solveG (product exG exG).1).1.take i)
    rw [List.length_take, ← hn] at hni
    refine XK.skip ?_
    refine XK.seq ?_
    refine XK.block ?_
    refine XK.seq ?_
    refine XK.region rfl ?_
    refine XO.ix rfl rfl (by omega) (by omega) fun i45 => ?_
    refine XO.q (Q.ldE rfl (by first | assumption | omega) rfl) ?_
    refine XO.q (Q.assign rfl) ?_
    refine XO.done ?_
    refine XK.seq ?_
    refine XK.region rfl ?_
    refine XO.q (Q.move rfl) ?_
    refine XO.done ?_
    refine XK.if rfl (fun c1 => ?_) (fun c1 => ?_)
    · have _t1 := True.intro
      refine XK.region rfl ?_
      refine XO.q (Q.move rfl) ?_
      refine XO.q (Q.add rfl rfl ⟨by omega, by omega⟩) ?_
      refine XO.q (Q.assign rfl) ?_
      refine XO.done ?_
      refine XK.inBlock ?_
      refine XK.region rfl ?_
      refine XO.q (Q.add rfl rfl ⟨by omega, by omega⟩) ?_
      refine XO.q (Q.move rfl) ?_
      refine XO.done ?_
      exact ih0 (i + 1, n + 1) _ _ ⟨by dsimp only; omega, by dsimp only; rw [count_snoc (by omega), if_pos c1, hn]⟩ (by first | omega | (dsimp only; omega)) (.c rfl (.c rfl (.base 22 rfl rfl))) inferInstance
    · have _t1 := True.intro
      refine XK.skip ?_
      refine XK.inBlock ?_
      refine XK.region rfl ?_
      refine XO.q (Q.add rfl rfl ⟨by omega, by omega⟩) ?_
      refine XO.q (Q.move rfl) ?_
      refine XO.done ?_
      exact ih0 (i + 1, n) _ _ ⟨by dsimp only; omega, by dsimp only; rw [count_snoc (by omega), if_neg c1, hn]; rfl⟩ (by first | omega | (dsimp only; omega)) (.c rfl (.c rfl (.base 19 rfl rfl))) inferInstance
  · have _t0 := True.intro
    have hn4 : n = 4 := by rw [hn, List.take_of_length_le (by omega), ex10]
    subst hn4
    refine XK.exit rfl ?_
    refine XK.seq ?_
    refine XK.region rfl ?_
    refine XO.q (Q.move rfl) ?_
    refine XO.q (Q.eql rfl rfl) ?_
    refine XO.q (Q.move rfl) ?_
    refine XO.q (Quiet.guardT rfl rfl fun g54 p54 => Q.move rfl) ?_
    refine XO.q (Quiet.guardT rfl rfl fun g55 p55 => Q.eql (lzv g55 rfl) rfl) ?_
    refine XO.q (Q.and rfl (fun hp => lzv hp rfl)) ?_
    refine XO.q (Q.move rfl) ?_
    refine XO.q (Quiet.guardT rfl rfl fun g58 p58 => Q.move rfl) ?_
    refine XO.q (Quiet.guardT rfl rfl fun g59 p59 => Q.eql (lzv g59 rfl) rfl) ?_
    refine XO.q (Q.and rfl (fun hp => lzv hp rfl)) ?_
    refine XO.q (Q.move rfl) ?_
    refine XO.q (Quiet.guardT rfl rfl fun g62 p62 => Q.move rfl) ?_
    refine XO.q (Quiet.guardT rfl rfl fun g63 p63 => Q.eql (lzv g63 rfl) rfl) ?_
    refine XO.q (Q.and rfl (fun hp => lzv hp rfl)) ?_
    refine XO.q (Q.move rfl) ?_
    refine XO.q (Quiet.guardT rfl rfl fun g66 p66 => Q.move rfl) ?_
    refine XO.q (Quiet.guardT rfl rfl fun g67 p67 => Q.eql (lzv g67 rfl) rfl) ?_
    refine XO.q (Q.and rfl (fun hp => lzv hp rfl)) ?_
    refine XO.q (Q.move rfl) ?_
    refine XO.q (Quiet.guardT rfl rfl fun g70 p70 => Q.fieldAddr rfl) ?_
    refine XO.q (Quiet.guardT rfl rfl fun g71 p71 => Q.ld (lzv g71 rfl) rfl) ?_
    refine XO.litG [_, _, _] [_, _, _] [_, _, _] encB rfl rfl (by simp [ex1, ex2, ex3, ex4, ex5, ex6, ex7, ex8, ex9, ex10]) (by rfl) (by rfl) rfl (by rfl) (by exact .c 0 1 rfl rfl rfl (.c 1 1 rfl rfl rfl (.c 2 1 rfl rfl rfl (.n _)))) (fun _ => rfl) (by rfl) rfl (by infer_instance) rfl fun v72 h72 O72 => ?_
    refine XO.gcallT rfl rfl Try.call27 rfl (fun g73 => .c (lzv g73 rfl) (.c rfl .n)) rfl (fun g73 p73 => equalB _ _ _ _ _ _) ?_
    refine XO.q (Q.and rfl (fun hp => lzv hp rfl)) ?_
    refine XO.q (Q.move rfl) ?_
    refine XO.q (Quiet.guardT rfl rfl fun g76 p76 => Q.fieldAddr rfl) ?_
    refine XO.q (Quiet.guardT rfl rfl fun g77 p77 => Q.ld (lzv g77 rfl) rfl) ?_
    refine XO.litG [_, _, _] [_, _, _] [_, _, _] encI rfl rfl (by simp [ex1, ex2, ex3, ex4, ex5, ex6, ex7, ex8, ex9, ex10]) (by rfl) (by rfl) rfl (by rfl) (by exact .c 0 1 rfl rfl rfl (.c 1 1 rfl rfl rfl (.c 2 1 rfl rfl rfl (.n _)))) (fun _ => rfl) (by rfl) rfl (by infer_instance) rfl fun v78 h78 O78 => ?_
    refine XO.gcallT rfl rfl Try.call37 rfl (fun g79 => .c (lzv g79 rfl) (.c rfl .n)) rfl (fun g79 p79 => equalI _ _ _ _ _ _) ?_
    refine XO.q (Q.and rfl (fun hp => lzv hp rfl)) ?_
    refine XO.q (Q.move rfl) ?_
    refine XO.q (Quiet.guardT rfl rfl fun g82 p82 => Q.fieldAddr rfl) ?_
    refine XO.q (Quiet.guardT rfl rfl fun g83 p83 => Q.ld (lzv g83 rfl) rfl) ?_
    refine XO.litG [_, _, _] [_, _, _] [_, _, _] encI rfl rfl (by simp [ex1, ex2, ex3, ex4, ex5, ex6, ex7, ex8, ex9, ex10]) (by rfl) (by rfl) rfl (by rfl) (by exact .c 0 1 rfl rfl rfl (.c 1 1 rfl rfl rfl (.c 2 1 rfl rfl rfl (.n _)))) (fun _ => rfl) (by rfl) rfl (by infer_instance) rfl fun v84 h84 O84 => ?_
    refine XO.gcallT rfl rfl Try.call37 rfl (fun g85 => .c (lzv g85 rfl) (.c rfl .n)) rfl (fun g85 p85 => equalI _ _ _ _ _ _) ?_
    refine XO.q (Q.and rfl (fun hp => lzv hp rfl)) ?_
    refine XO.q (Q.move rfl) ?_
    refine XO.q (Quiet.guardT rfl rfl fun g88 p88 => Q.fieldAddr rfl) ?_
    refine XO.q (Quiet.guardT rfl rfl fun g89 p89 => Q.ld (lzv g89 rfl) rfl) ?_
    refine XO.litG [_, _, _] [_, _, _] [_, _, _] encI rfl rfl (by simp [ex1, ex2, ex3, ex4, ex5, ex6, ex7, ex8, ex9, ex10]) (by rfl) (by rfl) rfl (by rfl) (by exact .c 0 1 rfl rfl rfl (.c 1 1 rfl rfl rfl (.c 2 1 rfl rfl rfl (.n _)))) (fun _ => rfl) (by rfl) rfl (by infer_instance) rfl fun v90 h90 O90 => ?_
    refine XO.gcallT rfl rfl Try.call37 rfl (fun g91 => .c (lzv g91 rfl) (.c rfl .n)) rfl (fun g91 p91 => equalI _ _ _ _ _ _) ?_
    refine XO.q (Q.and rfl (fun hp => lzv hp rfl)) ?_
    refine XO.q (Q.move rfl) ?_
    refine XO.q (Quiet.guardT rfl rfl fun g94 p94 => Q.move rfl) ?_
    refine XO.q (Quiet.guardT rfl rfl fun g95 p95 => Q.eql (lzv g95 rfl) rfl) ?_
    refine XO.q (Q.and rfl (fun hp => lzv hp rfl)) ?_
    refine XO.q (Q.assign rfl) ?_
    refine XO.done ?_
    refine XK.rt [] Try.func11 Try.results11 (.t rfl .n) ?_
    exact ⟨by simp [ex1, ex2, ex3, ex4, ex5, ex6, ex7, ex8, ex9, ex10], rfl⟩
end Go.X
