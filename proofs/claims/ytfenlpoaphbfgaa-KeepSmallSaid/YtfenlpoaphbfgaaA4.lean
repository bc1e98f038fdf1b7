/- A part of the proof: a small program logic, plain laws and contracts of functions, each proved by a walk through its operations. No condition but those that stand in each theorem. -/
import Derived.Test.YtfenlpoaphbfgaaA3
set_option linter.unusedSimpArgs false
set_option linter.unusedVariables false
set_option maxRecDepth 20000
namespace Go.X
open Go.Proofs
theorem Solve_spec (g : G) (vn vg : Value) (hn hg : PHeap) [sn : Arr vn encI 1 hn g.next] [sg : Arr vg encB 1 hg g.good] : Spec Try.prog 20 #[.agg #[.int .i64 g.S, .int .i64 g.C, .int .i64 g.K, vn, vg]] [] [hn, hg] (fun v hs => ∃ v1 v2 v3 k1 k2 k3, v = .tuple #[.agg #[v1, v2, v3], .int .i64 (gcheck g)] ∧ hs = [k1, k2, k3] ∧ OArr v1 encB 1 4 k1 (solveG g).1 ∧ OArr v2 encI 1 3 k2 (solveG g).2.1 ∧ OArr v3 encI 1 3 k3 (solveG g).2.2) := by
  refine Spec.intro (fn := Try.f20) (N := 13) Try.func20 rfl Try.ntmps20 rfl fun B => ?_
  refine XK.seq ?_
  refine XK.region rfl ?_
  refine XO.box rfl fun b1 => ?_
  refine XO.alloc fun b2 => ?_
  refine XO.q (Q.assign rfl) ?_
  refine XO.done ?_
  refine XK.seq ?_
  refine XK.seq ?_
  refine XK.region rfl ?_
  refine XO.q (Q.ldA [_, _, _, _, _] rfl rfl rfl) ?_
  refine XO.call Try.call38 rfl rfl rfl (check _ _ _ _ _) fun v6 s6 R6 => ?_
  obtain ⟨rfl, rfl⟩ := R6
  dsimp only [List.cons_append, List.nil_append]
  refine XO.q (Q.assign rfl) ?_
  refine XO.done ?_
  refine XK.seq ?_
  refine XK.region rfl ?_
  refine XO.q (Q.move rfl) ?_
  refine XO.q (Q.neq rfl rfl) ?_
  refine XO.done ?_
  refine XK.if rfl (fun c0 => ?_) (fun c0 => ?_)
  · have _t0 := True.intro
    refine XK.seq ?_
    refine XK.region rfl ?_
    refine XO.q (Q.build [_, _, _] (.n _)) ?_
    refine XO.q (Q.move rfl) ?_
    refine XO.st rfl rfl rfl ?_
    refine XO.q (Q.assign rfl) ?_
    refine XO.done ?_
    refine XK.rt [emp, emp, emp] Try.func20 Try.results20 (.cell [_, _, _] rfl rfl rfl (.t rfl .n)) ?_
    have hw : solveG g = ([], [], []) := by rw [solveG, if_pos c0]
    rw [hw]
    exact ⟨.slice none 0 0, .slice none 0 0, .slice none 0 0, emp, emp, emp, rfl, rfl, OArr.nil (fun _ => rfl), OArr.nil (fun _ => rfl), OArr.nil (fun _ => rfl)⟩
  · have _t0 := True.intro
    obtain ⟨S, C, K, hS, hC, hK, ok⟩ := gcheck_ok (Decidable.of_not_not c0)
    obtain ⟨gS, gC, gK, next, good⟩ := g
    dsimp only at hS hC hK ok sn sg ⊢
    subst hS hC hK
    refine XK.skip ?_
    refine XK.seq ?_
    refine XK.region rfl ?_
    refine XO.q (Q.ldA [_, _, _, _, _] rfl rfl rfl) ?_
    refine XO.call Try.call46 rfl rfl rfl (solve_spec S C K next good ok vn vg hn hg) fun v12 s12 R12 => ?_
    obtain ⟨v1, v2, v3, k1, k2, k3, rfl, rfl, O1, O2, O3⟩ := R12
    dsimp only [List.cons_append, List.nil_append]
    refine XO.st rfl rfl rfl ?_
    refine XO.q (Q.assign rfl) ?_
    refine XO.done ?_
    refine XK.rt [k1, k2, k3] Try.func20 Try.results20 (.cell [_, _, _] rfl rfl rfl (.t rfl .n)) ?_
    have hw : solveG ⟨S, C, K, next, good⟩ = solved S C K next good := by rw [solveG, if_neg c0]; simp
    have hw0 : gcheck ⟨S, C, K, next, good⟩ = 0 := Decidable.of_not_not c0
    rw [hw, hw0]
    exact ⟨v1, v2, v3, k1, k2, k3, rfl, rfl, O1, O2, O3⟩
theorem example_spec : Spec Try.prog 29 #[] [] [] (fun v hs => ∃ v1 v2 k1 k2, v = .agg #[.int .i64 exG.S, .int .i64 exG.C, .int .i64 exG.K, v1, v2] ∧ hs = [k1, k2] ∧ OArr v1 encI 1 3 k1 exG.next ∧ OArr v2 encB 1 4 k2 exG.good) := by
  refine Spec.intro (fn := Try.f29) (N := 4) Try.func29 rfl Try.ntmps29 rfl fun B => ?_
  refine XK.seq ?_
  refine XK.region rfl ?_
  refine XO.alloc fun b0 => ?_
  refine XO.done ?_
  refine XK.seq ?_
  refine XK.region rfl ?_
  refine XO.lit [_, _, _, _, _, _, _, _, _, _, _, _] [_, _, _, _, _, _, _, _, _, _, _, _] [_, _, _, _, _, _, _, _, _, _, _, _] encI (by rfl) (by rfl) rfl (by rfl) (by exact .c 0 1 rfl rfl rfl (.c 1 1 rfl rfl rfl (.c 2 1 rfl rfl rfl (.c 3 1 rfl rfl rfl (.c 4 1 rfl rfl rfl (.c 5 1 rfl rfl rfl (.c 6 1 rfl rfl rfl (.c 7 1 rfl rfl rfl (.c 8 1 rfl rfl rfl (.c 9 1 rfl rfl rfl (.c 10 1 rfl rfl rfl (.c 11 1 rfl rfl rfl (.n _))))))))))))) (fun _ => rfl) (by rfl) rfl (by infer_instance) rfl fun v1 h1 O1 => ?_
  refine XO.lit [_, _, _] [_, _, _] [_, _, _] encB (by rfl) (by rfl) rfl (by rfl) (by exact .c 0 1 rfl rfl rfl (.c 1 1 rfl rfl rfl (.c 2 1 rfl rfl rfl (.n _)))) (fun _ => rfl) (by rfl) rfl (by infer_instance) rfl fun v2 h2 O2 => ?_
  refine XO.q (Q.build [_, _, _, _, _] (.c 0 1 rfl rfl rfl (.c 1 1 rfl rfl rfl (.c 2 1 rfl rfl rfl (.c 3 1 rfl rfl rfl (.c 4 1 rfl rfl rfl (.n _))))))) ?_
  refine XO.st rfl rfl rfl ?_
  refine XO.done ?_
  refine XK.rt [h1, h2] Try.func29 Try.results29 (.cell [_, _, _, _, _] rfl rfl rfl (.n)) ?_
  exact ⟨v1, v2, h1, h2, rfl, rfl, O1, O2⟩
theorem awake_spec : Spec Try.prog 11 #[] [] [] (fun v hs => v = .bool true ∧ hs = []) := by
  refine Spec.intro (fn := Try.f11) (N := 97) Try.func11 rfl Try.ntmps11 rfl fun B => ?_
  refine XK.seq ?_
  refine XK.region rfl ?_
  refine XO.q (Q.assign rfl) ?_
  refine XO.done ?_
  refine XK.seq ?_
  refine XK.region rfl ?_
  refine XO.call Try.call29 rfl rfl rfl (example_spec) fun v15 s15 R15 => ?_
  obtain ⟨x15, y15, kx15, ky15, rfl, rfl, OX15, OY15⟩ := R15
  dsimp only [List.cons_append, List.nil_append]
  refine XO.call Try.call20 rfl rfl rfl (Solve_spec exG x15 y15 kx15 ky15) fun v16 s16 R16 => ?_
  obtain ⟨p16, q16, r16, kp16, kq16, kr16, rfl, rfl, OP16, OQ16, OR16⟩ := R16
  dsimp only [List.cons_append, List.nil_append]
  refine XO.q (Q.move rfl) ?_
  refine XO.q (Q.extract rfl rfl) ?_
  refine XO.q (Q.extract rfl rfl) ?_
  refine XO.alloc fun b1 => ?_
  refine XO.st rfl rfl rfl ?_
  refine XO.q (Q.assign rfl) ?_
  refine XO.done ?_
  refine XK.seq ?_
  refine XK.region rfl ?_
  refine XO.call Try.call29 rfl rfl rfl (example_spec) fun v20 s20 R20 => ?_
  obtain ⟨x20, y20, kx20, ky20, rfl, rfl, OX20, OY20⟩ := R20
  dsimp only [List.cons_append, List.nil_append]
  refine XO.call Try.call16 rfl rfl rfl (without_spec exG x20 y20 kx20 ky20 1) fun v21 s21 R21 => ?_
  obtain ⟨x21, y21, kx21, ky21, rfl, rfl, OX21, OY21⟩ := R21
  dsimp only [List.cons_append, List.nil_append]
  refine XO.q (Q.move rfl) ?_
  refine XO.q (Q.extract rfl rfl) ?_
  refine XO.q (Q.extract rfl rfl) ?_
  refine XO.alloc fun b3 => ?_
  refine XO.st rfl rfl rfl ?_
  refine XO.q (Q.assign rfl) ?_
  refine XO.done ?_
  refine XK.seq ?_
  refine XK.region rfl ?_
  refine XO.q (Q.ldA [_, _, _, _, _] rfl rfl rfl) ?_
  refine XO.call Try.call20 rfl rfl rfl (Solve_spec (without exG 1).1 x21 y21 kx21 ky21) fun v26 s26 R26 => ?_
  obtain ⟨p26, q26, r26, kp26, kq26, kr26, rfl, rfl, OP26, OQ26, OR26⟩ := R26
  dsimp only [List.cons_append, List.nil_append]
  refine XO.q (Q.move rfl) ?_
  refine XO.q (Q.extract rfl rfl) ?_
  refine XO.q (Q.extract rfl rfl) ?_
  refine XO.alloc fun b5 => ?_
  refine XO.st rfl rfl rfl ?_
  refine XO.q (Q.assign rfl) ?_
  refine XO.done ?_
  refine XK.seq ?_
  refine XK.region rfl ?_
  refine XO.call Try.call29 rfl rfl rfl (example_spec) fun v30 s30 R30 => ?_
  obtain ⟨x30, y30, kx30, ky30, rfl, rfl, OX30, OY30⟩ := R30
  dsimp only [List.cons_append, List.nil_append]
  refine XO.call Try.call29 rfl rfl rfl (example_spec) fun v31 s31 R31 => ?_
  obtain ⟨x31, y31, kx31, ky31, rfl, rfl, OX31, OY31⟩ := R31
  dsimp only [List.cons_append, List.nil_append]
  refine XO.call Try.call13 rfl rfl rfl (product_spec exG exG x30 y30 x31 y31 kx30 ky30 kx31 ky31) fun v32 s32 R32 => ?_
  obtain ⟨x32, y32, kx32, ky32, rfl, rfl, OX32, OY32⟩ := R32
  dsimp only [List.cons_append, List.nil_append]
  refine XO.q (Q.move rfl) ?_
  refine XO.q (Q.extract rfl rfl) ?_
  refine XO.q (Q.extract rfl rfl) ?_
  refine XO.alloc fun b7 => ?_
  refine XO.st rfl rfl rfl ?_
  refine XO.q (Q.assign rfl) ?_
  refine XO.done ?_
  refine XK.seq ?_
  refine XK.region rfl ?_
  refine XO.q (Q.ldA [_, _, _, _, _] rfl rfl rfl) ?_
  refine XO.call Try.call20 rfl rfl rfl (Solve_spec (product exG exG).1 x32 y32 kx32 ky32) fun v37 s37 R37 => ?_
  obtain ⟨p37, q37, r37, kp37, kq37, kr37, rfl, rfl, OP37, OQ37, OR37⟩ := R37
  dsimp only [List.cons_append, List.nil_append]
  refine XO.q (Q.move rfl) ?_
  refine XO.q (Q.extract rfl rfl) ?_
  refine XO.q (Q.extract rfl rfl) ?_
  refine XO.alloc fun b9 => ?_
  refine XO.st rfl rfl rfl ?_
  refine XO.q (Q.assign rfl) ?_
  refine XO.done ?_
  refine XK.seq ?_
  refine XK.region rfl ?_
  refine XO.q (Q.assign rfl) ?_
  refine XO.done ?_
  refine XK.seq ?_
  refine XK.seq ?_
  refine XK.region rfl ?_
  refine XO.q (Q.fieldAddr rfl) ?_
  refine XO.q (Q.ld rfl rfl) ?_
  refine XO.len rfl fun l42 => ?_
  refine XO.q (Q.move rfl) ?_
  refine XO.done ?_
  refine XK.block ?_
  refine XK.while (X := Nat × Nat) [11, 13, 43, 44, 45, 46, 47, 48, 49, 50] (fun ⟨i, n⟩ => [(43, some (.int .i64 (i : Nat))), (11, some (.int .i64 (n : Nat)))]) (fun ⟨i, n⟩ => []) (fun ⟨i, n⟩ => i ≤ (solveG (product exG exG).1).1.length ∧ n = ((solveG (product exG exG).1).1.take i).count true) (fun ⟨i, n⟩ => (solveG (product exG exG).1).1.length - i) (0, 0) [] rfl ⟨by omega, by simp⟩ (.c rfl (.c rfl (.base 0 rfl rfl))) ?_
  rintro ⟨i, n⟩ ⟨hi, hn⟩ ih0
  dsimp only [List.cons_append, List.nil_append] at ih0 ⊢
  refine XK.seq ?_
  refine XK.region rfl ?_
  refine XO.q (Q.lss rfl rfl) ?_
  refine XO.done ?_
  refine XK.seq ?_
  refine XK.if rfl (fun c0 => ?_) (fun c0 => ?_)
  · have _t0 := True.intro
    have hni := List.count_le_length (a := true) (l := (solveG (product exG exG).1).1.take i)
    rw [List.length_take, ← hn] at hni
    refine XK.skip ?_
    refine XK.seq ?_
    refine XK.block ?_
    refine XK.seq ?_
    refine XK.region rfl ?_
    refine XO.ix rfl rfl (by omega) (by omega) fun i45 => ?_
    refine XO.q (Q.ldE rfl (by first | assumption | omega) rfl) ?_
    refine XO.q (Q.assign rfl) ?_
    refine XO.done ?_
    refine XK.seq ?_
    refine XK.region rfl ?_
    refine XO.q (Q.move rfl) ?_
    refine XO.done ?_
    refine XK.if rfl (fun c1 => ?_) (fun c1 => ?_)
    · have _t1 := True.intro
      refine XK.region rfl ?_
      refine XO.q (Q.move rfl) ?_
      refine XO.q (Q.add rfl rfl ⟨by omega, by omega⟩) ?_
      refine XO.q (Q.assign rfl) ?_
      refine XO.done ?_
      refine XK.inBlock ?_
      refine XK.region rfl ?_
      refine XO.q (Q.add rfl rfl ⟨by omega, by omega⟩) ?_
      refine XO.q (Q.move rfl) ?_
      refine XO.done ?_
      exact ih0 (i + 1, n + 1) _ _ ⟨by dsimp only; omega, by dsimp only; rw [count_snoc (by omega), if_pos c1, hn]⟩ (by first | omega | (dsimp only; omega)) (.c rfl (.c rfl (.base 22 rfl rfl))) inferInstance
    · have _t1 := True.intro
      refine XK.skip ?_
      refine XK.inBlock ?_
      refine XK.region rfl ?_
      refine XO.q (Q.add rfl rfl ⟨by omega, by omega⟩) ?_
      refine XO.q (Q.move rfl) ?_
      refine XO.done ?_
      exact ih0 (i + 1, n) _ _ ⟨by dsimp only; omega, by dsimp only; rw [count_snoc (by omega), if_neg c1, hn]; rfl⟩ (by first | omega | (dsimp only; omega)) (.c rfl (.c rfl (.base 19 rfl rfl))) inferInstance
  · have _t0 := True.intro
    have hn4 : n = 4 := by rw [hn, List.take_of_length_le (by omega), ex10]
    subst hn4
    refine XK.exit rfl ?_
    refine XK.seq ?_
    refine XK.region rfl ?_
    refine XO.q (Q.move rfl) ?_
    refine XO.q (Q.eql rfl rfl) ?_
    refine XO.q (Q.move rfl) ?_
    refine XO.q (Quiet.guardT rfl rfl fun g54 p54 => Q.move rfl) ?_
    refine XO.q (Quiet.guardT rfl rfl fun g55 p55 => Q.eql (lzv g55 rfl) rfl) ?_
    refine XO.q (Q.and rfl (fun hp => lzv hp rfl)) ?_
    refine XO.q (Q.move rfl) ?_
    refine XO.q (Quiet.guardT rfl rfl fun g58 p58 => Q.move rfl) ?_
    refine XO.q (Quiet.guardT rfl rfl fun g59 p59 => Q.eql (lzv g59 rfl) rfl) ?_
    refine XO.q (Q.and rfl (fun hp => lzv hp rfl)) ?_
    refine XO.q (Q.move rfl) ?_
    refine XO.q (Quiet.guardT rfl rfl fun g62 p62 => Q.move rfl) ?_
    refine XO.q (Quiet.guardT rfl rfl fun g63 p63 => Q.eql (lzv g63 rfl) rfl) ?_
    refine XO.q (Q.and rfl (fun hp => lzv hp rfl)) ?_
    refine XO.q (Q.move rfl) ?_
    refine XO.q (Quiet.guardT rfl rfl fun g66 p66 => Q.move rfl) ?_
    refine XO.q (Quiet.guardT rfl rfl fun g67 p67 => Q.eql (lzv g67 rfl) rfl) ?_
    refine XO.q (Q.and rfl (fun hp => lzv hp rfl)) ?_
    refine XO.q (Q.move rfl) ?_
    refine XO.q (Quiet.guardT rfl rfl fun g70 p70 => Q.fieldAddr rfl) ?_
    refine XO.q (Quiet.guardT rfl rfl fun g71 p71 => Q.ld (lzv g71 rfl) rfl) ?_
    refine XO.litG [_, _, _] [_, _, _] [_, _, _] encB rfl rfl (by simp [ex1, ex2, ex3, ex4, ex5, ex6, ex7, ex8, ex9, ex10]) (by rfl) (by rfl) rfl (by rfl) (by exact .c 0 1 rfl rfl rfl (.c 1 1 rfl rfl rfl (.c 2 1 rfl rfl rfl (.n _)))) (fun _ => rfl) (by rfl) rfl (by infer_instance) rfl fun v72 h72 O72 => ?_
    refine XO.gcallT rfl rfl Try.call27 rfl (fun g73 => .c (lzv g73 rfl) (.c rfl .n)) rfl (fun g73 p73 => equalB _ _ _ _ _ _) ?_
    refine XO.q (Q.and rfl (fun hp => lzv hp rfl)) ?_
    refine XO.q (Q.move rfl) ?_
    refine XO.q (Quiet.guardT rfl rfl fun g76 p76 => Q.fieldAddr rfl) ?_
    refine XO.q (Quiet.guardT rfl rfl fun g77 p77 => Q.ld (lzv g77 rfl) rfl) ?_
    refine XO.litG [_, _, _] [_, _, _] [_, _, _] encI rfl rfl (by simp [ex1, ex2, ex3, ex4, ex5, ex6, ex7, ex8, ex9, ex10]) (by rfl) (by rfl) rfl (by rfl) (by exact .c 0 1 rfl rfl rfl (.c 1 1 rfl rfl rfl (.c 2 1 rfl rfl rfl (.n _)))) (fun _ => rfl) (by rfl) rfl (by infer_instance) rfl fun v78 h78 O78 => ?_
    refine XO.gcallT rfl rfl Try.call37 rfl (fun g79 => .c (lzv g79 rfl) (.c rfl .n)) rfl (fun g79 p79 => equalI _ _ _ _ _ _) ?_
    refine XO.q (Q.and rfl (fun hp => lzv hp rfl)) ?_
    refine XO.q (Q.move rfl) ?_
    refine XO.q (Quiet.guardT rfl rfl fun g82 p82 => Q.fieldAddr rfl) ?_
    refine XO.q (Quiet.guardT rfl rfl fun g83 p83 => Q.ld (lzv g83 rfl) rfl) ?_
    refine XO.litG [_, _, _] [_, _, _] [_, _, _] encI rfl rfl (by simp [ex1, ex2, ex3, ex4, ex5, ex6, ex7, ex8, ex9, ex10]) (by rfl) (by rfl) rfl (by rfl) (by exact .c 0 1 rfl rfl rfl (.c 1 1 rfl rfl rfl (.c 2 1 rfl rfl rfl (.n _)))) (fun _ => rfl) (by rfl) rfl (by infer_instance) rfl fun v84 h84 O84 => ?_
    refine XO.gcallT rfl rfl Try.call37 rfl (fun g85 => .c (lzv g85 rfl) (.c rfl .n)) rfl (fun g85 p85 => equalI _ _ _ _ _ _) ?_
    refine XO.q (Q.and rfl (fun hp => lzv hp rfl)) ?_
    refine XO.q (Q.move rfl) ?_
    refine XO.q (Quiet.guardT rfl rfl fun g88 p88 => Q.fieldAddr rfl) ?_
    refine XO.q (Quiet.guardT rfl rfl fun g89 p89 => Q.ld (lzv g89 rfl) rfl) ?_
    refine XO.litG [_, _, _] [_, _, _] [_, _, _] encI rfl rfl (by simp [ex1, ex2, ex3, ex4, ex5, ex6, ex7, ex8, ex9, ex10]) (by rfl) (by rfl) rfl (by rfl) (by exact .c 0 1 rfl rfl rfl (.c 1 1 rfl rfl rfl (.c 2 1 rfl rfl rfl (.n _)))) (fun _ => rfl) (by rfl) rfl (by infer_instance) rfl fun v90 h90 O90 => ?_
    refine XO.gcallT rfl rfl Try.call37 rfl (fun g91 => .c (lzv g91 rfl) (.c rfl .n)) rfl (fun g91 p91 => equalI _ _ _ _ _ _) ?_
    refine XO.q (Q.and rfl (fun hp => lzv hp rfl)) ?_
    refine XO.q (Q.move rfl) ?_
    refine XO.q (Quiet.guardT rfl rfl fun g94 p94 => Q.move rfl) ?_
    refine XO.q (Quiet.guardT rfl rfl fun g95 p95 => Q.eql (lzv g95 rfl) rfl) ?_
    refine XO.q (Q.and rfl (fun hp => lzv hp rfl)) ?_
    refine XO.q (Q.assign rfl) ?_
    refine XO.done ?_
    refine XK.rt [] Try.func11 Try.results11 (.t rfl .n) ?_
    exact ⟨by simp [ex1, ex2, ex3, ex4, ex5, ex6, ex7, ex8, ex9, ex10], rfl⟩
end Go.X

set_option linter.unusedSimpArgs false
set_option linter.unusedVariables false
set_option maxRecDepth 20000
namespace Go.X
open Go.Proofs
theorem sameG_self (a : G) : sameG a a = true := by simp [sameG]
theorem KeepMakes_spec (a b : G) (vn vg wn wg : Value) (hn hg kn kg : PHeap) [sn : Arr vn encI 1 hn a.next] [sg : Arr vg encB 1 hg a.good] [tn : Arr wn encI 1 kn b.next] [tg : Arr wg encB 1 kg b.good] (u : Int) :
    Spec Try.prog 3 #[.agg #[.int .i64 a.S, .int .i64 a.C, .int .i64 a.K, vn, vg], .agg #[.int .i64 b.S, .int .i64 b.C, .int .i64 b.K, wn, wg], .int .i64 u] [] [hn, hg, kn, kg] (fun v hs => v = .bool true ∧ hs = []) := by
  refine Spec.intro (fn := Try.f3) (N := 86) Try.func3 rfl Try.ntmps3 rfl fun B => ?_
  refine XK.seq ?_
  refine XK.region rfl ?_
  refine XO.box rfl fun b3 => ?_
  refine XO.box rfl fun b4 => ?_
  refine XO.q (Q.assign rfl) ?_
  refine XO.done ?_
  refine XK.seq ?_
  refine XK.seq ?_
  refine XK.region rfl ?_
  refine XO.q (Q.ldA [_, _, _, _, _] rfl rfl rfl) ?_
  refine XO.call Try.call10 rfl rfl rfl (large a vn vg hn hg) fun v16 s16 R16 => ?_
  obtain ⟨rfl, rfl⟩ := R16
  dsimp only [List.cons_append, List.nil_append]
  refine XO.q (Q.move rfl) ?_
  refine XO.q (Quiet.guardF rfl rfl fun g18 p18 => Q.ldA [_, _, _, _, _] rfl rfl rfl) ?_
  refine XO.gcallF rfl rfl Try.call10 rfl (fun g19 => .c (lzv g19 rfl) .n) rfl (fun g19 p19 => large b wn wg kn kg) ?_
  refine XO.q (Q.or rfl (fun hp => lzv hp rfl)) ?_
  refine XO.done ?_
  refine XK.if rfl (fun c0 => ?_) (fun c0 => ?_)
  · have _t0 := True.intro
    refine XK.seq ?_
    refine XK.region rfl ?_
    refine XO.call Try.call11 rfl rfl rfl (awake_spec) fun v21 s21 R21 => ?_
    obtain ⟨rfl, rfl⟩ := R21
    dsimp only [List.cons_append, List.nil_append]
    refine XO.q (Q.assign rfl) ?_
    refine XO.done ?_
    refine XK.rt [] Try.func3 Try.results3 (.t rfl .n) ?_
    exact ⟨rfl, rfl⟩
  · have _t0 := True.intro
    refine XK.skip ?_
    refine XK.seq ?_
    refine XK.region rfl ?_
    refine XO.q (Q.ldA [_, _, _, _, _] rfl rfl rfl) ?_
    refine XO.call Try.call12 rfl rfl rfl (copied a vn vg hn hg (by omega) (by omega)) fun v24 s24 R24 => ?_
    obtain ⟨a24, b24, c24, d24, ka24, kb24, kc24, kd24, rfl, rfl, OA24, OB24, OC24, OD24⟩ := R24
    dsimp only [List.cons_append, List.nil_append]
    refine XO.q (Q.move rfl) ?_
    refine XO.q (Q.extract rfl rfl) ?_
    refine XO.q (Q.extract rfl rfl) ?_
    refine XO.alloc fun b7 => ?_
    refine XO.alloc fun b8 => ?_
    refine XO.st rfl rfl rfl ?_
    refine XO.st rfl rfl rfl ?_
    refine XO.done ?_
    refine XK.seq ?_
    refine XK.region rfl ?_
    refine XO.q (Q.ldA [_, _, _, _, _] rfl rfl rfl) ?_
    refine XO.call Try.call12 rfl rfl rfl (copied b wn wg kn kg (by omega) (by omega)) fun v29 s29 R29 => ?_
    obtain ⟨a29, b29, c29, d29, ka29, kb29, kc29, kd29, rfl, rfl, OA29, OB29, OC29, OD29⟩ := R29
    dsimp only [List.cons_append, List.nil_append]
    refine XO.q (Q.move rfl) ?_
    refine XO.q (Q.extract rfl rfl) ?_
    refine XO.q (Q.extract rfl rfl) ?_
    refine XO.alloc fun b9 => ?_
    refine XO.alloc fun b10 => ?_
    refine XO.st rfl rfl rfl ?_
    refine XO.st rfl rfl rfl ?_
    refine XO.done ?_
    refine XK.seq ?_
    refine XK.region rfl ?_
    refine XO.q (Q.ldA [_, _, _, _, _] rfl rfl rfl) ?_
    refine XO.q (Q.ldA [_, _, _, _, _] rfl rfl rfl) ?_
    refine XO.call Try.call13 rfl rfl rfl (product_spec a b a24 b24 a29 b29 ka24 kb24 ka29 kb29) fun v35 s35 R35 => ?_
    obtain ⟨x35, y35, kx35, ky35, rfl, rfl, OX35, OY35⟩ := R35
    dsimp only [List.cons_append, List.nil_append]
    refine XO.q (Q.move rfl) ?_
    refine XO.q (Q.extract rfl rfl) ?_
    refine XO.q (Q.extract rfl rfl) ?_
    refine XO.alloc fun b11 => ?_
    refine XO.st rfl rfl rfl ?_
    refine XO.q (Q.assign rfl) ?_
    refine XO.done ?_
    refine XK.seq ?_
    refine XK.region rfl ?_
    refine XO.q (Q.ldA [_, _, _, _, _] rfl rfl rfl) ?_
    refine XO.q (Q.ldA [_, _, _, _, _] rfl rfl rfl) ?_
    refine XO.call Try.call14 rfl rfl rfl (refProduct a b c24 d24 c29 d29 kc24 kd24 kc29 kd29) fun v41 s41 R41 => ?_
    obtain ⟨x41, y41, kx41, ky41, rfl, rfl, OX41, OY41⟩ := R41
    dsimp only [List.cons_append, List.nil_append]
    refine XO.q (Q.move rfl) ?_
    refine XO.q (Q.extract rfl rfl) ?_
    refine XO.q (Q.extract rfl rfl) ?_
    refine XO.alloc fun b13 => ?_
    refine XO.st rfl rfl rfl ?_
    refine XO.q (Q.assign rfl) ?_
    refine XO.done ?_
    refine XK.seq ?_
    refine XK.seq ?_
    refine XK.region rfl ?_
    refine XO.q (Q.ldA [_, _, _, _, _] rfl rfl rfl) ?_
    refine XO.q (Q.ldA [_, _, _, _, _] rfl rfl rfl) ?_
    refine XO.call Try.call15 rfl rfl rfl (alike (product a b).1 (product a b).1 x35 y35 x41 y41 kx35 ky35 kx41 ky41) fun v46 s46 R46 => ?_
    obtain ⟨rfl, rfl⟩ := R46
    dsimp only [List.cons_append, List.nil_append]
    refine XO.q (Q.not rfl) ?_
    refine XO.q (Q.move rfl) ?_
    refine XO.q (Quiet.guardF rfl rfl fun g49 p49 => Q.move rfl) ?_
    refine XO.q (Quiet.guardF rfl rfl fun g50 p50 => Q.move rfl) ?_
    refine XO.q (Quiet.guardF rfl rfl fun g51 p51 => Q.neq (lzv g51 rfl) (lzv g51 rfl)) ?_
    refine XO.q (Q.or rfl (fun hp => lzv hp rfl)) ?_
    refine XO.done ?_
    refine XK.if rfl (fun c1 => ?_) (fun c1 => ?_)
    · have _t1 := True.intro
      rw [sameG_self] at c1
      simp at c1
    · have _t1 := True.intro
      refine XK.skip ?_
      refine XK.seq ?_
      refine XK.region rfl ?_
      refine XO.q (Q.ldA [_, _, _, _, _] rfl rfl rfl) ?_
      refine XO.q (Q.move rfl) ?_
      refine XO.call Try.call16 rfl rfl rfl (without_spec a a24 b24 ka24 kb24 u) fun v56 s56 R56 => ?_
      obtain ⟨x56, y56, kx56, ky56, rfl, rfl, OX56, OY56⟩ := R56
      dsimp only [List.cons_append, List.nil_append]
      refine XO.q (Q.move rfl) ?_
      refine XO.q (Q.extract rfl rfl) ?_
      refine XO.q (Q.extract rfl rfl) ?_
      refine XO.st rfl rfl rfl ?_
      refine XO.q (Q.assign rfl) ?_
      refine XO.done ?_
      refine XK.seq ?_
      refine XK.region rfl ?_
      refine XO.q (Q.ldA [_, _, _, _, _] rfl rfl rfl) ?_
      refine XO.q (Q.move rfl) ?_
      refine XO.call Try.call17 rfl rfl rfl (refWithout a c24 d24 kc24 kd24 u) fun v62 s62 R62 => ?_
      obtain ⟨x62, y62, kx62, ky62, rfl, rfl, OX62, OY62⟩ := R62
      dsimp only [List.cons_append, List.nil_append]
      refine XO.q (Q.move rfl) ?_
      refine XO.q (Q.extract rfl rfl) ?_
      refine XO.q (Q.extract rfl rfl) ?_
      refine XO.st rfl rfl rfl ?_
      refine XO.q (Q.assign rfl) ?_
      refine XO.done ?_
      refine XK.seq ?_
      refine XK.region rfl ?_
      refine XO.q (Q.ldA [_, _, _, _, _] rfl rfl rfl) ?_
      refine XO.q (Q.ldA [_, _, _, _, _] rfl rfl rfl) ?_
      refine XO.call Try.call15 rfl rfl rfl (alike (without a u).1 (without a u).1 x56 y56 x62 y62 kx56 ky56 kx62 ky62) fun v67 s67 R67 => ?_
      obtain ⟨rfl, rfl⟩ := R67
      dsimp only [List.cons_append, List.nil_append]
      refine XO.q (Q.move rfl) ?_
      refine XO.q (Quiet.guardT rfl rfl fun g69 p69 => Q.move rfl) ?_
      refine XO.q (Quiet.guardT rfl rfl fun g70 p70 => Q.move rfl) ?_
      refine XO.q (Quiet.guardT rfl rfl fun g71 p71 => Q.eql (lzv g71 rfl) (lzv g71 rfl)) ?_
      refine XO.q (Q.and rfl (fun hp => lzv hp rfl)) ?_
      refine XO.q (Q.move rfl) ?_
      refine XO.q (Quiet.guardT rfl rfl fun g74 p74 => Q.ldA [_, _, _, _, _] rfl rfl rfl) ?_
      refine XO.q (Quiet.guardT rfl rfl fun g75 p75 => Q.ldA [_, _, _, _, _] rfl rfl rfl) ?_
      refine XO.gcallT rfl rfl Try.call18 rfl (fun g76 => .c (lzv g76 rfl) (.c (lzv g76 rfl) .n)) rfl (fun g76 p76 => kept a a a24 b24 vn vg ka24 kb24 hn hg) ?_
      refine XO.q (Q.and rfl (fun hp => lzv hp rfl)) ?_
      refine XO.q (Q.move rfl) ?_
      refine XO.q (Quiet.guardT rfl rfl fun g79 p79 => Q.ldA [_, _, _, _, _] rfl rfl rfl) ?_
      refine XO.q (Quiet.guardT rfl rfl fun g80 p80 => Q.ldA [_, _, _, _, _] rfl rfl rfl) ?_
      refine XO.gcallT rfl rfl Try.call18 rfl (fun g81 => .c (lzv g81 rfl) (.c (lzv g81 rfl) .n)) rfl (fun g81 p81 => kept b b a29 b29 wn wg ka29 kb29 kn kg) ?_
      refine XO.q (Q.and rfl (fun hp => lzv hp rfl)) ?_
      refine XO.q (Q.move rfl) ?_
      refine XO.gcallT rfl rfl Try.call11 rfl (fun g84 => .n) rfl (fun g84 p84 => awake_spec) ?_
      refine XO.q (Q.and rfl (fun hp => lzv hp rfl)) ?_
      refine XO.q (Q.assign rfl) ?_
      refine XO.done ?_
      refine XK.rt [] Try.func3 Try.results3 (.t rfl .n) ?_
      exact ⟨by simp [sameG_self], rfl⟩
end Go.X

set_option linter.unusedSimpArgs false
set_option linter.unusedVariables false
set_option maxRecDepth 20000
namespace Go.X
open Go.Proofs
theorem next_spec (b : Nat) (vl : Value) (hl : PHeap) (l : List UInt8) [sl : Arr vl encU8 1 hl l] (i n : Nat) (hi : i ≤ 1000000000) (hn : 0 < n) (hn2 : n ≤ 1000000) : Spec Try.prog 26 #[ptr b 0, .int .i64 (n : Nat)] [blk b [vl, .int .i64 (i : Nat)] 54] [hl]
    (fun v hs => hs = [blk b [vl, .int .i64 ((i + 1 : Nat) : Int)] 54] ∧ ∃ r : Nat, v = .int .i64 (r : Nat) ∧ r < n) := by
  refine Spec.intro (fn := Try.f26) (N := 36) Try.func26 rfl Try.ntmps26 rfl fun B => ?_
  refine XK.seq ?_
  refine XK.region rfl ?_
  refine XO.q (Q.assign rfl) ?_
  refine XO.done ?_
  refine XK.seq ?_
  refine XK.region rfl ?_
  refine XO.q (Q.move rfl) ?_
  refine XO.q (Q.nilCheck rfl) ?_
  refine XO.q (Q.fieldAddr rfl) ?_
  refine XO.q (Q.ld rfl rfl) ?_
  refine XO.q (Q.add rfl rfl ⟨by omega, by omega⟩) ?_
  rw [show ((i : Int) + 1) = ((i + 1 : Nat) : Int) from rfl]
  refine XO.q (Q.nilCheck rfl) ?_
  refine XO.q (Q.fieldAddr rfl) ?_
  refine XO.st rfl rfl rfl ?_
  refine XO.done ?_
  refine XK.seq ?_
  refine XK.seq ?_
  refine XK.drawn [0, 1, 2, 3, 4, 5, 6, 7, 8, 9] [b] [] (.q 0 (.q 1 (.q 2 (.q 3 (.q 4 (.q 5 (.q 6 (.q 7 (.q 8 (.q 9 .done)))))))))) Try.mixed rfl (by kernel_rfl) ?_
  refine XT.q rfl rfl (Q.move rfl) ?_
  refine XT.q rfl rfl (Q.nilCheck rfl) ?_
  refine XT.q rfl rfl (Q.fieldAddr rfl) ?_
  refine XT.q rfl rfl (Q.ld rfl rfl) ?_
  refine XT.q rfl rfl (Q.move rfl) ?_
  refine XT.q rfl rfl (Q.nilCheck rfl) ?_
  refine XT.q rfl rfl (Q.fieldAddr rfl) ?_
  refine XT.q rfl rfl (Q.ld rfl rfl) ?_
  refine XT.q rfl rfl (Q.len rfl) ?_
  refine XT.q rfl rfl (Q.gtr rfl rfl) ?_
  refine XT.done ?_
  refine XK.if rfl (fun c0 => ?_) (fun c0 => ?_)
  · have _t0 := True.intro
    refine XK.seq ?_
    refine XK.region rfl ?_
    refine XO.q (Q.assign rfl) ?_
    refine XO.done ?_
    refine XK.rt [blk b [vl, .int .i64 ((i + 1 : Nat) : Int)] 54] Try.func26 Try.results26 (.t rfl .n) ?_
    exact ⟨rfl, 0, rfl, hn⟩
  · have _t0 := True.intro
    refine XK.skip ?_
    refine XK.seq ?_
    refine XK.drawn [0, 1, 2, 3, 4, 5, 6, 7, 8, 9, 10, 11, 12, 13, 14] [b] [] (.q 0 (.q 1 (.q 2 (.q 3 (.q 4 (.q 5 (.q 6 (.q 7 (.q 8 (.q 9 (.q 10 (.q 11 (.q 12 (.q 13 (.q 14 .done))))))))))))))) Try.mixed rfl (by kernel_rfl) ?_
    refine XT.q rfl rfl (Q.move rfl) ?_
    refine XT.q rfl rfl (Q.nilCheck rfl) ?_
    refine XT.q rfl rfl (Q.fieldAddr rfl) ?_
    refine XT.q rfl rfl (Q.ld rfl rfl) ?_
    refine XT.q rfl rfl (Q.move rfl) ?_
    refine XT.q rfl rfl (Q.nilCheck rfl) ?_
    refine XT.q rfl rfl (Q.fieldAddr rfl) ?_
    refine XT.q rfl rfl (Q.ld rfl rfl) ?_
    refine XT.q rfl rfl (Q.sub rfl rfl ⟨by omega, by omega⟩) ?_
    rw [show (((i + 1 : Nat) : Int) - 1) = (i : Int) by omega]
    refine XT.ix rfl rfl rfl rfl (by omega) (by omega) fun i31 => ?_
    refine XT.q rfl rfl (Q.ldE rfl (by first | assumption | omega) rfl) ?_
    refine XT.q rfl rfl (Q.conv rfl) ?_
    have hu := (l.getD i default).toNat_lt
    rw [wrap64_of ⟨by omega, by omega⟩]
    refine XT.q rfl rfl (Q.move rfl) ?_
    refine XT.q rfl rfl (Q.rem rfl rfl (by omega) (by omega)) ?_
    rw [show ((((l.getD i default).toNat : Nat) : Int) % (n : Int)) = (((l.getD i default).toNat % n : Nat) : Int) from rfl]
    refine XT.q rfl rfl (Q.assign rfl) ?_
    refine XT.done ?_
    refine XK.rt [blk b [vl, .int .i64 ((i + 1 : Nat) : Int)] 54] Try.func26 Try.results26 (.t rfl .n) ?_
    exact ⟨rfl, (l.getD i default).toNat % n, rfl, Nat.mod_lt _ hn⟩
end Go.X

set_option linter.unusedSimpArgs false
set_option linter.unusedVariables false
set_option maxRecDepth 20000
namespace Go.X
open Go.Proofs
theorem gcheck_of {S C K : Nat} {next : List Int} {good : List Bool} (h1 : 1 ≤ S ∧ S ≤ 400) (h2 : 1 ≤ C ∧ C ≤ 16) (h3 : 1 ≤ K ∧ K ≤ 16) (hl : next.length = S * (C * K)) (hg : good.length = S) (hr : ∀ n ∈ next, -1 ≤ n ∧ n < S) :
    gcheck ⟨S, C, K, next, good⟩ = 0 := by
  have e : ((next.length : Nat) : Int) = (S : Int) * C * K := by rw [hl, ← Nat.mul_assoc]; simp
  unfold gcheck
  rw [if_neg (by dsimp only; omega), if_neg (by dsimp only; omega), if_neg]
  intro h
  obtain ⟨n, hn, hb⟩ := List.any_eq_true.1 h
  have := hr n hn
  simp only [Bool.or_eq_true, decide_eq_true_eq] at hb
  omega
theorem made_spec (vl : Value) (hl : PHeap) (l : List UInt8) [sl : Arr vl encU8 1 hl l] : Spec Try.prog 19 #[vl] [] [hl]
    (fun v hs => ∃ (g : G) (v1 v2 : Value) (k1 k2 : PHeap), v = .agg #[.int .i64 g.S, .int .i64 g.C, .int .i64 g.K, v1, v2] ∧ hs = [k1, k2] ∧ OArr v1 encI 1 3 k1 g.next ∧ OArr v2 encB 1 4 k2 g.good ∧ gcheck g = 0) := by
  refine Spec.intro (fn := Try.f19) (N := 81) Try.func19 rfl Try.ntmps19 rfl fun B => ?_
  have hnil : OArr (.slice none 0 0) encI 1 3 emp ([] : List Int) := OArr.nil (fun _ => rfl)
  have hnilB : OArr (.slice none 0 0) encB 1 4 emp ([] : List Bool) := OArr.nil (fun _ => rfl)
  refine XK.seq ?_
  refine XK.region rfl ?_
  refine XO.alloc fun b2 => ?_
  refine XO.done ?_
  refine XK.seq ?_
  refine XK.region rfl ?_
  refine XO.q (Q.move rfl) ?_
  refine XO.q (Q.build [_, _] (.c 0 1 rfl rfl rfl (.n _))) ?_
  refine XO.box rfl fun b10 => ?_
  refine XO.q (Q.assign rfl) ?_
  refine XO.done ?_
  refine XK.seq ?_
  refine XK.region rfl ?_
  refine XO.q (Q.move rfl) ?_
  refine XO.callB b10 Try.call26 rfl rfl rfl (next_spec b10 vl hl l (0) (16) (by omega) (by omega) (by omega)) fun v12 s12 R12 => ?_
  obtain ⟨rfl, n12, rfl, h12⟩ := R12
  dsimp only [List.cons_append, List.nil_append]
  refine XO.q (Q.add rfl rfl ⟨by omega, by omega⟩) ?_
  rw [show ((1 : Int) + (n12 : Int)) = ((1 + n12 : Nat) : Int) from rfl]
  refine XO.q (Q.move rfl) ?_
  refine XO.callB b10 Try.call26 rfl rfl rfl (next_spec b10 vl hl l (0 + 1) (3) (by omega) (by omega) (by omega)) fun v15 s15 R15 => ?_
  obtain ⟨rfl, n15, rfl, h15⟩ := R15
  dsimp only [List.cons_append, List.nil_append]
  refine XO.q (Q.add rfl rfl ⟨by omega, by omega⟩) ?_
  rw [show ((1 : Int) + (n15 : Int)) = ((1 + n15 : Nat) : Int) from rfl]
  refine XO.q (Q.move rfl) ?_
  refine XO.callB b10 Try.call26 rfl rfl rfl (next_spec b10 vl hl l (0 + 1 + 1) (3) (by omega) (by omega) (by omega)) fun v18 s18 R18 => ?_
  obtain ⟨rfl, n18, rfl, h18⟩ := R18
  dsimp only [List.cons_append, List.nil_append]
  refine XO.q (Q.add rfl rfl ⟨by omega, by omega⟩) ?_
  rw [show ((1 : Int) + (n18 : Int)) = ((1 + n18 : Nat) : Int) from rfl]
  refine XO.q (Q.build [_, _, _, _, _] (.c 0 1 rfl rfl rfl (.c 1 1 rfl rfl rfl (.c 2 1 rfl rfl rfl (.n _))))) ?_
  refine XO.alloc fun b4 => ?_
  refine XO.st rfl rfl rfl ?_
  obtain ⟨S, eS⟩ : ∃ S, S = 1 + n12 := ⟨_, rfl⟩
  obtain ⟨C, eC⟩ : ∃ C, C = 1 + n15 := ⟨_, rfl⟩
  obtain ⟨K, eK⟩ : ∃ K, K = 1 + n18 := ⟨_, rfl⟩
  rw [← eS, ← eC, ← eK]
  obtain ⟨M, eM⟩ : ∃ M, M = C * K := ⟨_, rfl⟩
  have hM : C * K ≤ 3 * 3 := Nat.mul_le_mul (by omega) (by omega)
  have eMi : (C : Int) * (K : Int) = (M : Int) := by rw [eM]; simp
  rw [← eM] at hM
  refine XO.done ?_
  refine XK.seq ?_
  refine XK.region rfl ?_
  refine XO.q (Q.move rfl) ?_
  refine XO.callB b10 Try.call26 rfl rfl rfl (next_spec b10 vl hl l (0 + 1 + 1 + 1) (12) (by omega) (by omega) (by omega)) fun v22 s22 R22 => ?_
  obtain ⟨rfl, n22, rfl, h22⟩ := R22
  dsimp only [List.cons_append, List.nil_append]
  refine XO.q (Q.add rfl rfl ⟨by omega, by omega⟩) ?_
  rw [show ((2 : Int) + (n22 : Int)) = ((2 + n22 : Nat) : Int) from rfl]
  refine XO.q (Q.assign rfl) ?_
  refine XO.done ?_
  refine XK.seq ?_
  refine XK.seq ?_
  refine XK.region rfl ?_
  refine XO.q (Q.fieldAddr rfl) ?_
  refine XO.q (Q.ld rfl rfl) ?_
  refine XO.q (Q.move rfl) ?_
  refine XO.done ?_
  refine XK.block ?_
  refine XK.while (X := Nat × Nat × List Int × Value × PHeap × List Bool × Value × PHeap) [6, 7, 26, 27, 28, 29, 30, 31, 32, 33, 34, 35, 36, 37, 38, 39, 40, 41, 42, 43, 44, 45, 46, 47, 48, 49, 50, 51, 52, 53, 54, 55, 56, 57, 58, 59, 60, 61, 62, 63, 64, 65, 66, 67, 68, 69, 70, 71, 72, 73, 74, 75, 76, 77, 78, 79] (fun ⟨s, i, nx, vN, hN, gd, vG, hG⟩ => [(26, some (.int .i64 (s : Nat)))]) (fun ⟨s, i, nx, vN, hN, gd, vG, hG⟩ => [blk b10 [vl, .int .i64 ((i : Nat) : Int)] 54, blk b4 [.int .i64 (S : Nat), .int .i64 (C : Nat), .int .i64 (K : Nat), vN, vG] 25, hN, hG]) (fun ⟨s, i, nx, vN, hN, gd, vG, hG⟩ => s ≤ S ∧ i ≤ 4 + s * 10 ∧ nx.length = s * M ∧ gd.length = s ∧ (∀ n ∈ nx, -1 ≤ n ∧ n < (S : Int)) ∧ OArr vN encI 1 3 hN nx ∧ OArr vG encB 1 4 hG gd) (fun ⟨s, i, nx, vN, hN, gd, vG, hG⟩ => S - s) (0, 0 + 1 + 1 + 1 + 1, [], .slice none 0 0, emp, [], .slice none 0 0, emp) [blk b10 [vl, .int .i64 ((0 + 1 + 1 + 1 + 1 : Nat) : Int)] 54, blk b4 [.int .i64 (S : Nat), .int .i64 (C : Nat), .int .i64 (K : Nat), .slice none 0 0, .slice none 0 0] 25, emp, emp] rfl ⟨by omega, by omega, by simp, rfl, (fun _ h => by cases h), hnil, hnilB⟩ (.c rfl (.base 0 rfl rfl)) ?_
  rintro ⟨s, i, nx, vN, hN, gd, vG, hG⟩ ⟨hs, hi, hnl, hgl, hnr, ON, OG⟩ ih0
  dsimp only [List.cons_append, List.nil_append] at ih0 ⊢
  refine XK.seq ?_
  refine XK.region rfl ?_
  refine XO.q (Q.lss rfl rfl) ?_
  refine XO.done ?_
  refine XK.seq ?_
  refine XK.if rfl (fun c0 => ?_) (fun c0 => ?_)
  · have _t0 := True.intro
    have hsm : s * M ≤ 16 * 9 := Nat.mul_le_mul (by omega) (by omega)
    refine XK.skip ?_
    refine XK.seq ?_
    refine XK.block ?_
    refine XK.seq ?_
    refine XK.region rfl ?_
    refine XO.q (Q.move rfl) ?_
    refine XO.q (Q.assign rfl) ?_
    refine XO.done ?_
    refine XK.seq ?_
    refine XK.drawn [0, 1, 2, 3, 5, 8] [b4] [] (.q 0 (.q 1 (.q 2 (.q 3 (.br 4 true (.q 5 (.br 6 true (.br 7 true (.q 8 (.br 9 false .done .stop)) .stop) .stop)) .stop))))) Try.mixed rfl (by kernel_rfl) ?_
    refine XT.q rfl rfl (Q.fieldAddr rfl) ?_
    refine XT.q rfl rfl (Q.ld rfl rfl) ?_
    refine XT.q rfl rfl (Q.move rfl) ?_
    refine XT.q rfl rfl (Q.move rfl) ?_
    refine XT.callB b10 rfl rfl Try.call26 rfl rfl rfl (next_spec b10 vl hl l (i) (2 + n22) (by omega) (by omega) (by omega)) (fun v33 s33 R33 => ?_) XT.stop
    obtain ⟨rfl, n33, rfl, h33⟩ := R33
    dsimp only [List.cons_append, List.nil_append]
    refine ⟨inferInstance, ?_⟩
    refine XT.q rfl rfl (Q.neq rfl rfl) ?_
    refine XT.lit [_] [_] [_] encB rfl rfl (by rfl) (by rfl) rfl (by rfl) (by exact .c 0 1 rfl rfl rfl (.n _)) (fun _ => rfl) (by rfl) rfl (by infer_instance) rfl (fun v35 h35 O35 => ⟨inferInstance, ?_⟩) XT.stop
    refine XT.append rfl rfl rfl rfl rfl rfl (by simp only [List.length_cons, List.length_nil]; omega) (fun v36 h36 O36 => ⟨inferInstance, ?_⟩) XT.stop
    refine XT.q rfl rfl (Q.fieldAddr rfl) ?_
    refine XT.st rfl rfl rfl rfl rfl ⟨inferInstance, ?_⟩ XT.stop
    refine XT.done ?_
    refine XK.seq ?_
    refine XK.region rfl ?_
    refine XO.q (Q.fieldAddr rfl) ?_
    refine XO.q (Q.ld rfl rfl) ?_
    refine XO.q (Q.fieldAddr rfl) ?_
    refine XO.q (Q.ld rfl rfl) ?_
    refine XO.q (Q.mul rfl rfl ⟨by omega, by omega⟩) ?_
    rw [eMi]
    refine XO.q (Q.move rfl) ?_
    refine XO.done ?_
    refine XK.block ?_
    refine XK.while (X := Nat × Nat × List Int × Value × PHeap) [7, 43, 44, 45, 46, 47, 48, 49, 50, 51, 52, 53, 54, 55, 56, 57, 58, 59, 60, 61, 62, 63, 64, 65, 66, 67, 68, 69, 70, 71, 72, 73, 74, 75, 76, 77, 78] (fun ⟨t, j, nx2, vM, hM⟩ => [(43, some (.int .i64 (t : Nat)))]) (fun ⟨t, j, nx2, vM, hM⟩ => [blk b10 [vl, .int .i64 ((j : Nat) : Int)] 54, blk b4 [.int .i64 (S : Nat), .int .i64 (C : Nat), .int .i64 (K : Nat), vM, v36] 25, hM]) (fun ⟨t, j, nx2, vM, hM⟩ => t ≤ M ∧ j ≤ 5 + s * 10 + t ∧ nx2.length = s * M + t ∧ (∀ n ∈ nx2, -1 ≤ n ∧ n < (S : Int)) ∧ OArr vM encI 1 3 hM nx2) (fun ⟨t, j, nx2, vM, hM⟩ => M - t) (0, i + 1, nx, vN, hN) [blk b10 [vl, .int .i64 ((i + 1 : Nat) : Int)] 54, blk b4 [.int .i64 (S : Nat), .int .i64 (C : Nat), .int .i64 (K : Nat), vN, v36] 25, hN] rfl ⟨by omega, by omega, by omega, hnr, ON⟩ (.c rfl (.base 0 rfl rfl)) ?_
    rintro ⟨t, j, nx2, vM, hM⟩ ⟨ht, hj, hml, hmr, OM⟩ ih1
    dsimp only [List.cons_append, List.nil_append] at ih1 ⊢
    refine XK.seq ?_
    refine XK.region rfl ?_
    refine XO.q (Q.lss rfl rfl) ?_
    refine XO.done ?_
    refine XK.seq ?_
    refine XK.if rfl (fun c1 => ?_) (fun c1 => ?_)
    · have _t1 := True.intro
      refine XK.skip ?_
      refine XK.seq ?_
      refine XK.block ?_
      refine XK.seq ?_
      refine XK.region rfl ?_
      refine XO.q (Q.move rfl) ?_
      refine XO.callB b10 Try.call26 rfl rfl rfl (next_spec b10 vl hl l (j) (256) (by omega) (by omega) (by omega)) fun v46 s46 R46 => ?_
      obtain ⟨rfl, n46, rfl, h46⟩ := R46
      dsimp only [List.cons_append, List.nil_append]
      refine XO.q (Q.assign rfl) ?_
      refine XO.done ?_
      refine XK.seq ?_
      refine XK.seq ?_
      refine XK.region rfl ?_
      refine XO.q (Q.move rfl) ?_
      refine XO.q (Q.eql rfl rfl) ?_
      refine XO.done ?_
      refine XK.meet (X := Int) [7, 49, 50, 51, 52, 53, 54, 55, 56, 57, 58, 59, 60, 61, 62, 63, 64, 65, 66, 67, 68, 69, 70, 71] (fun y => [(7, some (.int .i64 y))]) (fun y => []) (fun y => -1 ≤ y ∧ y < (S : Int)) [] ?_ ?_
      · rintro y hy
        dsimp only [List.cons_append, List.nil_append]
        refine XK.region rfl ?_
        refine XO.q (Q.fieldAddr rfl) ?_
        refine XO.q (Q.ld rfl rfl) ?_
        refine XO.q (Q.move rfl) ?_
        refine XO.lit [_] [_] [_] encI (by rfl) (by rfl) rfl (by rfl) (by exact .c 0 1 rfl rfl rfl (.n _)) (fun _ => rfl) (by rfl) rfl (by infer_instance) rfl fun v75 h75 O75 => ?_
        refine XO.append rfl rfl rfl rfl (by simp only [List.length_cons, List.length_nil]; omega) fun v76 h76 O76 => ?_
        refine XO.q (Q.fieldAddr rfl) ?_
        refine XO.st rfl rfl rfl ?_
        refine XO.done ?_
        refine XK.inBlock ?_
        refine XK.region rfl ?_
        refine XO.q (Q.add rfl rfl ⟨by omega, by omega⟩) ?_
        refine XO.q (Q.move rfl) ?_
        refine XO.done ?_
        exact ih1 (t + 1, j + 1, nx2 ++ [y], v76, h76) _ _ ⟨by dsimp only; omega, by dsimp only; omega, by simp; omega, fun n hn => by
            rcases List.mem_append.1 hn with hn | hn
            · exact hmr n hn
            · simp at hn; omega, O76⟩ (by first | omega | (dsimp only; omega)) (.c rfl (.base 77 rfl rfl)) inferInstance
      · intro mt2
        dsimp only [List.cons_append, List.nil_append] at mt2
        refine XK.if rfl (fun c2 => ?_) (fun c2 => ?_)
        · have _t2 := True.intro
          refine XK.region rfl ?_
          refine XO.q (Q.assign rfl) ?_
          refine XO.done ?_
          exact mt2 (-1) _ _ ⟨by omega, by omega⟩ (.c rfl (.base 1 rfl rfl)) inferInstance
        · have _t2 := True.intro
          refine XK.seq ?_
          refine XK.region rfl ?_
          refine XO.q (Q.move rfl) ?_
          refine XO.q (Q.rem rfl rfl (by omega) (by omega)) ?_
          refine XO.q (Q.gtr rfl rfl) ?_
          refine XO.done ?_
          refine XK.if rfl (fun c3 => ?_) (fun c3 => ?_)
          · have _t3 := True.intro
            refine XK.region rfl ?_
            refine XO.q (Q.move rfl) ?_
            refine XO.q (Q.move rfl) ?_
            refine XO.q (Q.rem rfl rfl (by omega) (by omega)) ?_
            refine XO.q (Q.add rfl rfl ⟨by omega, by omega⟩) ?_
            refine XO.q (Q.fieldAddr rfl) ?_
            refine XO.q (Q.ld rfl rfl) ?_
            refine XO.q (Q.add rfl rfl ⟨by omega, by omega⟩) ?_
            refine XO.q (Q.fieldAddr rfl) ?_
            refine XO.q (Q.ld rfl rfl) ?_
            refine XO.q (Q.sub rfl rfl ⟨by omega, by omega⟩) ?_
            refine XO.q (Q.min rfl rfl) ?_
            refine XO.q (Q.mul rfl rfl ⟨by omega, by omega⟩) ?_
            refine XO.q (Q.sub rfl rfl ⟨by omega, by omega⟩) ?_
            refine XO.q (Q.fieldAddr rfl) ?_
            refine XO.q (Q.ld rfl rfl) ?_
            refine XO.q (Q.rem rfl rfl (by omega) (by omega)) ?_
            refine XO.q (Q.assign rfl) ?_
            refine XO.done ?_
            exact mt2 (((s : Int) + (n46 : Int) % 5 + (S : Int) - 2 * min 1 ((S : Int) - 1)) % (S : Int)) _ _ ⟨by have := Int.emod_nonneg ((s : Int) + (n46 : Int) % 5 + (S : Int) - 2 * min 1 ((S : Int) - 1)) (show (S : Int) ≠ 0 by omega); omega, Int.emod_lt_of_pos _ (by omega)⟩ (.c rfl (.base 20 rfl rfl)) inferInstance
          · have _t3 := True.intro
            refine XK.region rfl ?_
            refine XO.q (Q.move rfl) ?_
            refine XO.q (Q.fieldAddr rfl) ?_
            refine XO.q (Q.ld rfl rfl) ?_
            refine XO.q (Q.rem rfl rfl (by omega) (by omega)) ?_
            refine XO.q (Q.assign rfl) ?_
            refine XO.done ?_
            exact mt2 ((n46 : Int) % (S : Int)) _ _ ⟨by have := Int.emod_nonneg (n46 : Int) (show (S : Int) ≠ 0 by omega); omega, Int.emod_lt_of_pos _ (by omega)⟩ (.c rfl (.base 8 rfl rfl)) inferInstance
    · have _t1 := True.intro
      refine XK.exit rfl ?_
      refine XK.inBlock ?_
      refine XK.region rfl ?_
      refine XO.q (Q.add rfl rfl ⟨by omega, by omega⟩) ?_
      refine XO.q (Q.move rfl) ?_
      refine XO.done ?_
      exact ih0 (s + 1, j, nx2, vM, hM, gd ++ [_], v36, h36) _ _ ⟨by dsimp only; omega, by dsimp only; omega, by dsimp only; rw [Nat.add_mul]; omega, by simp; omega, hmr, OM, O36⟩ (by first | omega | (dsimp only; omega)) (.c rfl (.base 116 rfl rfl)) inferInstance
  · have _t0 := True.intro
    refine XK.exit rfl ?_
    refine XK.seq ?_
    refine XK.region rfl ?_
    refine XO.q (Q.ldA [_, _, _, _, _] rfl rfl rfl) ?_
    refine XO.st rfl rfl rfl ?_
    refine XO.done ?_
    refine XK.rt [hN, hG] Try.func19 Try.results19 (.cell [_, _, _, _, _] rfl rfl rfl (.n)) ?_
    have hsS : s = S := by omega
    subst hsS
    exact ⟨⟨s, C, K, nx, gd⟩, vN, vG, hN, hG, rfl, rfl, ON, OG, gcheck_of (by omega) (by omega) (by omega) (by rw [hnl, eM]) hgl hnr⟩
end Go.X

set_option linter.unusedSimpArgs false
set_option linter.unusedVariables false
set_option maxRecDepth 20000
namespace Go.X
open Go.Proofs
theorem KeepProducts_spec (vl : Value) (hl : PHeap) (l : List UInt8) [sl : Arr vl encU8 1 hl l] (vm : Value) (hm : PHeap) (m : List UInt8) [sm : Arr vm encU8 1 hm m] (c : Nat) (hc : c < 256) :
    Spec Try.prog 4 #[vl, vm, .int .u8 (c : Nat)] [] [hl, hm] (fun v hs => v = .bool true ∧ hs = []) := by
  refine Spec.intro (fn := Try.f4) (N := 147) Try.func4 rfl Try.ntmps4 rfl fun B => ?_
  refine XK.seq ?_
  refine XK.region rfl ?_
  refine XO.q (Q.assign rfl) ?_
  refine XO.done ?_
  refine XK.seq ?_
  refine XK.region rfl ?_
  refine XO.q (Q.move rfl) ?_
  refine XO.call Try.call19 rfl rfl rfl (made_spec vl hl l) fun v23 s23 R23 => ?_
  obtain ⟨ga, va, wa, ka, la, rfl, rfl, ONa, OGa, ca⟩ := R23
  dsimp only [List.cons_append, List.nil_append]
  obtain ⟨Sa, Ca, Ka, hSa, hCa, hKa, oka⟩ := gcheck_ok ca
  obtain ⟨gSa, gCa, gKa, na, da⟩ := ga
  dsimp only at hSa hCa hKa oka ONa OGa ⊢
  subst hSa hCa hKa
  have has1 := oka.s1
  have has2 := oka.s2
  have hac1 := oka.c1
  have hac2 := oka.c2
  have hak1 := oka.k1
  have hak2 := oka.k2
  have hal := solveG_len oka
  refine XO.q (Q.move rfl) ?_
  refine XO.call Try.call19 rfl rfl rfl (made_spec vm hm m) fun v25 s25 R25 => ?_
  obtain ⟨gb, vb, wb, kb, lb, rfl, rfl, ONb, OGb, cb⟩ := R25
  dsimp only [List.cons_append, List.nil_append]
  obtain ⟨Sb, Cb, Kb, hSb, hCb, hKb, okb⟩ := gcheck_ok cb
  obtain ⟨gSb, gCb, gKb, nb, db⟩ := gb
  dsimp only at hSb hCb hKb okb ONb OGb ⊢
  subst hSb hCb hKb
  have hbs1 := okb.s1
  have hbs2 := okb.s2
  have hbc1 := okb.c1
  have hbc2 := okb.c2
  have hbk1 := okb.k1
  have hbk2 := okb.k2
  have hbl := solveG_len okb
  refine XO.alloc fun b7 => ?_
  refine XO.alloc fun b8 => ?_
  refine XO.st rfl rfl rfl ?_
  refine XO.st rfl rfl rfl ?_
  refine XO.done ?_
  refine XK.seq ?_
  refine XK.region rfl ?_
  refine XO.q (Q.ldA [_, _, _, _, _] rfl rfl rfl) ?_
  refine XO.call Try.call20 rfl rfl rfl (Solve_spec (mkG Sa Ca Ka na da) va wa ka la) fun v28 s28 R28 => ?_
  obtain ⟨p28, q28, r28, kp28, kq28, kr28, rfl, rfl, OP28, OQ28, OR28⟩ := R28
  dsimp only [List.cons_append, List.nil_append]
  rw [gcheck_mk oka]
  refine XO.q (Q.move rfl) ?_
  refine XO.q (Q.extract rfl rfl) ?_
  refine XO.q (Q.extract rfl rfl) ?_
  refine XO.alloc fun b9 => ?_
  refine XO.st rfl rfl rfl ?_
  refine XO.q (Q.assign rfl) ?_
  refine XO.done ?_
  refine XK.seq ?_
  refine XK.region rfl ?_
  refine XO.q (Q.ldA [_, _, _, _, _] rfl rfl rfl) ?_
  refine XO.call Try.call20 rfl rfl rfl (Solve_spec (mkG Sb Cb Kb nb db) vb wb kb lb) fun v33 s33 R33 => ?_
  obtain ⟨p33, q33, r33, kp33, kq33, kr33, rfl, rfl, OP33, OQ33, OR33⟩ := R33
  dsimp only [List.cons_append, List.nil_append]
  rw [gcheck_mk okb]
  refine XO.q (Q.move rfl) ?_
  refine XO.q (Q.extract rfl rfl) ?_
  refine XO.q (Q.extract rfl rfl) ?_
  refine XO.alloc fun b11 => ?_
  refine XO.st rfl rfl rfl ?_
  refine XO.q (Q.assign rfl) ?_
  refine XO.done ?_
  refine XK.seq ?_
  refine XK.seq ?_
  refine XK.region rfl ?_
  refine XO.q (Q.move rfl) ?_
  refine XO.q (Q.neq rfl rfl) ?_
  refine XO.q (Q.move rfl) ?_
  refine XO.q (Quiet.guardF rfl rfl fun g39 p39 => Q.move rfl) ?_
  refine XO.q (Quiet.guardF rfl rfl fun g40 p40 => Q.neq (lzv g40 rfl) rfl) ?_
  refine XO.q (Q.or rfl (fun hp => lzv hp rfl)) ?_
  refine XO.done ?_
  refine XK.if rfl (fun c0 => ?_) (fun c0 => ?_)
  · have _t0 := True.intro
    simp at c0
  · have _t0 := True.intro
    refine XK.skip ?_
    refine XK.seq ?_
    refine XK.region rfl ?_
    refine XO.q (Q.ldA [_, _, _, _, _] rfl rfl rfl) ?_
    refine XO.q (Q.ldA [_, _, _, _, _] rfl rfl rfl) ?_
    refine XO.call Try.call13 rfl rfl rfl (product_spec (mkG Sa Ca Ka na da) (mkG Sb Cb Kb nb db) va wa vb wb ka la kb lb) fun v45 s45 R45 => ?_
    obtain ⟨x45, y45, kx45, ky45, rfl, rfl, OX45, OY45⟩ := R45
    dsimp only [List.cons_append, List.nil_append]
    refine XO.q (Q.move rfl) ?_
    refine XO.q (Q.extract rfl rfl) ?_
    refine XO.q (Q.extract rfl rfl) ?_
    refine XO.alloc fun b13 => ?_
    refine XO.st rfl rfl rfl ?_
    refine XO.q (Q.assign rfl) ?_
    refine XO.done ?_
    refine XK.seq ?_
    refine XK.seq ?_
    refine XK.region rfl ?_
    refine XO.q (Q.move rfl) ?_
    refine XO.q (Q.eql rfl rfl) ?_
    refine XO.done ?_
    refine XK.meet (X := Unit) [6, 14, 15, 16, 17, 50, 51, 52, 53, 54, 55, 56, 57, 58, 59, 60, 61, 62, 63, 64, 65, 66, 67, 68, 69, 70, 71, 72, 73, 74, 75, 76, 77, 78, 79, 80, 81, 82, 83, 84, 85, 86, 87, 88, 89, 90, 91, 92, 93, 94, 95, 96, 97, 98] (fun ⟨⟩ => []) (fun ⟨⟩ => []) (fun ⟨⟩ => True) [] ?_ ?_
    · rintro ⟨⟩ _
      dsimp only [List.cons_append, List.nil_append]
      obtain ⟨u, eu⟩ : ∃ u, u = c % Ca := ⟨_, rfl⟩
      have hu : u < Ca := by rw [eu]; exact Nat.mod_lt _ (by omega)
      refine XK.seq ?_
      refine XK.meet (X := Nat × Value × Value × PHeap × PHeap) [10, 18, 99, 100, 101, 102, 103, 104, 105, 106, 107, 108] (fun ⟨b18, x106, y106, kx106, ky106⟩ => [(10, some (.int .i64 (without (mkG Sa Ca Ka na da) ((u : Nat) : Int)).2)), (18, some (ptr b18 0))]) (fun ⟨b18, x106, y106, kx106, ky106⟩ => [blk b18 [.int .i64 (without (mkG Sa Ca Ka na da) ((u : Nat) : Int)).1.S, .int .i64 (without (mkG Sa Ca Ka na da) ((u : Nat) : Int)).1.C, .int .i64 (without (mkG Sa Ca Ka na da) ((u : Nat) : Int)).1.K, x106, y106] 25, kx106, ky106]) (fun ⟨b18, x106, y106, kx106, ky106⟩ => OArr x106 encI 1 3 kx106 (without (mkG Sa Ca Ka na da) ((u : Nat) : Int)).1.next ∧ OArr y106 encB 1 4 ky106 (without (mkG Sa Ca Ka na da) ((u : Nat) : Int)).1.good) [] ?_ ?_
      · rintro ⟨b18, x106, y106, kx106, ky106⟩ ⟨OX106, OY106⟩
        dsimp only [List.cons_append, List.nil_append]
        refine XK.seq ?_
        refine XK.seq ?_
        refine XK.region rfl ?_
        refine XO.q (Q.fieldAddr rfl) ?_
        refine XO.q (Q.ld rfl rfl) ?_
        refine XO.q (Q.eql rfl rfl) ?_
        refine XO.done ?_
        refine XK.if rfl (fun c2 => ?_) (fun c2 => ?_)
        · have _t2 := True.intro
          have hw2 : (without (mkG Sa Ca Ka na da) ((u : Nat) : Int)).2 = 2 := by rcases without_ok oka hu with ⟨_, h⟩ | ⟨h, _⟩; exact h; omega
          refine XK.seq ?_
          refine XK.region rfl ?_
          refine XO.q (Q.move rfl) ?_
          refine XO.q (Q.eql rfl rfl) ?_
          refine XO.q (Q.move rfl) ?_
          refine XO.gcallT rfl rfl Try.call11 rfl (fun g115 => .n) rfl (fun g115 p115 => awake_spec) ?_
          refine XO.q (Q.and rfl (fun hp => lzv hp rfl)) ?_
          refine XO.q (Q.assign rfl) ?_
          refine XO.done ?_
          refine XK.rt [] Try.func4 Try.results4 (.t rfl .n) ?_
          exact ⟨by simp [hw2], rfl⟩
        · have _t2 := True.intro
          obtain ⟨w1, w2, w3, w4⟩ := without_law oka hu (by omega)
          refine XK.skip ?_
          refine XK.seq ?_
          refine XK.region rfl ?_
          refine XO.q (Q.ldA [_, _, _, _, _] rfl rfl rfl) ?_
          refine XO.call Try.call20 rfl rfl rfl (Solve_spec (without (mkG Sa Ca Ka na da) ((u : Nat) : Int)).1 x106 y106 kx106 ky106) fun v119 s119 R119 => ?_
          obtain ⟨p119, q119, r119, kp119, kq119, kr119, rfl, rfl, OP119, OQ119, OR119⟩ := R119
          dsimp only [List.cons_append, List.nil_append]
          rw [w2]
          refine XO.q (Q.move rfl) ?_
          refine XO.q (Q.extract rfl rfl) ?_
          refine XO.q (Q.extract rfl rfl) ?_
          refine XO.alloc fun b19 => ?_
          refine XO.st rfl rfl rfl ?_
          refine XO.q (Q.assign rfl) ?_
          refine XO.done ?_
          refine XK.seq ?_
          refine XK.seq ?_
          refine XK.region rfl ?_
          refine XO.q (Q.move rfl) ?_
          refine XO.q (Q.neq rfl rfl) ?_
          refine XO.q (Q.move rfl) ?_
          refine XO.q (Quiet.guardF rfl rfl fun g125 p125 => Q.move rfl) ?_
          refine XO.q (Quiet.guardF rfl rfl fun g126 p126 => Q.neq (lzv g126 rfl) rfl) ?_
          refine XO.q (Q.or rfl (fun hp => lzv hp rfl)) ?_
          refine XO.done ?_
          refine XK.if rfl (fun c3 => ?_) (fun c3 => ?_)
          · have _t3 := True.intro
            rw [w1] at c3
            simp at c3
          · have _t3 := True.intro
            refine XK.skip ?_
            refine XK.seq ?_
            refine XK.seq ?_
            refine XK.region rfl ?_
            refine XO.q (Q.fieldAddr rfl) ?_
            refine XO.q (Q.ld rfl rfl) ?_
            refine XO.len rfl fun l130 => ?_
            refine XO.q (Q.move rfl) ?_
            refine XO.done ?_
            refine XK.block ?_
            refine XK.while (X := Nat) [6, 20, 21, 131, 132, 133, 134, 135, 136, 137, 138, 139, 140, 141, 142, 143, 144, 145] (fun i => [(131, some (.int .i64 (i : Nat)))]) (fun i => []) (fun i => i ≤ Sa) (fun i => Sa - i) (0) [] rfl (by omega) (.c rfl (.base 0 rfl rfl)) ?_
            rintro i hi ih0
            dsimp only [List.cons_append, List.nil_append] at ih0 ⊢
            refine XK.seq ?_
            refine XK.region rfl ?_
            refine XO.q (Q.lss rfl rfl) ?_
            refine XO.done ?_
            refine XK.seq ?_
            refine XK.if rfl (fun c4 => ?_) (fun c4 => ?_)
            · have _t4 := True.intro
              refine XK.skip ?_
              refine XK.seq ?_
              refine XK.block ?_
              refine XK.seq ?_
              refine XK.region rfl ?_
              refine XO.q (Q.move rfl) ?_
              refine XO.ix rfl rfl (by omega) (by omega) fun i134 => ?_
              refine XO.q (Q.ldE rfl (by first | assumption | omega) rfl) ?_
              refine XO.q (Q.assign rfl) ?_
              refine XO.q (Q.assign rfl) ?_
              refine XO.done ?_
              refine XK.seq ?_
              refine XK.region rfl ?_
              refine XO.q (Q.move rfl) ?_
              refine XO.q (Q.move rfl) ?_
              refine XO.q (Quiet.guardT rfl rfl fun g138 p138 => Q.fieldAddr rfl) ?_
              refine XO.q (Quiet.guardT rfl rfl fun g139 p139 => Q.ld (lzv g139 rfl) rfl) ?_
              refine XO.q (Quiet.guardT rfl rfl fun g140 p140 => Q.move rfl) ?_
              refine XO.q (Quiet.guardT rfl rfl fun g141 p141 => Q.ix (lzv g141 rfl) (lzv g141 rfl) (by omega) (by omega)) ?_
              refine XO.q (Quiet.guardT rfl rfl fun g142 p142 => Q.ldE (lzv g142 rfl) (by first | assumption | omega) rfl) ?_
              refine XO.q (Quiet.guardT rfl rfl fun g143 p143 => Q.not (lzv g143 rfl)) ?_
              refine XO.q (Q.and rfl (fun hp => lzv hp rfl)) ?_
              refine XO.done ?_
              refine XK.if rfl (fun c5 => ?_) (fun c5 => ?_)
              · have _t5 := True.intro
                exact absurd (w4 _ c5.1) c5.2
              · have _t5 := True.intro
                refine XK.skip ?_
                refine XK.inBlock ?_
                refine XK.region rfl ?_
                refine XO.q (Q.add rfl rfl ⟨by omega, by omega⟩) ?_
                refine XO.q (Q.move rfl) ?_
                refine XO.done ?_
                exact ih0 (i + 1) _ _ (by omega) (by first | omega | (dsimp only; omega)) (.c rfl (.base 36 rfl rfl)) inferInstance
            · have _t4 := True.intro
              refine XK.exit rfl ?_
              refine XK.seq ?_
              refine XK.region rfl ?_
              refine XO.call Try.call11 rfl rfl rfl (awake_spec) fun v146 s146 R146 => ?_
              obtain ⟨rfl, rfl⟩ := R146
              dsimp only [List.cons_append, List.nil_append]
              refine XO.q (Q.assign rfl) ?_
              refine XO.done ?_
              refine XK.rt [] Try.func4 Try.results4 (.t rfl .n) ?_
              exact ⟨rfl, rfl⟩
      · intro mtr19
        dsimp only [List.cons_append, List.nil_append] at mtr19
        refine XK.drawn [0, 1, 2, 3, 4, 5, 7, 8, 9, 12] [b7] [] (.q 0 (.q 1 (.q 2 (.q 3 (.q 4 (.q 5 (.br 6 true (.q 7 (.q 8 (.q 9 (.br 10 true (.br 11 true (.q 12 .done) .stop) .stop)))) (.br 10 true (.br 6 true (.q 7 (.q 8 (.q 9 (.br 11 true (.q 12 .done) .stop)))) .stop) .stop)))))))) Try.mixed rfl (by kernel_rfl) ?_
        refine XT.q rfl rfl (Q.ldA [_, _, _, _, _] rfl rfl rfl) ?_
        refine XT.q rfl rfl (Q.move rfl) ?_
        refine XT.q rfl rfl (Q.conv rfl) ?_
        rw [wrap64_of ⟨by omega, by omega⟩]
        refine XT.q rfl rfl (Q.fieldAddr rfl) ?_
        refine XT.q rfl rfl (Q.ld rfl rfl) ?_
        refine XT.q rfl rfl (Q.rem rfl rfl (by omega) (by omega)) ?_
        rw [show ((c : Int) % (Ca : Int)) = ((c % Ca : Nat) : Int) from rfl]
        rw [← eu]
        refine XT.call rfl rfl Try.call16 rfl rfl rfl (without_spec (mkG Sa Ca Ka na da) va wa ka la ((u : Nat) : Int)) (fun v106 s106 R106 => ?_) ?_
        · skip
          obtain ⟨x106, y106, kx106, ky106, rfl, rfl, OX106, OY106⟩ := R106
          dsimp only [List.cons_append, List.nil_append]
          refine ⟨inferInstance, ?_⟩
          refine XT.q rfl rfl (Q.move rfl) ?_
          refine XT.q rfl rfl (Q.extract rfl rfl) ?_
          refine XT.q rfl rfl (Q.extract rfl rfl) ?_
          refine XT.alloc rfl rfl (fun b18 => ⟨inferInstance, ?_⟩) XT.stop
          refine XT.st rfl rfl rfl rfl rfl ⟨inferInstance, ?_⟩ XT.stop
          refine XT.q rfl rfl (Q.assign rfl) ?_
          refine XT.done ?_
          exact mtr19 ((b18, x106, y106, kx106, ky106)) _ _ ⟨OX106, OY106⟩ (.c rfl (.c rfl (.base 12 rfl rfl))) inferInstance
        · skip
          refine XT.alloc rfl rfl (fun b18 => ⟨inferInstance, ?_⟩) XT.stop
          refine XT.call rfl rfl Try.call16 rfl rfl rfl (without_spec (mkG Sa Ca Ka na da) va wa ka la ((u : Nat) : Int)) (fun v106 s106 R106 => ?_) XT.stop
          obtain ⟨x106, y106, kx106, ky106, rfl, rfl, OX106, OY106⟩ := R106
          dsimp only [List.cons_append, List.nil_append]
          refine ⟨inferInstance, ?_⟩
          refine XT.q rfl rfl (Q.move rfl) ?_
          refine XT.q rfl rfl (Q.extract rfl rfl) ?_
          refine XT.q rfl rfl (Q.extract rfl rfl) ?_
          refine XT.st rfl rfl rfl rfl rfl ⟨inferInstance, ?_⟩ XT.stop
          refine XT.q rfl rfl (Q.assign rfl) ?_
          refine XT.done ?_
          exact mtr19 ((b18, x106, y106, kx106, ky106)) _ _ ⟨OX106, OY106⟩ (.c rfl (.c rfl (.base 12 rfl rfl))) inferInstance
    · intro mt1
      dsimp only [List.cons_append, List.nil_append] at mt1
      refine XK.if rfl (fun c1 => ?_) (fun c1 => ?_)
      · have _t1 := True.intro
        obtain ⟨gp, lp, ep⟩ := product_law oka okb c1
        obtain ⟨M, eM⟩ : ∃ M, M = Sa * Sb := ⟨_, rfl⟩
        have hM : Sa * Sb ≤ 400 * 400 := Nat.mul_le_mul (by omega) (by omega)
        have eMi : (Sa : Int) * (Sb : Int) = (M : Int) := by rw [eM]; simp
        rw [← eM] at hM lp
        refine XK.seq ?_
        refine XK.region rfl ?_
        refine XO.q (Q.ldA [_, _, _, _, _] rfl rfl rfl) ?_
        refine XO.call Try.call20 rfl rfl rfl (Solve_spec (product (mkG Sa Ca Ka na da) (mkG Sb Cb Kb nb db)).1 x45 y45 kx45 ky45) fun v52 s52 R52 => ?_
        obtain ⟨p52, q52, r52, kp52, kq52, kr52, rfl, rfl, OP52, OQ52, OR52⟩ := R52
        dsimp only [List.cons_append, List.nil_append]
        rw [gp]
        refine XO.q (Q.move rfl) ?_
        refine XO.q (Q.extract rfl rfl) ?_
        refine XO.q (Q.extract rfl rfl) ?_
        refine XO.alloc fun b14 => ?_
        refine XO.st rfl rfl rfl ?_
        refine XO.q (Q.assign rfl) ?_
        refine XO.done ?_
        refine XK.seq ?_
        refine XK.seq ?_
        refine XK.region rfl ?_
        refine XO.q (Q.move rfl) ?_
        refine XO.q (Q.neq rfl rfl) ?_
        refine XO.q (Q.move rfl) ?_
        refine XO.q (Quiet.guardF rfl rfl fun g58 p58 => Q.fieldAddr rfl) ?_
        refine XO.q (Quiet.guardF rfl rfl fun g59 p59 => Q.ld (lzv g59 rfl) rfl) ?_
        refine XO.q (Quiet.guardF rfl rfl fun g60 p60 => Q.len (lzv g60 rfl)) ?_
        refine XO.q (Quiet.guardF rfl rfl fun g61 p61 => Q.fieldAddr rfl) ?_
        refine XO.q (Quiet.guardF rfl rfl fun g62 p62 => Q.ld (lzv g62 rfl) rfl) ?_
        refine XO.q (Quiet.guardF rfl rfl fun g63 p63 => Q.fieldAddr rfl) ?_
        refine XO.q (Quiet.guardF rfl rfl fun g64 p64 => Q.ld (lzv g64 rfl) rfl) ?_
        refine XO.q (Quiet.guardF rfl rfl fun g65 p65 => Q.mul (lzv g65 rfl) (lzv g65 rfl) ⟨by omega, by omega⟩) ?_
        refine XO.q (Quiet.guardF rfl rfl fun g66 p66 => Q.neq (lzv g66 rfl) (lzv g66 rfl)) ?_
        refine XO.q (Q.or rfl (fun hp => lzv hp rfl)) ?_
        refine XO.done ?_
        refine XK.if rfl (fun c6 => ?_) (fun c6 => ?_)
        · have _t6 := True.intro
          rw [lp, eMi] at c6
          simp at c6
        · have _t6 := True.intro
          refine XK.skip ?_
          refine XK.seq ?_
          refine XK.region rfl ?_
          refine XO.q (Q.fieldAddr rfl) ?_
          refine XO.q (Q.ld rfl rfl) ?_
          refine XO.len rfl fun l70 => ?_
          refine XO.q (Q.move rfl) ?_
          refine XO.done ?_
          refine XK.block ?_
          refine XK.while (X := Nat) [6, 16, 17, 71, 72, 73, 74, 75, 76, 77, 78, 79, 80, 81, 82, 83, 84, 85, 86, 87, 88, 89, 90, 91, 92, 93, 94, 95, 96] (fun i => [(71, some (.int .i64 (i : Nat)))]) (fun i => []) (fun i => i ≤ M) (fun i => M - i) (0) [] rfl (by omega) (.c rfl (.base 0 rfl rfl)) ?_
          rintro i hi ih1
          dsimp only [List.cons_append, List.nil_append] at ih1 ⊢
          refine XK.seq ?_
          refine XK.region rfl ?_
          refine XO.q (Q.lss rfl rfl) ?_
          refine XO.done ?_
          refine XK.seq ?_
          refine XK.if rfl (fun c7 => ?_) (fun c7 => ?_)
          · have _t7 := True.intro
            obtain ⟨hi1, hi2⟩ := div_lt' (s := i) (Sa := Sa) (Sb := Sb) (by omega)
            have hz1 : (0 : Int) ≤ (i : Int) % (Sb : Int) := Int.emod_nonneg _ (by omega)
            have hz3 : (0 : Int) ≤ (i : Int) / (Sb : Int) := Int.ediv_nonneg (by omega) (by omega)
            have hz2 : (i : Int) % (Sb : Int) < Sb := Int.emod_lt_of_pos _ (by omega)
            refine XK.skip ?_
            refine XK.seq ?_
            refine XK.block ?_
            refine XK.seq ?_
            refine XK.region rfl ?_
            refine XO.q (Q.move rfl) ?_
            refine XO.ix rfl rfl (by omega) (by omega) fun i74 => ?_
            refine XO.q (Q.ldE rfl (by first | assumption | omega) rfl) ?_
            refine XO.q (Q.assign rfl) ?_
            refine XO.q (Q.assign rfl) ?_
            refine XO.done ?_
            refine XK.seq ?_
            refine XK.drawn [0, 1, 2, 3, 4, 5, 6, 7, 8, 9, 10, 11, 12, 13, 14, 15, 16, 17, 18, 19] [b9, b8, b11] [kp28, kp33] (.q 0 (.q 1 (.q 2 (.q 3 (.q 4 (.q 5 (.q 6 (.q 7 (.q 8 (.q 9 (.q 10 (.q 11 (.q 12 (.q 13 (.q 14 (.q 15 (.q 16 (.q 17 (.q 18 (.q 19 .done)))))))))))))))))))) Try.mixed rfl (by kernel_rfl) ?_
            refine XT.q rfl rfl (Q.move rfl) ?_
            refine XT.q rfl rfl (Q.fieldAddr rfl) ?_
            refine XT.q rfl rfl (Q.ld rfl rfl) ?_
            refine XT.q rfl rfl (Q.move rfl) ?_
            refine XT.q rfl rfl (Q.fieldAddr rfl) ?_
            refine XT.q rfl rfl (Q.ld rfl rfl) ?_
            refine XT.q rfl rfl (Q.quo rfl rfl (by omega) (by omega) (by omega)) ?_
            rw [show ((i : Int) / (Sb : Int)) = ((i / Sb : Nat) : Int) from rfl]
            refine XT.ix rfl rfl rfl rfl (by omega) (by omega) fun i83 => ?_
            refine XT.q rfl rfl (Q.ldE rfl (by first | assumption | omega) rfl) ?_
            refine XT.q rfl rfl (Q.move rfl) ?_
            refine XT.q rfl rfl (Quiet.guardT rfl rfl fun g86 p86 => Q.fieldAddr rfl) ?_
            refine XT.q rfl rfl (Quiet.guardT rfl rfl fun g87 p87 => Q.ld (lzv g87 rfl) rfl) ?_
            refine XT.q rfl rfl (Quiet.guardT rfl rfl fun g88 p88 => Q.move rfl) ?_
            refine XT.q rfl rfl (Quiet.guardT rfl rfl fun g89 p89 => Q.fieldAddr rfl) ?_
            refine XT.q rfl rfl (Quiet.guardT rfl rfl fun g90 p90 => Q.ld (lzv g90 rfl) rfl) ?_
            refine XT.q rfl rfl (Quiet.guardT rfl rfl fun g91 p91 => Q.rem (lzv g91 rfl) (lzv g91 rfl) (by omega) (by omega)) ?_
            refine XT.q rfl rfl (Quiet.guardT rfl rfl fun g92 p92 => Q.ix (lzv g92 rfl) (lzv g92 rfl) (by omega) (by omega)) ?_
            refine XT.q rfl rfl (Quiet.guardT rfl rfl fun g93 p93 => Q.ldE (lzv g93 rfl) (by first | assumption | omega) rfl) ?_
            refine XT.q rfl rfl (Q.and rfl (fun hp => lzv hp rfl)) ?_
            refine XT.q rfl rfl (Q.neqB rfl rfl) ?_
            refine XT.done ?_
            refine XK.if rfl (fun c8 => ?_) (fun c8 => ?_)
            · have _t8 := True.intro
              rw [ep i (by omega)] at c8
              simp at c8
            · have _t8 := True.intro
              refine XK.skip ?_
              refine XK.inBlock ?_
              refine XK.region rfl ?_
              refine XO.q (Q.add rfl rfl ⟨by omega, by omega⟩) ?_
              refine XO.q (Q.move rfl) ?_
              refine XO.done ?_
              exact ih1 (i + 1) _ _ (by omega) (by first | omega | (dsimp only; omega)) (.c rfl (.base 58 rfl rfl)) inferInstance
          · have _t7 := True.intro
            refine XK.exit rfl ?_
            exact mt1 (()) _ _ trivial (.base 55 rfl rfl) inferInstance
      · have _t1 := True.intro
        refine XK.seq ?_
        refine XK.region rfl ?_
        refine XO.q (Q.move rfl) ?_
        refine XO.q (Q.neq rfl rfl) ?_
        refine XO.done ?_
        refine XK.if rfl (fun c9 => ?_) (fun c9 => ?_)
        · have _t9 := True.intro
          rcases product_e oka okb with h | h
          · exact absurd h c1
          · exact absurd h c9
        · have _t9 := True.intro
          refine XK.skip ?_
          exact mt1 (()) _ _ trivial (.base 2 rfl rfl) inferInstance
end Go.X

set_option linter.unusedSimpArgs false
set_option linter.unusedVariables false
set_option maxRecDepth 20000
namespace Go.X
open Go.Proofs
theorem lost1 (b b2 : Nat) (vi vc vr : Value) (hi hr : PHeap) (ins : List Bool) [si : Arr vi encB 1 hi ins] (rnk : List Int) [sr : Arr vr encI 1 hr rnk] (hl : rnk.length = ins.length) (s : Nat) (hs : s < ins.length) (x : Int) (hx : x < ins.length) :
    Spec Try.prog 69 #[.int .i64 x, ptr b 0, ptr b2 0] [] [blk b [vi, vc, vr] 44, hi, hr, blk b2 [.int .i64 (s : Nat)] 3] (fun v hs => v = .bool (badL ins rnk s x) ∧ hs = []) := by
  refine Spec.intro (fn := Try.f69) (N := 28) Try.func69 rfl Try.ntmps69 rfl fun B => ?_
  refine XK.seq ?_
  refine XK.region rfl ?_
  refine XO.q (Q.assign rfl) ?_
  refine XO.done ?_
  refine XK.seq ?_
  refine XK.drawn [0, 1, 2, 3, 4, 5, 6, 7, 8, 9, 10, 11, 12, 13, 14, 15, 16, 17, 18, 19, 20, 21, 22, 23] [b, b2] [] (.q 0 (.q 1 (.q 2 (.q 3 (.q 4 (.q 5 (.q 6 (.q 7 (.q 8 (.q 9 (.q 10 (.q 11 (.q 12 (.q 13 (.q 14 (.q 15 (.q 16 (.q 17 (.q 18 (.q 19 (.q 20 (.q 21 (.q 22 (.q 23 .done)))))))))))))))))))))))) Try.mixed rfl (by kernel_rfl) ?_
  refine XT.q rfl rfl (Q.move rfl) ?_
  refine XT.q rfl rfl (Q.lss rfl rfl) ?_
  refine XT.q rfl rfl (Q.move rfl) ?_
  refine XT.q rfl rfl (Quiet.guardF rfl rfl fun g8 p8 => Q.fieldAddr rfl) ?_
  refine XT.q rfl rfl (Quiet.guardF rfl rfl fun g9 p9 => Q.ld (lzv g9 rfl) rfl) ?_
  refine XT.q rfl rfl (Quiet.guardF rfl rfl fun g10 p10 => Q.move rfl) ?_
  refine XT.q rfl rfl (Quiet.guardF rfl rfl fun g11 p11 => Q.ix (lzv g11 rfl) (lzv g11 rfl) (by omega) (by omega)) ?_
  refine XT.q rfl rfl (Quiet.guardF rfl rfl fun g12 p12 => Q.ldE (lzv g12 rfl) (by first | assumption | omega) rfl) ?_
  refine XT.q rfl rfl (Quiet.guardF rfl rfl fun g13 p13 => Q.not (lzv g13 rfl)) ?_
  refine XT.q rfl rfl (Quiet.guardF rfl rfl fun g14 p14 => Q.move (lzv g14 rfl)) ?_
  refine XT.q rfl rfl (Quiet.guard2 rfl rfl fun g15a g15b => have p15a := bpF g15a; have p15b := bpT g15b; Q.fieldAddr rfl) ?_
  refine XT.q rfl rfl (Quiet.guard2 rfl rfl fun g16a g16b => have p16a := bpF g16a; have p16b := bpT g16b; Q.ld (lzv g16b (lzv g16a rfl)) rfl) ?_
  refine XT.q rfl rfl (Quiet.guard2 rfl rfl fun g17a g17b => have p17a := bpF g17a; have p17b := bpT g17b; Q.move rfl) ?_
  refine XT.q rfl rfl (Quiet.guard2 rfl rfl fun g18a g18b => have p18a := bpF g18a; have p18b := bpT g18b; Q.ix (lzv g18b (lzv g18a rfl)) (lzv g18b (lzv g18a rfl)) (by omega) (by omega)) ?_
  refine XT.q rfl rfl (Quiet.guard2 rfl rfl fun g19a g19b => have p19a := bpF g19a; have p19b := bpT g19b; Q.ldE (lzv g19b (lzv g19a rfl)) (by first | assumption | omega) rfl) ?_
  refine XT.q rfl rfl (Quiet.guard2 rfl rfl fun g20a g20b => have p20a := bpF g20a; have p20b := bpT g20b; Q.fieldAddr rfl) ?_
  refine XT.q rfl rfl (Quiet.guard2 rfl rfl fun g21a g21b => have p21a := bpF g21a; have p21b := bpT g21b; Q.ld (lzv g21b (lzv g21a rfl)) rfl) ?_
  refine XT.q rfl rfl (Quiet.guard2 rfl rfl fun g22a g22b => have p22a := bpF g22a; have p22b := bpT g22b; Q.ld rfl rfl) ?_
  refine XT.q rfl rfl (Quiet.guard2 rfl rfl fun g23a g23b => have p23a := bpF g23a; have p23b := bpT g23b; Q.ix (lzv g23b (lzv g23a rfl)) (lzv g23b (lzv g23a rfl)) (by omega) (by omega)) ?_
  refine XT.q rfl rfl (Quiet.guard2 rfl rfl fun g24a g24b => have p24a := bpF g24a; have p24b := bpT g24b; Q.ldE (lzv g24b (lzv g24a rfl)) (by first | assumption | omega) rfl) ?_
  refine XT.q rfl rfl (Quiet.guard2 rfl rfl fun g25a g25b => have p25a := bpF g25a; have p25b := bpT g25b; Q.lss (lzv g25b (lzv g25a rfl)) (lzv g25b (lzv g25a rfl))) ?_
  refine XT.q rfl rfl (Quiet.guardF rfl rfl fun g26 p26 => Q.and (lzv g26 rfl) (fun hp => (lzv hp (lzv g26 rfl)))) ?_
  refine XT.q rfl rfl (Q.or rfl (fun hp => lzv hp rfl)) ?_
  refine XT.q rfl rfl (Q.assign rfl) ?_
  refine XT.done ?_
  refine XK.rt [] Try.func69 Try.results69 (.t rfl .n) ?_
  exact ⟨rfl, rfl⟩
theorem lost_spec (S C K : Nat) (next : List Int) (good : List Bool) (ok : Ok S C K next good) (vn vg : Value) (hn : PHeap) [sn : Arr vn encI 1 hn next] (vi vc vr : Value) (hi hr : PHeap) (ins : List Bool) [si : Arr vi encB 1 hi ins] (rnk : List Int) [sr : Arr vr encI 1 hr rnk] [oc : One vc] (hlen : ins.length = S) (hrl : rnk.length = S) (s : Nat) (hs : s < S) :
    Spec Try.prog 48 #[.agg #[vi, vc, vr], .agg #[.int .i64 (S : Nat), .int .i64 (C : Nat), .int .i64 (K : Nat), vn, vg], .int .i64 (s : Nat)] [] [hn, hi, hr] (fun v hs => v = .bool (lostP next C K ins rnk s) ∧ hs = []) := by
  have hc2 := ok.c2
  have hmem : ∀ u, ∀ x ∈ leads next C K s u, x < ins.length := fun u x hx => by
    have := ok.inr x (List.mem_of_mem_drop (List.mem_of_mem_take hx))
    omega
  refine Spec.intro (fn := Try.f48) (N := 21) Try.func48 rfl Try.ntmps48 rfl fun B => ?_
  refine XK.seq ?_
  refine XK.region rfl ?_
  refine XO.box rfl fun b3 => ?_
  refine XO.box rfl fun b4 => ?_
  refine XO.box rfl fun b5 => ?_
  refine XO.q (Q.assign rfl) ?_
  refine XO.done ?_
  refine XK.seq ?_
  refine XK.seq ?_
  refine XK.region rfl ?_
  refine XO.q (Q.fieldAddr rfl) ?_
  refine XO.q (Q.ld rfl rfl) ?_
  refine XO.q (Q.move rfl) ?_
  refine XO.done ?_
  refine XK.block ?_
  refine XK.while (X := Nat) [6, 7, 10, 11, 12, 13, 14, 15, 16, 17, 18, 19, 20] (fun u => [(10, some (.int .i64 (u : Nat)))]) (fun u => []) (fun u => u ≤ C ∧ (List.range u).all (fun u => (leads next C K s u).any (badL ins rnk s)) = true) (fun u => C - u) (0) [] rfl ⟨by omega, rfl⟩ (.c rfl (.base 0 rfl rfl)) ?_
  rintro u ⟨hu, hall⟩ ih0
  dsimp only [List.cons_append, List.nil_append] at ih0 ⊢
  refine XK.seq ?_
  refine XK.region rfl ?_
  refine XO.q (Q.lss rfl rfl) ?_
  refine XO.done ?_
  refine XK.seq ?_
  refine XK.if rfl (fun c0 => ?_) (fun c0 => ?_)
  · have _t0 := True.intro
    refine XK.skip ?_
    refine XK.seq ?_
    refine XK.block ?_
    refine XK.seq ?_
    refine XK.region rfl ?_
    refine XO.q (Q.move rfl) ?_
    refine XO.q (Q.assign rfl) ?_
    refine XO.done ?_
    refine XK.seq ?_
    refine XK.region rfl ?_
    refine XO.q (Q.ldA [_, _, _, _, _] rfl rfl rfl) ?_
    refine XO.q (Q.ld rfl rfl) ?_
    refine XO.q (Q.move rfl) ?_
    refine XO.call Try.call40 rfl rfl rfl (leads_spec S C K next good ok vn vg hn s u hs (by omega)) fun v16 s16 R16 => ?_
    obtain ⟨rfl, A16⟩ := R16
    dsimp only [List.cons_append, List.nil_append]
    refine XO.q (Q.func (fun _ he => rfl) (fun _ he => evs_rel he rfl)) ?_
    refine XO.call Try.call63 rfl rfl rfl (containsFuncI v16 hn (leads next C K s u) 69 [ptr b3 0, ptr b5 0] [blk b3 [vi, vc, vr] 44, hi, hr, blk b5 [.int .i64 (s : Nat)] 3] _ Try.call69 (fun x hx => lost1 b3 b5 vi vc vr hi hr ins rnk (by omega) s (by omega) x (hmem u x hx))) fun v18 s18 R18 => ?_
    obtain ⟨rfl, rfl⟩ := R18
    dsimp only [List.cons_append, List.nil_append]
    refine XO.q (Q.not rfl) ?_
    refine XO.done ?_
    refine XK.if rfl (fun c1 => ?_) (fun c1 => ?_)
    · have _t1 := True.intro
      refine XK.seq ?_
      refine XK.region rfl ?_
      refine XO.q (Q.assign rfl) ?_
      refine XO.done ?_
      refine XK.rt [] Try.func48 Try.results48 (.t rfl .n) ?_
      exact ⟨by rw [lostP, all_false (s := u) (by omega) (by simpa using c1)], rfl⟩
    · have _t1 := True.intro
      refine XK.skip ?_
      refine XK.inBlock ?_
      refine XK.region rfl ?_
      refine XO.q (Q.add rfl rfl ⟨by omega, by omega⟩) ?_
      refine XO.q (Q.move rfl) ?_
      refine XO.done ?_
      exact ih0 (u + 1) _ _ ⟨by omega, by rw [all_succ, hall, Bool.true_and]; exact Classical.byContradiction fun h => c1 h⟩ (by first | omega | (dsimp only; omega)) (.c rfl (.base 26 rfl rfl)) inferInstance
  · have _t0 := True.intro
    refine XK.exit rfl ?_
    refine XK.seq ?_
    refine XK.region rfl ?_
    refine XO.q (Q.assign rfl) ?_
    refine XO.done ?_
    refine XK.rt [] Try.func48 Try.results48 (.t rfl .n) ?_
    have hC : u = C := by omega
    subst hC
    exact ⟨by rw [lostP, hall], rfl⟩
theorem keeps_specI (S C K : Nat) (next : List Int) (good : List Bool) (ok : Ok S C K next good) (vn vg : Value) (hn : PHeap) [sn : Arr vn encI 1 hn next] (vi vc vr : Value) (hi : PHeap) (ins : List Bool) [si : Arr vi encB 1 hi ins] [oc : One vc] [orr : One vr] (hlen : ins.length = S) (s : Nat) (u : Int) (hs : s < S) (hu : 0 ≤ u) (hu' : u < C) :
    Spec Try.prog 47 #[.agg #[vi, vc, vr], .agg #[.int .i64 (S : Nat), .int .i64 (C : Nat), .int .i64 (K : Nat), vn, vg], .int .i64 (s : Nat), .int .i64 u] [] [hn, hi] (fun v hs => v = .bool (keepsP next C K ins s u.toNat) ∧ hs = []) := by
  obtain ⟨n, rfl⟩ := Int.eq_ofNat_of_zero_le hu
  exact keeps_spec S C K next good ok vn vg hn vi vc vr hi ins hlen s n hs (by omega)
theorem Verify_spec (g : G) (vn vg : Value) (hn hg : PHeap) [sn : Arr vn encI 1 hn g.next] [sg : Arr vg encB 1 hg g.good] (vi vc vr : Value) (hi hc hr : PHeap) (ins : List Bool) [si : Arr vi encB 1 hi ins] (ctl : List Int) [sc : Arr vc encI 1 hc ctl] (rnk : List Int) [sr : Arr vr encI 1 hr rnk] : Spec Try.prog 21 #[.agg #[.int .i64 g.S, .int .i64 g.C, .int .i64 g.K, vn, vg], .agg #[vi, vc, vr]] [] [hn, hg, hi, hc, hr] (fun v hs => v = .int .i64 (verifyG g ins ctl rnk) ∧ hs = []) := by
  refine Spec.intro (fn := Try.f21) (N := 112) Try.func21 rfl Try.ntmps21 rfl fun B => ?_
  refine XK.seq ?_
  refine XK.region rfl ?_
  refine XO.box rfl fun b2 => ?_
  refine XO.box rfl fun b3 => ?_
  refine XO.q (Q.assign rfl) ?_
  refine XO.done ?_
  refine XK.seq ?_
  refine XK.seq ?_
  refine XK.region rfl ?_
  refine XO.q (Q.ldA [_, _, _, _, _] rfl rfl rfl) ?_
  refine XO.call Try.call38 rfl rfl rfl (check _ _ _ _ _) fun v12 s12 R12 => ?_
  obtain ⟨rfl, rfl⟩ := R12
  dsimp only [List.cons_append, List.nil_append]
  refine XO.q (Q.assign rfl) ?_
  refine XO.done ?_
  refine XK.seq ?_
  refine XK.region rfl ?_
  refine XO.q (Q.move rfl) ?_
  refine XO.q (Q.neq rfl rfl) ?_
  refine XO.done ?_
  refine XK.if rfl (fun c0 => ?_) (fun c0 => ?_)
  · have _t0 := True.intro
    refine XK.seq ?_
    refine XK.region rfl ?_
    refine XO.q (Q.move rfl) ?_
    refine XO.q (Q.assign rfl) ?_
    refine XO.done ?_
    refine XK.rt [] Try.func21 Try.results21 (.t rfl .n) ?_
    exact ⟨by rw [verify_bad c0], rfl⟩
  · have _t0 := True.intro
    obtain ⟨S, C, K, hS, hC, hK, ok⟩ := gcheck_ok (Decidable.of_not_not c0)
    obtain ⟨gS, gC, gK, next, good⟩ := g
    dsimp only at hS hC hK ok sn sg ⊢
    subst hS hC hK
    refine XK.skip ?_
    refine XK.seq ?_
    refine XK.seq ?_
    refine XK.region rfl ?_
    refine XO.q (Q.fieldAddr rfl) ?_
    refine XO.q (Q.ld rfl rfl) ?_
    refine XO.len rfl fun l18 => ?_
    refine XO.q (Q.fieldAddr rfl) ?_
    refine XO.q (Q.ld rfl rfl) ?_
    refine XO.q (Q.neq rfl rfl) ?_
    refine XO.q (Q.move rfl) ?_
    refine XO.q (Quiet.guardF rfl rfl fun g23 p23 => Q.fieldAddr rfl) ?_
    refine XO.q (Quiet.guardF rfl rfl fun g24 p24 => Q.ld (lzv g24 rfl) rfl) ?_
    refine XO.q (Quiet.guardF rfl rfl fun g25 p25 => Q.len (lzv g25 rfl)) ?_
    refine XO.q (Quiet.guardF rfl rfl fun g26 p26 => Q.fieldAddr rfl) ?_
    refine XO.q (Quiet.guardF rfl rfl fun g27 p27 => Q.ld (lzv g27 rfl) rfl) ?_
    refine XO.q (Quiet.guardF rfl rfl fun g28 p28 => Q.neq (lzv g28 rfl) (lzv g28 rfl)) ?_
    refine XO.q (Q.or rfl (fun hp => lzv hp rfl)) ?_
    refine XO.q (Q.move rfl) ?_
    refine XO.q (Quiet.guardF rfl rfl fun g31 p31 => Q.fieldAddr rfl) ?_
    refine XO.q (Quiet.guardF rfl rfl fun g32 p32 => Q.ld (lzv g32 rfl) rfl) ?_
    refine XO.q (Quiet.guardF rfl rfl fun g33 p33 => Q.len (lzv g33 rfl)) ?_
    refine XO.q (Quiet.guardF rfl rfl fun g34 p34 => Q.fieldAddr rfl) ?_
    refine XO.q (Quiet.guardF rfl rfl fun g35 p35 => Q.ld (lzv g35 rfl) rfl) ?_
    refine XO.q (Quiet.guardF rfl rfl fun g36 p36 => Q.neq (lzv g36 rfl) (lzv g36 rfl)) ?_
    refine XO.q (Q.or rfl (fun hp => lzv hp rfl)) ?_
    refine XO.done ?_
    refine XK.if rfl (fun c1 => ?_) (fun c1 => ?_)
    · have _t1 := True.intro
      refine XK.seq ?_
      refine XK.region rfl ?_
      refine XO.q (Q.assign rfl) ?_
      refine XO.done ?_
      refine XK.rt [] Try.func21 Try.results21 (.t rfl .n) ?_
      exact ⟨by rw [verify_len (Decidable.of_not_not c0) c1], rfl⟩
    · have _t1 := True.intro
      have hl1 : ins.length = S := by omega
      have hl2 : ctl.length = S := by omega
      have hl3 : rnk.length = S := by omega
      have hgl := ok.glen
      have hs2 := ok.s2
      have hcc := ok.c2
      refine XK.skip ?_
      refine XK.seq ?_
      refine XK.seq ?_
      refine XK.region rfl ?_
      refine XO.q (Q.fieldAddr rfl) ?_
      refine XO.q (Q.ld rfl rfl) ?_
      refine XO.len rfl fun l40 => ?_
      refine XO.q (Q.move rfl) ?_
      refine XO.done ?_
      refine XK.block ?_
      refine XK.while (X := Nat) [4, 6, 7, 8, 9, 10, 41, 42, 43, 44, 45, 46, 47, 48, 49, 50, 51, 52, 53, 54, 55, 56, 57, 58, 59, 60, 61, 62, 63, 64, 65, 66, 67, 68, 69, 70, 71, 72, 73, 74, 75, 76, 77, 78, 79, 80, 81, 82, 83, 84, 85, 86, 87, 88, 89, 90, 91, 92, 93, 94, 95, 96, 97, 98, 99, 100, 101, 102, 103, 104, 105, 106, 107, 108, 109, 110, 111] (fun s => [(41, some (.int .i64 (s : Nat)))]) (fun s => []) (fun s => s ≤ S ∧ (List.range s).all (rightP C K next good ins ctl rnk) = true) (fun s => S - s) (0) [] rfl ⟨by omega, rfl⟩ (.c rfl (.base 0 rfl rfl)) ?_
      rintro s ⟨hs, hall⟩ ih0
      dsimp only [List.cons_append, List.nil_append] at ih0 ⊢
      refine XK.seq ?_
      refine XK.region rfl ?_
      refine XO.q (Q.lss rfl rfl) ?_
      refine XO.done ?_
      refine XK.seq ?_
      refine XK.if rfl (fun c2 => ?_) (fun c2 => ?_)
      · have _t2 := True.intro
        refine XK.skip ?_
        refine XK.seq ?_
        refine XK.block ?_
        refine XK.seq ?_
        refine XK.region rfl ?_
        refine XO.q (Q.move rfl) ?_
        refine XO.ix rfl rfl (by omega) (by omega) fun i44 => ?_
        refine XO.q (Q.ldE rfl (by first | assumption | omega) rfl) ?_
        refine XO.q (Q.assign rfl) ?_
        refine XO.q (Q.assign rfl) ?_
        refine XO.done ?_
        refine XK.seq ?_
        refine XK.drawn [0, 1, 2, 3, 4, 5, 6, 7, 8, 9, 10, 11] [b3] [] (.q 0 (.q 1 (.q 2 (.q 3 (.q 4 (.q 5 (.q 6 (.q 7 (.q 8 (.q 9 (.q 10 (.q 11 .done)))))))))))) Try.mixed rfl (by kernel_rfl) ?_
        refine XT.q rfl rfl (Q.fieldAddr rfl) ?_
        refine XT.q rfl rfl (Q.ld rfl rfl) ?_
        refine XT.q rfl rfl (Q.move rfl) ?_
        refine XT.ix rfl rfl rfl rfl (by omega) (by omega) fun i49 => ?_
        refine XT.q rfl rfl (Q.ldE rfl (by first | assumption | omega) rfl) ?_
        refine XT.q rfl rfl (Q.fieldAddr rfl) ?_
        refine XT.q rfl rfl (Q.ld rfl rfl) ?_
        refine XT.q rfl rfl (Q.move rfl) ?_
        refine XT.ix rfl rfl rfl rfl (by omega) (by omega) fun i54 => ?_
        refine XT.q rfl rfl (Q.ldE rfl (by first | assumption | omega) rfl) ?_
        refine XT.q rfl rfl (Q.assign rfl) ?_
        refine XT.q rfl rfl (Q.assign rfl) ?_
        refine XT.done ?_
        refine XK.seq ?_
        refine XK.region rfl ?_
        refine XO.q (Q.assign rfl) ?_
        refine XO.done ?_
        refine XK.seq ?_
        refine XK.block ?_
        refine XK.seq ?_
        refine XK.region rfl ?_
        refine XO.q (Q.move rfl) ?_
        refine XO.q (Q.assign rfl) ?_
        refine XO.done ?_
        refine XK.meet (X := Bool) [10, 56, 57, 58, 59, 60, 61, 62, 63, 64, 65, 66, 67, 70, 71, 72, 73, 74, 75, 76, 77, 78, 79, 80, 81, 82, 83, 84, 85, 86, 87, 88, 89, 90, 91, 92, 93, 94, 95, 96, 97, 98, 99, 100, 101, 102, 103, 104, 105, 106, 107, 108] (fun y => [(10, some (.bool y))]) (fun y => []) (fun y => y = rightP C K next good ins ctl rnk s) [] ?_ ?_
        · rintro y hy
          dsimp only [List.cons_append, List.nil_append]
          refine XK.inBlock ?_
          refine XK.seq ?_
          refine XK.region rfl ?_
          refine XO.q (Q.move rfl) ?_
          refine XO.q (Q.not rfl) ?_
          refine XO.done ?_
          refine XK.if rfl (fun c4 => ?_) (fun c4 => ?_)
          · have _t4 := True.intro
            refine XK.seq ?_
            refine XK.region rfl ?_
            refine XO.q (Q.assign rfl) ?_
            refine XO.done ?_
            refine XK.rt [] Try.func21 Try.results21 (.t rfl .n) ?_
            exact ⟨by rw [verify_all ok hl1 hl2 hl3, if_neg]; rw [all_false (s := s) (by omega) (by rw [← hy]; simpa using c4)]; simp, rfl⟩
          · have _t4 := True.intro
            refine XK.skip ?_
            refine XK.inBlock ?_
            refine XK.region rfl ?_
            refine XO.q (Q.add rfl rfl ⟨by omega, by omega⟩) ?_
            refine XO.q (Q.move rfl) ?_
            refine XO.done ?_
            exact ih0 (s + 1) _ _ ⟨by omega, by rw [all_succ, hall, Bool.true_and, ← hy]; simpa using c4⟩ (by first | omega | (dsimp only; omega)) (.c rfl (.base 156 rfl rfl)) inferInstance
        · intro mt3
          dsimp only [List.cons_append, List.nil_append] at mt3
          refine XK.if rfl (fun c3 => ?_) (fun c3 => ?_)
          · have _t3 := True.intro
            refine XK.region rfl ?_
            refine XO.q (Q.fieldAddr rfl) ?_
            refine XO.q (Q.ld rfl rfl) ?_
            refine XO.q (Q.move rfl) ?_
            refine XO.ix rfl rfl (by omega) (by omega) fun i73 => ?_
            refine XO.q (Q.ldE rfl (by first | assumption | omega) rfl) ?_
            refine XO.q (Q.move rfl) ?_
            refine XO.q (Quiet.guardT rfl rfl fun g76 p76 => Q.move rfl) ?_
            refine XO.q (Quiet.guardT rfl rfl fun g77 p77 => Q.geq (lzv g77 rfl) rfl) ?_
            refine XO.q (Q.and rfl (fun hp => lzv hp rfl)) ?_
            refine XO.q (Q.move rfl) ?_
            refine XO.q (Quiet.guardT rfl rfl fun g80 p80 => Q.move rfl) ?_
            refine XO.q (Quiet.guardT rfl rfl fun g81 p81 => Q.fieldAddr rfl) ?_
            refine XO.q (Quiet.guardT rfl rfl fun g82 p82 => Q.ld (lzv g82 rfl) rfl) ?_
            refine XO.q (Quiet.guardT rfl rfl fun g83 p83 => Q.lss (lzv g83 rfl) (lzv g83 rfl)) ?_
            refine XO.q (Q.and rfl (fun hp => lzv hp rfl)) ?_
            refine XO.q (Q.move rfl) ?_
            refine XO.q (Quiet.guardT rfl rfl fun g86 p86 => Q.move rfl) ?_
            refine XO.q (Quiet.guardT rfl rfl fun g87 p87 => Q.eql (lzv g87 rfl) rfl) ?_
            refine XO.q (Q.and rfl (fun hp => lzv hp rfl)) ?_
            refine XO.q (Q.move rfl) ?_
            refine XO.q (Quiet.guardT rfl rfl fun g90 p90 => Q.ldA [_, _, _] rfl rfl rfl) ?_
            refine XO.q (Quiet.guardT rfl rfl fun g91 p91 => Q.ldA [_, _, _, _, _] rfl rfl rfl) ?_
            refine XO.q (Quiet.guardT rfl rfl fun g92 p92 => Q.move rfl) ?_
            refine XO.q (Quiet.guardT rfl rfl fun g93 p93 => Q.move rfl) ?_
            refine XO.gcallT rfl rfl Try.call47 rfl (fun g94 => .c (lzv g94 rfl) (.c (lzv g94 rfl) (.c (lzv g94 rfl) (.c (lzv g94 rfl) .n)))) rfl (fun g94 p94 => keeps_specI S C K next good ok vn vg hn vi vc vr hi ins hl1 s _ (by omega) (by omega) (by omega)) ?_
            refine XO.q (Q.and rfl (fun hp => lzv hp rfl)) ?_
            refine XO.q (Q.assign rfl) ?_
            refine XO.done ?_
            exact mt3 (_) _ _ (by unfold rightP; rw [if_pos c3]) (.c rfl (.base 27 rfl rfl)) inferInstance
          · have _t3 := True.intro
            refine XK.seq ?_
            refine XK.region rfl ?_
            refine XO.q (Q.move rfl) ?_
            refine XO.q (Q.eql rfl rfl) ?_
            refine XO.q (Q.assign rfl) ?_
            refine XO.done ?_
            refine XK.if rfl (fun c5 => ?_) (fun c5 => ?_)
            · have _t5 := True.intro
              refine XK.region rfl ?_
              refine XO.q (Q.move rfl) ?_
              refine XO.q (Q.eql rfl rfl) ?_
              refine XO.q (Q.move rfl) ?_
              refine XO.q (Quiet.guardT rfl rfl fun g102 p102 => Q.fieldAddr rfl) ?_
              refine XO.q (Quiet.guardT rfl rfl fun g103 p103 => Q.ld (lzv g103 rfl) rfl) ?_
              refine XO.q (Quiet.guardT rfl rfl fun g104 p104 => Q.move rfl) ?_
              refine XO.q (Quiet.guardT rfl rfl fun g105 p105 => Q.ix (lzv g105 rfl) (lzv g105 rfl) (by omega) (by omega)) ?_
              refine XO.q (Quiet.guardT rfl rfl fun g106 p106 => Q.ldE (lzv g106 rfl) (by first | assumption | omega) rfl) ?_
              refine XO.q (Quiet.guardT rfl rfl fun g107 p107 => Q.not (lzv g107 rfl)) ?_
              refine XO.q (Q.and rfl (fun hp => lzv hp rfl)) ?_
              refine XO.q (Q.assign rfl) ?_
              refine XO.done ?_
              exact mt3 (_) _ _ (by unfold rightP; rw [if_neg c3, if_pos c5]) (.c rfl (.base 14 rfl rfl)) inferInstance
            · have _t5 := True.intro
              refine XK.region rfl ?_
              refine XO.q (Q.move rfl) ?_
              refine XO.q (Q.eql rfl rfl) ?_
              refine XO.q (Q.move rfl) ?_
              refine XO.q (Quiet.guardT rfl rfl fun g59 p59 => Q.move rfl) ?_
              refine XO.q (Quiet.guardT rfl rfl fun g60 p60 => Q.gtr (lzv g60 rfl) rfl) ?_
              refine XO.q (Q.and rfl (fun hp => lzv hp rfl)) ?_
              refine XO.q (Q.move rfl) ?_
              refine XO.q (Quiet.guardT rfl rfl fun g63 p63 => Q.ldA [_, _, _] rfl rfl rfl) ?_
              refine XO.q (Quiet.guardT rfl rfl fun g64 p64 => Q.ldA [_, _, _, _, _] rfl rfl rfl) ?_
              refine XO.q (Quiet.guardT rfl rfl fun g65 p65 => Q.move rfl) ?_
              refine XO.gcallT rfl rfl Try.call48 rfl (fun g66 => .c (lzv g66 rfl) (.c (lzv g66 rfl) (.c (lzv g66 rfl) .n))) rfl (fun g66 p66 => lost_spec S C K next good ok vn vg hn vi vc vr hi hr ins rnk hl1 hl3 s (by omega)) ?_
              refine XO.q (Q.and rfl (fun hp => lzv hp rfl)) ?_
              refine XO.q (Q.assign rfl) ?_
              refine XO.done ?_
              exact mt3 (_) _ _ (by unfold rightP; rw [if_neg c3, if_neg c5]) (.c rfl (.base 16 rfl rfl)) inferInstance
      · have _t2 := True.intro
        refine XK.exit rfl ?_
        refine XK.seq ?_
        refine XK.region rfl ?_
        refine XO.q (Q.assign rfl) ?_
        refine XO.done ?_
        refine XK.rt [] Try.func21 Try.results21 (.t rfl .n) ?_
        have hsS : s = S := by omega
        rw [hsS] at hall
        exact ⟨by rw [verify_all ok hl1 hl2 hl3, if_pos hall], rfl⟩
end Go.X

set_option linter.unusedSimpArgs false
set_option linter.unusedVariables false
set_option maxRecDepth 20000
namespace Go.X
open Go.Proofs
theorem lawLeads (S C K : Nat) (next : List Int) (good : List Bool) (ok : Ok S C K next good) (vn vg : Value) (hn : PHeap) [sn : Arr vn encI 1 hn next] [oc : One vg] (s u w : Nat) (hs : s < S) (hu : u < C) (hw : w < K) : Spec Try.prog 23 #[.agg #[.int .i64 (S : Nat), .int .i64 (C : Nat), .int .i64 (K : Nat), vn, vg], .int .i64 (s : Nat), .int .i64 (u : Nat), .int .i64 (w : Nat)] [] [hn]
    (fun v hs => v = .int .i64 (next.getD ((s * C + u) * K + w) 0) ∧ hs = []) := by
  have hl := lead_le (K := K) hs hu
  have hlen := ok.len
  have hsc := ok.sc
  refine Spec.intro (fn := Try.f23) (N := 24) Try.func23 rfl Try.ntmps23 rfl fun B => ?_
  refine XK.seq ?_
  refine XK.region rfl ?_
  refine XO.box rfl fun b4 => ?_
  refine XO.q (Q.assign rfl) ?_
  refine XO.done ?_
  refine XK.seq ?_
  refine XK.region rfl ?_
  refine XO.q (Q.fieldAddr rfl) ?_
  refine XO.q (Q.ld rfl rfl) ?_
  refine XO.q (Q.move rfl) ?_
  refine XO.q (Q.fieldAddr rfl) ?_
  refine XO.q (Q.ld rfl rfl) ?_
  refine XO.q (Q.mul rfl rfl ⟨by rw [← Int.natCast_mul]; omega, by rw [← Int.natCast_mul]; omega⟩) ?_
  rw [show ((s : Int) * (C : Int)) = ((s * C : Nat) : Int) by simp]
  refine XO.q (Q.move rfl) ?_
  refine XO.q (Q.add rfl rfl ⟨by omega, by omega⟩) ?_
  rw [show (((s * C : Nat) : Int) + (u : Int)) = ((s * C + u : Nat) : Int) by simp]
  refine XO.q (Q.fieldAddr rfl) ?_
  refine XO.q (Q.ld rfl rfl) ?_
  refine XO.q (Q.mul rfl rfl ⟨by rw [← Int.natCast_mul]; omega, by rw [← Int.natCast_mul]; omega⟩) ?_
  rw [show (((s * C + u : Nat) : Int) * (K : Int)) = (((s * C + u) * K : Nat) : Int) by simp]
  refine XO.q (Q.move rfl) ?_
  refine XO.q (Q.add rfl rfl ⟨by omega, by omega⟩) ?_
  refine XO.ix rfl rfl (by omega) (by omega) fun i22 => ?_
  refine XO.q (Q.ldE rfl (by first | assumption | omega) rfl) ?_
  refine XO.q (Q.assign rfl) ?_
  refine XO.done ?_
  refine XK.rt [] Try.func23 Try.results23 (.t rfl .n) ?_
  exact ⟨rfl, rfl⟩
def kgP (next : List Int) (C K : Nat) (set : List Bool) (s : Nat) : Bool := (List.range C).any fun u => keepsP next C K set s u
theorem any_succ {p : Nat → Bool} {n : Nat} : (List.range (n + 1)).any p = ((List.range n).any p || p n) := by
  rw [List.range_succ, List.any_append]; simp
theorem any_true {p : Nat → Bool} {n s : Nat} (hs : s < n) (h : p s = true) : (List.range n).any p = true := by
  rw [List.any_eq_true]
  exact ⟨s, List.mem_range.2 hs, h⟩
theorem not_lt0 (n : Int) : (!decide (n < 0)) = decide (0 ≤ n) := by by_cases h : n < 0 <;> simp [h] <;> omega
theorem kg1 (S C K : Nat) (next : List Int) (good : List Bool) (ok : Ok S C K next good) (vn vg : Value) (hn : PHeap) [sn : Arr vn encI 1 hn next] [oc : One vg] (b : Nat) (vs : Value) (hz : PHeap) (set : List Bool) [ss : Arr vs encB 1 hz set] (hlen : set.length = S) (s : Nat) (hs : s < S) : Spec Try.prog 22 #[vs, .int .i64 (s : Nat), ptr b 0] [] [blk b [.int .i64 (S : Nat), .int .i64 (C : Nat), .int .i64 (K : Nat), vn, vg] 25, hn, hz]
    (fun v hs => v = .bool (kgP next C K set s) ∧ hs = []) := by
  have hc2 := ok.c2
  have hk2 := ok.k2
  refine Spec.intro (fn := Try.f22) (N := 39) Try.func22 rfl Try.ntmps22 rfl fun B => ?_
  refine XK.seq ?_
  refine XK.region rfl ?_
  refine XO.q (Q.assign rfl) ?_
  refine XO.done ?_
  refine XK.seq ?_
  refine XK.seq ?_
  refine XK.region rfl ?_
  refine XO.q (Q.fieldAddr rfl) ?_
  refine XO.q (Q.ld rfl rfl) ?_
  refine XO.q (Q.move rfl) ?_
  refine XO.done ?_
  refine XK.block ?_
  refine XK.while (X := Nat) [5, 6, 7, 8, 9, 12, 13, 14, 15, 16, 17, 18, 19, 20, 21, 22, 23, 24, 25, 26, 27, 28, 29, 30, 31, 32, 33, 34, 35, 36, 37, 38] (fun u => [(12, some (.int .i64 (u : Nat)))]) (fun u => []) (fun u => u ≤ C ∧ (List.range u).any (fun u => keepsP next C K set s u) = false) (fun u => C - u) (0) [] rfl ⟨by omega, rfl⟩ (.c rfl (.base 0 rfl rfl)) ?_
  rintro u ⟨hu, hany⟩ ih0
  dsimp only [List.cons_append, List.nil_append] at ih0 ⊢
  refine XK.seq ?_
  refine XK.region rfl ?_
  refine XO.q (Q.lss rfl rfl) ?_
  refine XO.done ?_
  refine XK.seq ?_
  refine XK.if rfl (fun c0 => ?_) (fun c0 => ?_)
  · have _t0 := True.intro
    refine XK.skip ?_
    refine XK.seq ?_
    refine XK.block ?_
    refine XK.seq ?_
    refine XK.region rfl ?_
    refine XO.q (Q.move rfl) ?_
    refine XO.q (Q.assign rfl) ?_
    refine XO.done ?_
    refine XK.seq ?_
    refine XK.region rfl ?_
    refine XO.q (Q.assign rfl) ?_
    refine XO.done ?_
    refine XK.seq ?_
    refine XK.seq ?_
    refine XK.region rfl ?_
    refine XO.q (Q.fieldAddr rfl) ?_
    refine XO.q (Q.ld rfl rfl) ?_
    refine XO.q (Q.move rfl) ?_
    refine XO.done ?_
    refine XK.block ?_
    refine XK.while (X := Nat) [7, 8, 9, 17, 18, 19, 20, 21, 22, 23, 24, 25, 26, 27, 28, 29, 30, 31, 32, 33, 34, 35, 36] (fun w => [(17, some (.int .i64 (w : Nat))), (7, some (.bool (((leads next C K s u).take w).all (fun n => !bad set n))))]) (fun w => []) (fun w => w ≤ K) (fun w => K - w) (0) [] rfl (by omega) (.c rfl (.c rfl (.base 0 rfl rfl))) ?_
    rintro w hw ih1
    dsimp only [List.cons_append, List.nil_append] at ih1 ⊢
    refine XK.seq ?_
    refine XK.region rfl ?_
    refine XO.q (Q.lss rfl rfl) ?_
    refine XO.done ?_
    refine XK.seq ?_
    refine XK.if rfl (fun c1 => ?_) (fun c1 => ?_)
    · have _t1 := True.intro
      have hgt := ok.get ((s * C + u) * K + w)
      refine XK.skip ?_
      refine XK.seq ?_
      refine XK.block ?_
      refine XK.seq ?_
      refine XK.region rfl ?_
      refine XO.q (Q.move rfl) ?_
      refine XO.q (Q.assign rfl) ?_
      refine XO.done ?_
      refine XK.seq ?_
      refine XK.region rfl ?_
      refine XO.q (Q.ldA [_, _, _, _, _] rfl rfl rfl) ?_
      refine XO.q (Q.move rfl) ?_
      refine XO.q (Q.move rfl) ?_
      refine XO.q (Q.move rfl) ?_
      refine XO.call Try.call23 rfl rfl rfl (lawLeads S C K next good ok vn vg hn s u w hs (by omega) (by omega)) fun v24 s24 R24 => ?_
      obtain ⟨rfl, rfl⟩ := R24
      dsimp only [List.cons_append, List.nil_append]
      refine XO.q (Q.assign rfl) ?_
      refine XO.done ?_
      refine XK.region rfl ?_
      refine XO.q (Q.move rfl) ?_
      refine XO.q (Q.move rfl) ?_
      refine XO.q (Quiet.guardT rfl rfl fun g27 p27 => Q.move rfl) ?_
      refine XO.q (Quiet.guardT rfl rfl fun g28 p28 => Q.geq (lzv g28 rfl) rfl) ?_
      refine XO.q (Q.and rfl (fun hp => lzv hp rfl)) ?_
      refine XO.q (Q.move rfl) ?_
      refine XO.q (Quiet.guardT rfl rfl fun g31 p31 => Q.move rfl) ?_
      refine XO.q (Quiet.guardT rfl rfl fun g32 p32 => Q.move rfl) ?_
      refine XO.q (Quiet.guardT rfl rfl fun g33 p33 => Q.ix (lzv g33 rfl) (lzv g33 rfl) (by omega) (by omega)) ?_
      refine XO.q (Quiet.guardT rfl rfl fun g34 p34 => Q.ldE (lzv g34 rfl) (by first | assumption | omega) rfl) ?_
      refine XO.q (Q.and rfl (fun hp => lzv hp rfl)) ?_
      refine XO.q (Q.assign rfl) ?_
      refine XO.done ?_
      refine XK.inBlock ?_
      refine XK.region rfl ?_
      refine XO.q (Q.add rfl rfl ⟨by omega, by omega⟩) ?_
      refine XO.q (Q.move rfl) ?_
      refine XO.done ?_
      have hls := leads_succ (next := next) (s := s) (v := u) (K := K) (C := C) (w := w) (by omega) (by have := lead_le (K := K) hs (show u < C by omega); have := ok.len; omega)
      have hal : ((leads next C K s u).take (w + 1)).all (fun n => !bad set n) = ((((leads next C K s u).take w).all (fun n => !bad set n) && decide (0 ≤ next.getD ((s * C + u) * K + w) 0)) && set.getD (next.getD ((s * C + u) * K + w) 0).toNat default) := by
        rw [hls, List.all_append]
        simp only [List.all_cons, List.all_nil, Bool.and_true, bad, Bool.not_or, Bool.and_assoc, Bool.not_not]
        rw [not_lt0]
        rfl
      rw [← hal]
      exact ih1 (w + 1) _ _ (by omega) (by first | omega | (dsimp only; omega)) (.c rfl (.c rfl (.base 48 rfl rfl))) inferInstance
    · have _t1 := True.intro
      have hwK : w = K := by omega
      refine XK.exit rfl ?_
      refine XK.seq ?_
      refine XK.region rfl ?_
      refine XO.q (Q.move rfl) ?_
      refine XO.done ?_
      refine XK.if rfl (fun c2 => ?_) (fun c2 => ?_)
      · have _t2 := True.intro
        refine XK.seq ?_
        refine XK.region rfl ?_
        refine XO.q (Q.assign rfl) ?_
        refine XO.done ?_
        refine XK.rt [] Try.func22 Try.results22 (.t rfl .n) ?_
        have hk : keepsP next C K set s u = true := by rw [keepsP_all]; have h := c2; rw [hwK, leads_full] at h; exact h
        exact ⟨by rw [kgP, any_true (s := u) (by omega) hk], rfl⟩
      · have _t2 := True.intro
        refine XK.skip ?_
        refine XK.inBlock ?_
        refine XK.region rfl ?_
        refine XO.q (Q.add rfl rfl ⟨by omega, by omega⟩) ?_
        refine XO.q (Q.move rfl) ?_
        refine XO.done ?_
        exact ih0 (u + 1) _ _ ⟨by omega, by rw [any_succ, hany, Bool.false_or, keepsP_all]; have h := c2; rw [hwK, leads_full] at h; simpa using h⟩ (by first | omega | (dsimp only; omega)) (.c rfl (.base 69 rfl rfl)) inferInstance
  · have _t0 := True.intro
    refine XK.exit rfl ?_
    refine XK.seq ?_
    refine XK.region rfl ?_
    refine XO.q (Q.assign rfl) ?_
    refine XO.done ?_
    refine XK.rt [] Try.func22 Try.results22 (.t rfl .n) ?_
    have huC : u = C := by omega
    rw [huC] at hany
    exact ⟨by rw [kgP, hany], rfl⟩
end Go.X

set_option linter.unusedSimpArgs false
set_option linter.unusedVariables false
set_option maxRecDepth 20000
namespace Go.X
open Go.Proofs
structure RV where
  ins : List Bool
  ctl : List Int
  rnk : List Int
  vi : Value
  vc : Value
  vr : Value
instance : Inhabited RV := ⟨⟨[], [], [], undef, undef, undef⟩⟩
def encRV (x : RV) : List Value := [x.vi, x.vc, x.vr]
theorem inS_set {l : List Bool} {i s : Nat} {b : Bool} (h : inS (l.set i b) s) : (s = i ∧ b = true) ∨ inS l s := by
  unfold inS at h ⊢
  rw [List.getD_eq_getElem?_getD, List.getElem?_set] at h
  by_cases h1 : i = s
  · subst h1
    by_cases h2 : i < l.length
    · simp [h2] at h; exact .inl ⟨rfl, h⟩
    · simp [h2] at h
  · rw [if_neg h1, ← List.getD_eq_getElem?_getD] at h
    exact .inr h
theorem inS_false {n s : Nat} : ¬ inS (List.replicate n false) s := by
  unfold inS
  rw [List.getD_eq_getElem?_getD, List.getElem?_replicate]
  split <;> simp
theorem count_set_lt {l : List Bool} {i : Nat} (h : inS l i) : (l.set i false).count true < l.count true := by
  have := count_setAll_lt (L := [i]) (l := l) (by simp) (fun s hs => by
    simp only [List.mem_singleton] at hs; subst hs; exact ⟨inS_lt h, h⟩)
  exact this
theorem kg_kept {S C K : Nat} {next : List Int} {set : List Bool} (h : ∀ s, s < S → inS set s → kgP next C K set s = true) (hl : set.length = S) : KeptBy next C K (inS set) := fun s hs => by
  have := h s (by have := inS_lt hs; omega) hs
  unfold kgP at this
  rw [List.any_eq_true] at this
  obtain ⟨u, hu, hk⟩ := this
  exact ⟨u, List.mem_range.1 hu, keepsP_iff.1 hk⟩
theorem verifyTwo (g : G) (vn vg : Value) (hn hg : PHeap) [sn : Arr vn encI 1 hn g.next] [sg : Arr vg encB 1 hg g.good] (x y : RV) (hxi hxc hxr hyi hyc hyr : PHeap) [ax : Arr x.vi encB 1 hxi x.ins] [bx : Arr x.vc encI 1 hxc x.ctl] [cx : Arr x.vr encI 1 hxr x.rnk] [ay : Arr y.vi encB 1 hyi y.ins] [byy : Arr y.vc encI 1 hyc y.ctl] [cy : Arr y.vr encI 1 hyr y.rnk] (i : Nat) (hi : i < 2) :
    Spec Try.prog 21 #[.agg #[.int .i64 g.S, .int .i64 g.C, .int .i64 g.K, vn, vg], .agg #[(([x, y] : List RV).getD i default).vi, (([x, y] : List RV).getD i default).vc, (([x, y] : List RV).getD i default).vr]] [] [hn, hg, hxi, hxc, hxr, hyi, hyc, hyr] (fun v hs => v = .int .i64 (verifyG g (([x, y] : List RV).getD i default).ins (([x, y] : List RV).getD i default).ctl (([x, y] : List RV).getD i default).rnk) ∧ hs = []) := by
  match i, hi with
  | 0, _ => exact (Verify_spec g vn vg hn hg x.vi x.vc x.vr hxi hxc hxr x.ins x.ctl x.rnk).more (fun h hh => by simp at hh; rcases hh with rfl | rfl | rfl | rfl | rfl <;> simp)
  | 1, _ => exact (Verify_spec g vn vg hn hg y.vi y.vc y.vr hyi hyc hyr y.ins y.ctl y.rnk).more (fun h hh => by simp at hh; rcases hh with rfl | rfl | rfl | rfl | rfl <;> simp)
theorem equalTwo (x y : RV) (hxi hyi : PHeap) [ax : Arr x.vi encB 1 hxi x.ins] [ay : Arr y.vi encB 1 hyi y.ins] (w : Value) (hw : PHeap) (zs : List Bool) [aw : Arr w encB 1 hw zs] (i : Nat) (hi : i < 2) :
    Spec Try.prog 27 #[(([x, y] : List RV).getD i default).vi, w] [] [hxi, hyi, hw] (fun v hs => v = .bool (decide ((([x, y] : List RV).getD i default).ins = zs)) ∧ hs = []) := by
  match i, hi with
  | 0, _ => exact (equalB x.vi w hxi hw x.ins zs).more (fun h hh => by simp at hh; rcases hh with rfl | rfl <;> simp)
  | 1, _ => exact (equalB y.vi w hyi hw y.ins zs).more (fun h hh => by simp at hh; rcases hh with rfl | rfl <;> simp)
set_option maxHeartbeats 4000000 in
theorem KeepGreatest_spec (vl : Value) (hl : PHeap) (l : List UInt8) [sl : Arr vl encU8 1 hl l] (mb : Nat) (hmb : mb < 65536) (vp : Value) (hp : PHeap) (p : List UInt8) [sp : Arr vp encU8 1 hp p] (vq : Value) (hq : PHeap) (q : List UInt8) [sq : Arr vq encU8 1 hq q] :
    Spec Try.prog 5 #[vl, .int .u16 (mb : Nat), vp, vq] [] [hl, hp, hq] (fun v hs => v = .bool true ∧ hs = []) := by
  refine Spec.intro (fn := Try.f5) (N := 267) Try.func5 rfl Try.ntmps5 rfl fun B => ?_
  refine XK.seq ?_
  refine XK.region rfl ?_
  refine XO.q (Q.assign rfl) ?_
  refine XO.done ?_
  refine XK.seq ?_
  refine XK.region rfl ?_
  refine XO.q (Q.move rfl) ?_
  refine XO.call Try.call19 rfl rfl rfl (made_spec vl hl l) fun v30 s30 R30 => ?_
  obtain ⟨ga, va, wa, ka, la, rfl, rfl, ONa, OGa, ca⟩ := R30
  dsimp only [List.cons_append, List.nil_append]
  obtain ⟨Sa, Ca, Ka, hSa, hCa, hKa, oka⟩ := gcheck_ok ca
  obtain ⟨gSa, gCa, gKa, na, da⟩ := ga
  dsimp only at hSa hCa hKa oka ONa OGa ⊢
  subst hSa hCa hKa
  have has1 := oka.s1
  have has2 := oka.s2
  have hac1 := oka.c1
  have hac2 := oka.c2
  have hak1 := oka.k1
  have hak2 := oka.k2
  have hal := solveG_len oka
  refine XO.alloc fun b9 => ?_
  refine XO.st rfl rfl rfl ?_
  refine XO.done ?_
  refine XK.seq ?_
  refine XK.region rfl ?_
  refine XO.q (Q.ldA [_, _, _, _, _] rfl rfl rfl) ?_
  refine XO.call Try.call20 rfl rfl rfl (Solve_spec (mkG Sa Ca Ka na da) va wa ka la) fun v33 s33 R33 => ?_
  obtain ⟨p33, q33, r33, kp33, kq33, kr33, rfl, rfl, OP33, OQ33, OR33⟩ := R33
  dsimp only [List.cons_append, List.nil_append]
  rw [gcheck_mk oka]
  rw [solveG_mk oka] at OP33 OQ33 OR33
  obtain ⟨rI, rC, rK, rr⟩ := solved_right oka
  have rv := solved_verify oka
  obtain ⟨_, sgd, sk, sm⟩ := solved_law (S := Sa) (C := Ca) (K := Ka) (next := na) oka.glen
  have su : ∀ ins ctl rnk, verifyG (mkG Sa Ca Ka na da) ins ctl rnk = 0 → ins = (solved Sa Ca Ka na da).1 := fun _ _ _ h => cert_unique oka h
  have hag := oka.glen
  obtain ⟨I, eI⟩ : ∃ I, I = (solved Sa Ca Ka na da).1 := ⟨_, rfl⟩
  obtain ⟨Ct, eC⟩ : ∃ Ct, Ct = (solved Sa Ca Ka na da).2.1 := ⟨_, rfl⟩
  obtain ⟨Rk, eR⟩ : ∃ Rk, Rk = (solved Sa Ca Ka na da).2.2 := ⟨_, rfl⟩
  simp only [← eI, ← eC, ← eR] at OP33 OQ33 OR33 rI rC rK rr rv sgd sk sm su
  refine XO.q (Q.move rfl) ?_
  refine XO.q (Q.extract rfl rfl) ?_
  refine XO.q (Q.extract rfl rfl) ?_
  refine XO.alloc fun b10 => ?_
  refine XO.st rfl rfl rfl ?_
  refine XO.q (Q.assign rfl) ?_
  refine XO.done ?_
  refine XK.seq ?_
  refine XK.seq ?_
  refine XK.region rfl ?_
  refine XO.q (Q.move rfl) ?_
  refine XO.q (Q.neq rfl rfl) ?_
  refine XO.q (Q.move rfl) ?_
  refine XO.q (Quiet.guardF rfl rfl fun g39 p39 => Q.ldA [_, _, _, _, _] rfl rfl rfl) ?_
  refine XO.q (Quiet.guardF rfl rfl fun g40 p40 => Q.ldA [_, _, _] rfl rfl rfl) ?_
  refine XO.gcallF rfl rfl Try.call21 rfl (fun g41 => .c (lzv g41 rfl) (.c (lzv g41 rfl) .n)) rfl (fun g41 p41 => Verify_spec (mkG Sa Ca Ka na da) va wa ka la p33 q33 r33 kp33 kq33 kr33 I Ct Rk) ?_
  refine XO.q (Quiet.guardF rfl rfl fun g42 p42 => Q.neq (lzv g42 rfl) rfl) ?_
  refine XO.q (Q.or rfl (fun hp => lzv hp rfl)) ?_
  refine XO.q (Q.move rfl) ?_
  refine XO.q (Quiet.guardF rfl rfl fun g45 p45 => Q.fieldAddr rfl) ?_
  refine XO.q (Quiet.guardF rfl rfl fun g46 p46 => Q.ld (lzv g46 rfl) rfl) ?_
  refine XO.q (Quiet.guardF rfl rfl fun g47 p47 => Q.len (lzv g47 rfl)) ?_
  refine XO.q (Quiet.guardF rfl rfl fun g48 p48 => Q.fieldAddr rfl) ?_
  refine XO.q (Quiet.guardF rfl rfl fun g49 p49 => Q.ld (lzv g49 rfl) rfl) ?_
  refine XO.q (Quiet.guardF rfl rfl fun g50 p50 => Q.neq (lzv g50 rfl) (lzv g50 rfl)) ?_
  refine XO.q (Q.or rfl (fun hp => lzv hp rfl)) ?_
  refine XO.q (Q.move rfl) ?_
  refine XO.q (Quiet.guardF rfl rfl fun g53 p53 => Q.fieldAddr rfl) ?_
  refine XO.q (Quiet.guardF rfl rfl fun g54 p54 => Q.ld (lzv g54 rfl) rfl) ?_
  refine XO.q (Quiet.guardF rfl rfl fun g55 p55 => Q.len (lzv g55 rfl)) ?_
  refine XO.q (Quiet.guardF rfl rfl fun g56 p56 => Q.fieldAddr rfl) ?_
  refine XO.q (Quiet.guardF rfl rfl fun g57 p57 => Q.ld (lzv g57 rfl) rfl) ?_
  refine XO.q (Quiet.guardF rfl rfl fun g58 p58 => Q.neq (lzv g58 rfl) (lzv g58 rfl)) ?_
  refine XO.q (Q.or rfl (fun hp => lzv hp rfl)) ?_
  refine XO.q (Q.move rfl) ?_
  refine XO.q (Quiet.guardF rfl rfl fun g61 p61 => Q.fieldAddr rfl) ?_
  refine XO.q (Quiet.guardF rfl rfl fun g62 p62 => Q.ld (lzv g62 rfl) rfl) ?_
  refine XO.q (Quiet.guardF rfl rfl fun g63 p63 => Q.len (lzv g63 rfl)) ?_
  refine XO.q (Quiet.guardF rfl rfl fun g64 p64 => Q.fieldAddr rfl) ?_
  refine XO.q (Quiet.guardF rfl rfl fun g65 p65 => Q.ld (lzv g65 rfl) rfl) ?_
  refine XO.q (Quiet.guardF rfl rfl fun g66 p66 => Q.neq (lzv g66 rfl) (lzv g66 rfl)) ?_
  refine XO.q (Q.or rfl (fun hp => lzv hp rfl)) ?_
  refine XO.done ?_
  refine XK.if rfl (fun c0 => ?_) (fun c0 => ?_)
  · have _t0 := True.intro
    rw [rv, rI, rC, rK] at c0
    simp at c0
  · have _t0 := True.intro
    refine XK.skip ?_
    refine XK.seq ?_
    refine XK.region rfl ?_
    refine XO.q (Q.func (fun _ he => rfl) (fun _ he => evs_rel he rfl)) ?_
    refine XO.q (Q.assign rfl) ?_
    refine XO.done ?_
    refine XK.seq ?_
    refine XK.seq ?_
    refine XK.region rfl ?_
    refine XO.q (Q.fieldAddr rfl) ?_
    refine XO.q (Q.ld rfl rfl) ?_
    refine XO.len rfl fun l71 => ?_
    refine XO.q (Q.move rfl) ?_
    refine XO.done ?_
    refine XK.block ?_
    refine XK.while (X := Nat) [8, 13, 14, 72, 73, 74, 75, 76, 77, 78, 79, 80, 81, 82, 83, 84, 85, 86, 87, 88, 89, 90, 91, 92, 93, 94] (fun i => [(72, some (.int .i64 (i : Nat)))]) (fun i => []) (fun i => i ≤ Sa) (fun i => Sa - i) (0) [] rfl (by omega) (.c rfl (.base 0 rfl rfl)) ?_
    rintro i hi ih0
    dsimp only [List.cons_append, List.nil_append] at ih0 ⊢
    refine XK.seq ?_
    refine XK.region rfl ?_
    refine XO.q (Q.lss rfl rfl) ?_
    refine XO.done ?_
    refine XK.seq ?_
    refine XK.if rfl (fun c1 => ?_) (fun c1 => ?_)
    · have _t1 := True.intro
      refine XK.skip ?_
      refine XK.seq ?_
      refine XK.block ?_
      refine XK.seq ?_
      refine XK.region rfl ?_
      refine XO.q (Q.move rfl) ?_
      refine XO.ix rfl rfl (by omega) (by omega) fun i75 => ?_
      refine XO.q (Q.ldE rfl (by first | assumption | omega) rfl) ?_
      refine XO.q (Q.assign rfl) ?_
      refine XO.q (Q.assign rfl) ?_
      refine XO.done ?_
      refine XK.seq ?_
      refine XK.region rfl ?_
      refine XO.q (Q.move rfl) ?_
      refine XO.q (Q.move rfl) ?_
      refine XO.q (Quiet.guardT rfl rfl fun g79 p79 => Q.fieldAddr rfl) ?_
      refine XO.q (Quiet.guardT rfl rfl fun g80 p80 => Q.ld (lzv g80 rfl) rfl) ?_
      refine XO.q (Quiet.guardT rfl rfl fun g81 p81 => Q.move rfl) ?_
      refine XO.q (Quiet.guardT rfl rfl fun g82 p82 => Q.ix (lzv g82 rfl) (lzv g82 rfl) (by omega) (by omega)) ?_
      refine XO.q (Quiet.guardT rfl rfl fun g83 p83 => Q.ldE (lzv g83 rfl) (by first | assumption | omega) rfl) ?_
      refine XO.q (Quiet.guardT rfl rfl fun g84 p84 => Q.not (lzv g84 rfl)) ?_
      refine XO.q (Quiet.guardT rfl rfl fun g85 p85 => Q.move (lzv g85 rfl)) ?_
      refine XO.q (Quiet.guard2 rfl rfl fun g86a g86b => have p86a := bpT g86a; have p86b := bpF g86b; Q.move rfl) ?_
      refine XO.q (Quiet.guard2 rfl rfl fun g87a g87b => have p87a := bpT g87a; have p87b := bpF g87b; Q.fieldAddr rfl) ?_
      refine XO.q (Quiet.guard2 rfl rfl fun g88a g88b => have p88a := bpT g88a; have p88b := bpF g88b; Q.ld (lzv g88b (lzv g88a rfl)) rfl) ?_
      refine XO.q (Quiet.guard2 rfl rfl fun g89a g89b => have p89a := bpT g89a; have p89b := bpF g89b; Q.move rfl) ?_
      refine XO.vg2 rfl rfl (fun g90a g90b => (lzv g90b (lzv g90a rfl))) (fun g90a g90b => .c (lzv g90b (lzv g90a rfl)) (.c (lzv g90b (lzv g90a rfl)) .n)) (fun g90a g90b => have p90a := bpT g90a; have p90b := bpF g90b; VSpec.fn (P := Try.prog) Try.call22 rfl (kg1 Sa Ca Ka na da oka va wa ka b9 p33 kp33 I rI i (by omega))) ?_
      refine XO.q (Quiet.guard2 rfl rfl fun g91a g91b => have p91a := bpT g91a; have p91b := bpF g91b; Q.not (lzv g91b (lzv g91a rfl))) ?_
      refine XO.q (Quiet.guardT rfl rfl fun g92 p92 => Q.or (lzv g92 rfl) (fun hp => (lzv hp (lzv g92 rfl)))) ?_
      refine XO.q (Q.and rfl (fun hp => lzv hp rfl)) ?_
      refine XO.done ?_
      refine XK.if rfl (fun c2 => ?_) (fun c2 => ?_)
      · have _t2 := True.intro
        exfalso
        rcases rr i (by omega) with ⟨_, h2, _, u, hu, _, hk⟩ | ⟨h, _⟩
        · rcases c2.2 with h | h
          · exact h h2
          · exact h (any_true (p := fun u => keepsP na Ca Ka I i u) hu hk)
        · exact h c2.1
      · have _t2 := True.intro
        refine XK.skip ?_
        refine XK.inBlock ?_
        refine XK.region rfl ?_
        refine XO.q (Q.add rfl rfl ⟨by omega, by omega⟩) ?_
        refine XO.q (Q.move rfl) ?_
        refine XO.done ?_
        exact ih0 (i + 1) _ _ (by omega) (by first | omega | (dsimp only; omega)) (.c rfl (.base 52 rfl rfl)) inferInstance
    · have _t1 := True.intro
      clear ih0 hi c1 l71 hal c0
      refine XK.exit rfl ?_
      refine XK.seq ?_
      refine XK.region rfl ?_
      refine XO.q (Q.fieldAddr rfl) ?_
      refine XO.q (Q.ld rfl rfl) ?_
      refine XO.make encB (false) rfl rfl rfl (by omega) (by omega) (fun _ => rfl) rfl rfl rfl (by dsimp only [encB]; infer_instance) fun v97 h97 O97 => ?_
      refine XO.q (Q.assign rfl) ?_
      refine XO.done ?_
      refine XK.seq ?_
      refine XK.seq ?_
      refine XK.region rfl ?_
      refine XO.q (Q.move rfl) ?_
      refine XO.len rfl fun l99 => ?_
      rw [List.length_replicate]
      refine XO.q (Q.move rfl) ?_
      refine XO.done ?_
      refine XK.block ?_
      refine XK.while (X := Nat × PHeap × List Bool) [16, 100, 101, 102, 103, 104, 105, 106, 107, 108, 109, 110, 111, 112, 113, 114, 115, 116, 117, 118] (fun ⟨i, hz, set⟩ => [(100, some (.int .i64 (i : Nat)))]) (fun ⟨i, hz, set⟩ => [hz]) (fun ⟨i, hz, set⟩ => i ≤ Sa ∧ set.length = Sa ∧ (∀ s, inS set s → inS da s) ∧ OArr v97 encB 1 4 hz set) (fun ⟨i, hz, set⟩ => Sa - i) (0, h97, List.replicate Sa false) [h97] rfl ⟨by omega, by simp, fun s hs => absurd hs inS_false, O97⟩ (.c rfl (.base 0 rfl rfl)) ?_
      rintro ⟨i, hz, set⟩ ⟨hi, hsl, hsg, OZ⟩ ih1
      dsimp only [List.cons_append, List.nil_append] at ih1 ⊢
      refine XK.seq ?_
      refine XK.region rfl ?_
      refine XO.q (Q.lss rfl rfl) ?_
      refine XO.done ?_
      refine XK.seq ?_
      refine XK.if rfl (fun c3 => ?_) (fun c3 => ?_)
      · have _t3 := True.intro
        refine XK.skip ?_
        refine XK.seq ?_
        refine XK.block ?_
        refine XK.seq ?_
        refine XK.region rfl ?_
        refine XO.q (Q.move rfl) ?_
        refine XO.q (Q.assign rfl) ?_
        refine XO.done ?_
        refine XK.region rfl ?_
        refine XO.q (Q.move rfl) ?_
        refine XO.q (Q.move rfl) ?_
        refine XO.q (Q.move rfl) ?_
        refine XO.q (Q.move rfl) ?_
        refine XO.q (Q.shrW rfl rfl (by omega)) ?_
        refine XO.q (Q.andW rfl rfl) ?_
        refine XO.q (Q.eql rfl rfl) ?_
        refine XO.q (Q.move rfl) ?_
        refine XO.q (Quiet.guardT rfl rfl fun g111 p111 => Q.fieldAddr rfl) ?_
        refine XO.q (Quiet.guardT rfl rfl fun g112 p112 => Q.ld (lzv g112 rfl) rfl) ?_
        refine XO.q (Quiet.guardT rfl rfl fun g113 p113 => Q.move rfl) ?_
        refine XO.q (Quiet.guardT rfl rfl fun g114 p114 => Q.ix (lzv g114 rfl) (lzv g114 rfl) (by omega) (by omega)) ?_
        refine XO.q (Quiet.guardT rfl rfl fun g115 p115 => Q.ldE (lzv g115 rfl) (by first | assumption | omega) rfl) ?_
        refine XO.q (Q.and rfl (fun hp => lzv hp rfl)) ?_
        refine XO.ix rfl rfl (by omega) (by omega) fun i117 => ?_
        refine XO.stE _ rfl rfl rfl (by assumption) rfl rfl fun h16_15 O16_15 => ?_
        refine XO.done ?_
        refine XK.inBlock ?_
        refine XK.region rfl ?_
        refine XO.q (Q.add rfl rfl ⟨by omega, by omega⟩) ?_
        refine XO.q (Q.move rfl) ?_
        refine XO.done ?_
        exact ih1 (i + 1, h16_15, set.set i _) _ _ ⟨by omega, by rw [List.length_set]; exact hsl, fun s hs => by
            rcases inS_set hs with ⟨h1, h2⟩ | h
            · rw [Bool.and_eq_true] at h2; rw [h1]; exact h2.2
            · exact hsg s h, O16_15⟩ (by first | omega | (dsimp only; omega)) (.c rfl (.base 41 rfl rfl)) inferInstance
      · have _t3 := True.intro
        clear ih1 hi c3 l99 hag
        refine XK.exit rfl ?_
        refine XK.seq ?_
        refine XK.seq ?_
        refine XK.region rfl ?_
        refine XO.q (Q.assign rfl) ?_
        refine XO.done ?_
        refine XK.block ?_
        refine XK.while (X := Bool × PHeap × List Bool) [17, 18, 19, 119, 120, 121, 122, 123, 124, 125, 126, 127, 128, 129, 130, 131, 132, 133, 134, 135, 136, 137, 138] (fun ⟨ag, hz2, set2⟩ => [(17, some (.bool ag))]) (fun ⟨ag, hz2, set2⟩ => [hz2]) (fun ⟨ag, hz2, set2⟩ => set2.length = Sa ∧ (∀ s, inS set2 s → inS da s) ∧ (ag = false → KeptBy na Ca Ka (inS set2)) ∧ OArr v97 encB 1 4 hz2 set2) (fun ⟨ag, hz2, set2⟩ => 2 * set2.count true + ag.toNat) (true, hz, set) [hz] rfl ⟨hsl, hsg, (fun h => by cases h), OZ⟩ (.c rfl (.base 0 rfl rfl)) ?_
        rintro ⟨ag, hz2, set2⟩ ⟨hl2, hg2, hkp, OZ2⟩ ih2
        dsimp only [List.cons_append, List.nil_append] at ih2 ⊢
        refine XK.seq ?_
        refine XK.seq ?_
        refine XK.region rfl ?_
        refine XO.q (Q.move rfl) ?_
        refine XO.done ?_
        refine XK.if rfl (fun c4 => ?_) (fun c4 => ?_)
        · have _t4 := True.intro
          refine XK.skip ?_
          refine XK.block ?_
          refine XK.seq ?_
          refine XK.region rfl ?_
          refine XO.q (Q.assign rfl) ?_
          refine XO.done ?_
          refine XK.seq ?_
          refine XK.region rfl ?_
          refine XO.q (Q.move rfl) ?_
          refine XO.len rfl fun l121 => ?_
          refine XO.q (Q.move rfl) ?_
          refine XO.done ?_
          refine XK.block ?_
          refine XK.while (X := Nat × Bool × PHeap × List Bool) [17, 18, 19, 122, 123, 124, 125, 126, 127, 128, 129, 130, 131, 132, 133, 134, 135, 136, 137, 138] (fun ⟨i, ah, hz3, set3⟩ => [(122, some (.int .i64 (i : Nat))), (17, some (.bool ah))]) (fun ⟨i, ah, hz3, set3⟩ => [hz3]) (fun ⟨i, ah, hz3, set3⟩ => i ≤ Sa ∧ set3.length = Sa ∧ (∀ s, inS set3 s → inS set2 s) ∧ set3.count true ≤ set2.count true ∧ (ah = true → set3.count true < set2.count true) ∧ (ah = false → set3 = set2 ∧ ∀ s, s < i → inS set2 s → kgP na Ca Ka set2 s = true) ∧ OArr v97 encB 1 4 hz3 set3) (fun ⟨i, ah, hz3, set3⟩ => Sa - i) (0, false, hz2, set2) [hz2] rfl ⟨by omega, hl2, fun _ h => h, Nat.le_refl _, (fun h => by cases h), (fun _ => ⟨rfl, fun s hs => by omega⟩), OZ2⟩ (.c rfl (.c rfl (.base 0 rfl rfl))) ?_
          rintro ⟨i, ah, hz3, set3⟩ ⟨hi, hl3, hsub, hle, hlt, he, OZ3⟩ ih3
          dsimp only [List.cons_append, List.nil_append] at ih3 ⊢
          refine XK.seq ?_
          refine XK.region rfl ?_
          refine XO.q (Q.lss rfl rfl) ?_
          refine XO.done ?_
          refine XK.seq ?_
          refine XK.if rfl (fun c5 => ?_) (fun c5 => ?_)
          · have _t5 := True.intro
            refine XK.skip ?_
            refine XK.seq ?_
            refine XK.block ?_
            refine XK.seq ?_
            refine XK.region rfl ?_
            refine XO.q (Q.move rfl) ?_
            refine XO.ix rfl rfl (by omega) (by omega) fun i125 => ?_
            refine XO.q (Q.ldE rfl (by first | assumption | omega) rfl) ?_
            refine XO.q (Q.assign rfl) ?_
            refine XO.q (Q.assign rfl) ?_
            refine XO.done ?_
            refine XK.seq ?_
            refine XK.region rfl ?_
            refine XO.q (Q.move rfl) ?_
            refine XO.q (Q.move rfl) ?_
            refine XO.q (Quiet.guardT rfl rfl fun g129 p129 => Q.move rfl) ?_
            refine XO.q (Quiet.guardT rfl rfl fun g130 p130 => Q.move rfl) ?_
            refine XO.q (Quiet.guardT rfl rfl fun g131 p131 => Q.move rfl) ?_
            refine XO.vg1 rfl rfl (fun g132 => (lzv g132 rfl)) (fun g132 => .c (lzv g132 rfl) (.c (lzv g132 rfl) .n)) (fun g132 => have p132 := bpT g132; VSpec.fn (P := Try.prog) Try.call22 rfl (kg1 Sa Ca Ka na da oka va wa ka b9 v97 hz3 set3 hl3 i (by omega))) ?_
            refine XO.q (Quiet.guardT rfl rfl fun g133 p133 => Q.not (lzv g133 rfl)) ?_
            refine XO.q (Q.and rfl (fun hp => lzv hp rfl)) ?_
            refine XO.done ?_
            refine XK.if rfl (fun c6 => ?_) (fun c6 => ?_)
            · have _t6 := True.intro
              refine XK.region rfl ?_
              refine XO.q (Q.move rfl) ?_
              refine XO.q (Q.move rfl) ?_
              refine XO.ix rfl rfl (by omega) (by omega) fun i137 => ?_
              refine XO.stE _ rfl rfl rfl (by assumption) rfl rfl fun h25_3 O25_3 => ?_
              refine XO.q (Q.assign rfl) ?_
              refine XO.done ?_
              refine XK.inBlock ?_
              refine XK.region rfl ?_
              refine XO.q (Q.add rfl rfl ⟨by omega, by omega⟩) ?_
              refine XO.q (Q.move rfl) ?_
              refine XO.done ?_
              exact ih3 (i + 1, true, h25_3, set3.set i false) _ _ ⟨by omega, by rw [List.length_set]; exact hl3, fun s hs => by
                  rcases inS_set hs with ⟨_, h2⟩ | h
                  · cases h2
                  · exact hsub s h, Nat.le_trans (count_set_le _ _) hle, fun _ => Nat.lt_of_lt_of_le (count_set_lt c6.1) hle, (fun h => by cases h), O25_3⟩ (by first | omega | (dsimp only; omega)) (.c rfl (.c rfl (.base 42 rfl rfl))) inferInstance
            · have _t6 := True.intro
              refine XK.skip ?_
              refine XK.inBlock ?_
              refine XK.region rfl ?_
              refine XO.q (Q.add rfl rfl ⟨by omega, by omega⟩) ?_
              refine XO.q (Q.move rfl) ?_
              refine XO.done ?_
              exact ih3 (i + 1, ah, hz3, set3) _ _ ⟨by omega, hl3, hsub, hle, hlt, fun h => ⟨(he h).1, fun s hs hin => by
                  obtain ⟨e3, h3⟩ := he h
                  rcases Nat.lt_or_ge s i with h4 | h4
                  · exact h3 s h4 hin
                  · have h5 : s = i := by omega
                    rw [h5] at hin ⊢
                    rw [e3] at c6
                    exact Classical.byContradiction fun hn => c6 ⟨hin, hn⟩⟩, OZ3⟩ (by first | omega | (dsimp only; omega)) (.c rfl (.c rfl (.base 38 rfl rfl))) inferInstance
          · have _t5 := True.intro
            refine XK.exit rfl ?_
            refine XK.inBlock ?_
            have hiS : i = Sa := by omega
            exact ih2 (ah, hz3, set3) _ _ ⟨hl3, fun s hs => hg2 s (hsub s hs), fun h => by
                obtain ⟨e3, h3⟩ := he h
                rw [e3]
                exact kg_kept (S := Sa) (fun s hs hin => h3 s (by omega) hin) hl2, OZ3⟩ (by dsimp only; rw [c4]; cases ah with | true => (have := hlt rfl; simp only [Bool.toNat_true]; omega) | false => (simp only [Bool.toNat_true, Bool.toNat_false]; omega)) (.c rfl (.base 52 rfl rfl)) inferInstance
        · have _t4 := True.intro
          have hk := hkp (by simpa using c4)
          refine XK.exit rfl ?_
          refine XK.seq ?_
          refine XK.seq ?_
          refine XK.region rfl ?_
          refine XO.q (Q.move rfl) ?_
          refine XO.len rfl fun l140 => ?_
          refine XO.q (Q.move rfl) ?_
          refine XO.done ?_
          refine XK.block ?_
          refine XK.while (X := Nat) [8, 20, 21, 141, 142, 143, 144, 145, 146, 147, 148, 149, 150, 151, 152, 153, 154, 155] (fun i => [(141, some (.int .i64 (i : Nat)))]) (fun i => []) (fun i => i ≤ Sa) (fun i => Sa - i) (0) [] rfl (by omega) (.c rfl (.base 0 rfl rfl)) ?_
          rintro i hi ih4
          dsimp only [List.cons_append, List.nil_append] at ih4 ⊢
          refine XK.seq ?_
          refine XK.region rfl ?_
          refine XO.q (Q.lss rfl rfl) ?_
          refine XO.done ?_
          refine XK.seq ?_
          refine XK.if rfl (fun c7 => ?_) (fun c7 => ?_)
          · have _t7 := True.intro
            refine XK.skip ?_
            refine XK.seq ?_
            refine XK.block ?_
            refine XK.seq ?_
            refine XK.region rfl ?_
            refine XO.q (Q.move rfl) ?_
            refine XO.ix rfl rfl (by omega) (by omega) fun i144 => ?_
            refine XO.q (Q.ldE rfl (by first | assumption | omega) rfl) ?_
            refine XO.q (Q.assign rfl) ?_
            refine XO.q (Q.assign rfl) ?_
            refine XO.done ?_
            refine XK.seq ?_
            refine XK.region rfl ?_
            refine XO.q (Q.move rfl) ?_
            refine XO.q (Q.move rfl) ?_
            refine XO.q (Quiet.guardT rfl rfl fun g148 p148 => Q.fieldAddr rfl) ?_
            refine XO.q (Quiet.guardT rfl rfl fun g149 p149 => Q.ld (lzv g149 rfl) rfl) ?_
            refine XO.q (Quiet.guardT rfl rfl fun g150 p150 => Q.move rfl) ?_
            refine XO.q (Quiet.guardT rfl rfl fun g151 p151 => Q.ix (lzv g151 rfl) (lzv g151 rfl) (by omega) (by omega)) ?_
            refine XO.q (Quiet.guardT rfl rfl fun g152 p152 => Q.ldE (lzv g152 rfl) (by first | assumption | omega) rfl) ?_
            refine XO.q (Quiet.guardT rfl rfl fun g153 p153 => Q.not (lzv g153 rfl)) ?_
            refine XO.q (Q.and rfl (fun hp => lzv hp rfl)) ?_
            refine XO.done ?_
            refine XK.if rfl (fun c8 => ?_) (fun c8 => ?_)
            · have _t8 := True.intro
              exact absurd (sm _ hk hg2 i c8.1) c8.2
            · have _t8 := True.intro
              refine XK.skip ?_
              refine XK.inBlock ?_
              refine XK.region rfl ?_
              refine XO.q (Q.add rfl rfl ⟨by omega, by omega⟩) ?_
              refine XO.q (Q.move rfl) ?_
              refine XO.done ?_
              exact ih4 (i + 1) _ _ (by omega) (by first | omega | (dsimp only; omega)) (.c rfl (.base 36 rfl rfl)) inferInstance
          · have _t7 := True.intro
            clear ih4 hi c7 l140 ih2 c4 hsg hsl hkp
            refine XK.exit rfl ?_
            refine XK.seq ?_
            refine XK.region rfl ?_
            refine XO.q (Q.move rfl) ?_
            refine XO.q (Q.build [_, _] (.c 0 1 rfl rfl rfl (.n _))) ?_
            refine XO.box rfl fun b158 => ?_
            refine XO.q (Q.move rfl) ?_
            refine XO.q (Q.build [_, _] (.c 0 1 rfl rfl rfl (.n _))) ?_
            refine XO.box rfl fun b161 => ?_
            refine XO.q (Q.assign rfl) ?_
            refine XO.q (Q.assign rfl) ?_
            refine XO.done ?_
            refine XK.seq ?_
            refine XK.meet (X := Nat × Value × PHeap × Value × PHeap × Value × PHeap) [24, 162, 163, 164, 165, 166, 167, 168, 169, 170, 171] (fun ⟨b24, vx, hx, vy, hy, vw, hw⟩ => [(24, some (ptr b24 0))]) (fun ⟨b24, vx, hx, vy, hy, vw, hw⟩ => [blk b24 [vx, vy, vw] 44, hx, hy, hw]) (fun ⟨b24, vx, hx, vy, hy, vw, hw⟩ => OArr vx encB 1 4 hx I ∧ OArr vy encI 1 3 hy Ct ∧ OArr vw encI 1 3 hw Rk) [] ?_ ?_
            · rintro ⟨b24, vx, hx, vy, hy, vw, hw⟩ ⟨OX, OY, OW⟩
              dsimp only [List.cons_append, List.nil_append]
              refine XK.seq ?_
              refine XK.meet (X := Nat × Value × PHeap × Value × PHeap) [25, 172, 173, 174, 175, 176, 177, 178, 179] (fun ⟨b25, va2, ha2, vb2, hb2⟩ => [(25, some (ptr b25 0))]) (fun ⟨b25, va2, ha2, vb2, hb2⟩ => [blk b25 [v97, va2, vb2] 44, ha2, hb2]) (fun ⟨b25, va2, ha2, vb2, hb2⟩ => OArr va2 encI 1 3 ha2 (List.replicate Sa 0) ∧ OArr vb2 encI 1 3 hb2 (List.replicate Sa 0)) [] ?_ ?_
              · rintro ⟨b25, va2, ha2, vb2, hb2⟩ ⟨OA2, OB2⟩
                dsimp only [List.cons_append, List.nil_append]
                refine XK.seq ?_
                refine XK.seq ?_
                refine XK.region rfl ?_
                refine XO.q (Q.fieldAddr rfl) ?_
                refine XO.q (Q.ld rfl rfl) ?_
                refine XO.len rfl fun l182 => ?_
                refine XO.q (Q.move rfl) ?_
                refine XO.done ?_
                refine XK.block ?_
                refine XK.while (X := Nat × Nat × Nat × PHeap × List Int × PHeap × List Int × PHeap × List Int × PHeap × List Int) [26, 183, 184, 185, 186, 187, 188, 189, 190, 191, 192, 193, 194, 195, 196, 197, 198, 199, 200, 201, 202, 203, 204, 205, 206, 207, 208, 209, 210, 211, 212, 213, 214, 215, 216, 217, 218, 219, 220, 221, 222, 223, 224, 225, 226, 227, 228, 229, 230, 231, 232, 233, 234, 235, 236, 237, 238, 239, 240, 241, 242, 243, 244] (fun ⟨i, d2, d3, hc, cx, hr, rx, hc2, cy, hr2, ry⟩ => [(183, some (.int .i64 (i : Nat)))]) (fun ⟨i, d2, d3, hc, cx, hr, rx, hc2, cy, hr2, ry⟩ => [blk b158 [vp, .int .i64 ((d2 : Nat) : Int)] 54, blk b161 [vq, .int .i64 ((d3 : Nat) : Int)] 54, hc, hr, hc2, hr2]) (fun ⟨i, d2, d3, hc, cx, hr, rx, hc2, cy, hr2, ry⟩ => i ≤ Sa ∧ d2 ≤ i ∧ d3 ≤ i ∧ cx.length = Sa ∧ rx.length = Sa ∧ cy.length = Sa ∧ ry.length = Sa ∧ OArr vy encI 1 3 hc cx ∧ OArr vw encI 1 3 hr rx ∧ OArr va2 encI 1 3 hc2 cy ∧ OArr vb2 encI 1 3 hr2 ry) (fun ⟨i, d2, d3, hc, cx, hr, rx, hc2, cy, hr2, ry⟩ => Sa - i) (0, 0, 0, hy, Ct, hw, Rk, ha2, List.replicate Sa 0, hb2, List.replicate Sa 0) [blk b158 [vp, .int .i64 ((0 : Nat) : Int)] 54, blk b161 [vq, .int .i64 ((0 : Nat) : Int)] 54, hy, hw, ha2, hb2] rfl ⟨by omega, by omega, by omega, rC, rK, by simp, by simp, OY, OW, OA2, OB2⟩ (.c rfl (.base 0 rfl rfl)) ?_
                rintro ⟨i, d2, d3, hc, cx, hr, rx, hc2, cy, hr2, ry⟩ ⟨hi, hd2, hd3, q1, q2, q3, q4, OC, OR, OC2, OR2⟩ ih5
                dsimp only [List.cons_append, List.nil_append] at ih5 ⊢
                refine XK.seq ?_
                refine XK.region rfl ?_
                refine XO.q (Q.lss rfl rfl) ?_
                refine XO.done ?_
                refine XK.seq ?_
                refine XK.if rfl (fun c9 => ?_) (fun c9 => ?_)
                · have _t9 := True.intro
                  refine XK.skip ?_
                  refine XK.seq ?_
                  refine XK.block ?_
                  refine XK.seq ?_
                  refine XK.region rfl ?_
                  refine XO.q (Q.move rfl) ?_
                  refine XO.q (Q.assign rfl) ?_
                  refine XO.done ?_
                  refine XK.seq ?_
                  refine XK.seq ?_
                  refine XK.region rfl ?_
                  refine XO.q (Q.fieldAddr rfl) ?_
                  refine XO.q (Q.ld rfl rfl) ?_
                  refine XO.q (Q.move rfl) ?_
                  refine XO.ix rfl rfl (by omega) (by omega) fun i189 => ?_
                  refine XO.q (Q.ldE rfl (by first | assumption | omega) rfl) ?_
                  refine XO.done ?_
                  refine XK.meet (X := Nat × Nat × PHeap × List Int × PHeap × List Int) [191, 192, 193, 194, 195, 196, 197, 198, 199, 200, 201, 202, 203, 204, 205, 206, 207, 208, 209, 210, 211, 212, 213] (fun ⟨e2, e3, hc, cx, hr, rx⟩ => []) (fun ⟨e2, e3, hc, cx, hr, rx⟩ => [blk b158 [vp, .int .i64 ((e2 : Nat) : Int)] 54, blk b161 [vq, .int .i64 ((e3 : Nat) : Int)] 54, hc, hr]) (fun ⟨e2, e3, hc, cx, hr, rx⟩ => e2 ≤ i + 1 ∧ e3 ≤ i + 1 ∧ cx.length = Sa ∧ rx.length = Sa ∧ OArr vy encI 1 3 hc cx ∧ OArr vw encI 1 3 hr rx) [blk b158 [vp, .int .i64 ((d2 : Nat) : Int)] 54, blk b161 [vq, .int .i64 ((d3 : Nat) : Int)] 54, hc, hr] ?_ ?_
                  · rintro ⟨e2, e3, hc, cx, hr, rx⟩ ⟨f1, f2, f3, f4, OC, OR⟩
                    dsimp only [List.cons_append, List.nil_append]
                    refine XK.seq ?_
                    refine XK.drawn [0, 1, 2, 3, 4, 5, 6, 7, 8, 9, 10, 11, 13] [b25, b10] [kr33] (.q 0 (.q 1 (.q 2 (.q 3 (.q 4 (.q 5 (.q 6 (.q 7 (.q 8 (.q 9 (.q 10 (.q 11 (.br 12 true (.q 13 (.br 14 false .done .stop)) .stop))))))))))))) Try.mixed rfl (by kernel_rfl) ?_
                    refine XT.q rfl rfl (Q.fieldAddr rfl) ?_
                    refine XT.q rfl rfl (Q.ld rfl rfl) ?_
                    refine XT.q rfl rfl (Q.move rfl) ?_
                    refine XT.q rfl rfl (Q.fieldAddr rfl) ?_
                    refine XT.q rfl rfl (Q.ld rfl rfl) ?_
                    refine XT.q rfl rfl (Q.move rfl) ?_
                    refine XT.q rfl rfl (Q.fieldAddr rfl) ?_
                    refine XT.q rfl rfl (Q.ld rfl rfl) ?_
                    refine XT.q rfl rfl (Q.move rfl) ?_
                    refine XT.ix rfl rfl rfl rfl (by omega) (by omega) fun i223 => ?_
                    refine XT.q rfl rfl (Q.ldE rfl (by first | assumption | omega) rfl) ?_
                    refine XT.ix rfl rfl rfl rfl (by omega) (by omega) fun i225 => ?_
                    refine XT.stE _ rfl rfl rfl rfl rfl (by assumption) rfl rfl (fun h43_12 O43_12 => ⟨inferInstance, ?_⟩) XT.stop
                    refine XT.ix rfl rfl rfl rfl (by omega) (by omega) fun i226 => ?_
                    refine XT.stE _ rfl rfl rfl rfl rfl (by assumption) rfl rfl (fun h43_14 O43_14 => ⟨inferInstance, ?_⟩) XT.stop
                    refine XT.done ?_
                    refine XK.seq ?_
                    refine XK.region rfl ?_
                    refine XO.q (Q.move rfl) ?_
                    refine XO.q (Q.move rfl) ?_
                    refine XO.ix rfl rfl (by omega) (by omega) fun i229 => ?_
                    refine XO.q (Q.ldE rfl (by first | assumption | omega) rfl) ?_
                    refine XO.done ?_
                    refine XK.if rfl (fun c11 => ?_) (fun c11 => ?_)
                    · have _t11 := True.intro
                      refine XK.drawn [0, 1, 2, 3, 4, 5, 6, 7, 8, 9, 10, 11, 13] [b25, b10] [kq33] (.q 0 (.q 1 (.q 2 (.q 3 (.q 4 (.q 5 (.q 6 (.q 7 (.q 8 (.q 9 (.q 10 (.q 11 (.br 12 true (.q 13 (.br 14 false .done .stop)) .stop))))))))))))) Try.mixed rfl (by kernel_rfl) ?_
                      refine XT.q rfl rfl (Q.fieldAddr rfl) ?_
                      refine XT.q rfl rfl (Q.ld rfl rfl) ?_
                      refine XT.q rfl rfl (Q.move rfl) ?_
                      refine XT.q rfl rfl (Q.fieldAddr rfl) ?_
                      refine XT.q rfl rfl (Q.ld rfl rfl) ?_
                      refine XT.q rfl rfl (Q.move rfl) ?_
                      refine XT.q rfl rfl (Q.fieldAddr rfl) ?_
                      refine XT.q rfl rfl (Q.ld rfl rfl) ?_
                      refine XT.q rfl rfl (Q.move rfl) ?_
                      refine XT.ix rfl rfl rfl rfl (by omega) (by omega) fun i240 => ?_
                      refine XT.q rfl rfl (Q.ldE rfl (by first | assumption | omega) rfl) ?_
                      refine XT.ix rfl rfl rfl rfl (by omega) (by rw [List.length_set]; omega) fun i242 => ?_
                      refine XT.stE _ rfl rfl rfl rfl rfl (by assumption) rfl rfl (fun h45_12 O45_12 => ⟨inferInstance, ?_⟩) XT.stop
                      refine XT.ix rfl rfl rfl rfl (by omega) (by rw [List.length_set]; omega) fun i243 => ?_
                      refine XT.stE _ rfl rfl rfl rfl rfl (by assumption) rfl rfl (fun h45_14 O45_14 => ⟨inferInstance, ?_⟩) XT.stop
                      refine XT.done ?_
                      refine XK.inBlock ?_
                      refine XK.region rfl ?_
                      refine XO.q (Q.add rfl rfl ⟨by omega, by omega⟩) ?_
                      refine XO.q (Q.move rfl) ?_
                      refine XO.done ?_
                      exact ih5 (i + 1, e2, e3, hc, cx, hr, rx, h45_12, _, h45_14, _) _ _ ⟨by omega, by omega, by omega, f3, f4, by simp only [List.length_set]; exact q3, by simp only [List.length_set]; exact q4, OC, OR, O45_12, O45_14⟩ (by first | omega | (dsimp only; omega)) (.c rfl (.base 127 rfl rfl)) inferInstance
                    · have _t11 := True.intro
                      refine XK.skip ?_
                      refine XK.inBlock ?_
                      refine XK.region rfl ?_
                      refine XO.q (Q.add rfl rfl ⟨by omega, by omega⟩) ?_
                      refine XO.q (Q.move rfl) ?_
                      refine XO.done ?_
                      exact ih5 (i + 1, e2, e3, hc, cx, hr, rx, h43_12, _, h43_14, _) _ _ ⟨by omega, by omega, by omega, f3, f4, by simp only [List.length_set]; exact q3, by simp only [List.length_set]; exact q4, OC, OR, O43_12, O43_14⟩ (by first | omega | (dsimp only; omega)) (.c rfl (.base 114 rfl rfl)) inferInstance
                  · intro mt10
                    dsimp only [List.cons_append, List.nil_append] at mt10
                    refine XK.if rfl (fun c10 => ?_) (fun c10 => ?_)
                    · have _t10 := True.intro
                      refine XK.drawn [0, 1, 2, 3, 4, 5, 7] [b24, b9] [] (.q 0 (.q 1 (.q 2 (.q 3 (.q 4 (.q 5 (.br 6 true (.q 7 (.br 8 false .done .stop)) .stop))))))) Try.mixed rfl (by kernel_rfl) ?_
                      refine XT.q rfl rfl (Q.fieldAddr rfl) ?_
                      refine XT.q rfl rfl (Q.ld rfl rfl) ?_
                      refine XT.q rfl rfl (Q.move rfl) ?_
                      refine XT.q rfl rfl (Q.move rfl) ?_
                      refine XT.q rfl rfl (Q.fieldAddr rfl) ?_
                      refine XT.q rfl rfl (Q.ld rfl rfl) ?_
                      refine XT.callB b158 rfl rfl Try.call26 rfl rfl rfl (next_spec b158 vp hp p (d2) (Ca) (by omega) (by omega) (by omega)) (fun v197 s197 R197 => ?_) XT.stop
                      obtain ⟨rfl, n197, rfl, h197⟩ := R197
                      dsimp only [List.cons_append, List.nil_append]
                      refine ⟨inferInstance, ?_⟩
                      refine XT.ix rfl rfl rfl rfl (by omega) (by omega) fun i198 => ?_
                      refine XT.stE _ rfl rfl rfl rfl rfl (by assumption) rfl rfl (fun h40_8 O40_8 => ⟨inferInstance, ?_⟩) XT.stop
                      refine XT.done ?_
                      exact mt10 (d2 + 1, d3, h40_8, _, hr, rx) _ _ ⟨by dsimp only; omega, by dsimp only; omega, by simp only [List.length_set]; exact q1, q2, O40_8, OR⟩ (.base 8 rfl rfl) inferInstance
                    · have _t10 := True.intro
                      refine XK.seq ?_
                      refine XK.region rfl ?_
                      refine XO.q (Q.fieldAddr rfl) ?_
                      refine XO.q (Q.ld rfl rfl) ?_
                      refine XO.q (Q.move rfl) ?_
                      refine XO.ix rfl rfl (by omega) (by omega) fun i202 => ?_
                      refine XO.q (Q.ldE rfl (by first | assumption | omega) rfl) ?_
                      refine XO.q (Q.gtr rfl rfl) ?_
                      refine XO.done ?_
                      refine XK.if rfl (fun c12 => ?_) (fun c12 => ?_)
                      · have _t12 := True.intro
                        refine XK.drawn [0, 1, 2, 3, 4, 5, 7, 8] [b24] [hr] (.q 0 (.q 1 (.q 2 (.q 3 (.q 4 (.q 5 (.br 6 true (.q 7 (.q 8 (.br 9 false .done .stop))) .stop))))))) Try.mixed rfl (by kernel_rfl) ?_
                        refine XT.q rfl rfl (Q.fieldAddr rfl) ?_
                        refine XT.q rfl rfl (Q.ld rfl rfl) ?_
                        refine XT.q rfl rfl (Q.move rfl) ?_
                        refine XT.ix rfl rfl rfl rfl (by omega) (by omega) fun i208 => ?_
                        refine XT.q rfl rfl (Q.ldE rfl (by first | assumption | omega) rfl) ?_
                        refine XT.q rfl rfl (Q.move rfl) ?_
                        refine XT.callB b161 rfl rfl Try.call26 rfl rfl rfl (next_spec b161 vq hq q (d3) (3) (by omega) (by omega) (by omega)) (fun v211 s211 R211 => ?_) XT.stop
                        obtain ⟨rfl, n211, rfl, h211⟩ := R211
                        dsimp only [List.cons_append, List.nil_append]
                        refine ⟨inferInstance, ?_⟩
                        refine XT.q rfl rfl (Q.addW rfl rfl) ?_
                        refine XT.ix rfl rfl rfl rfl (by omega) (by omega) fun i213 => ?_
                        refine XT.stE _ rfl rfl rfl rfl rfl (by assumption) rfl rfl (fun h42_9 O42_9 => ⟨inferInstance, ?_⟩) XT.stop
                        refine XT.done ?_
                        exact mt10 (d2, d3 + 1, hc, cx, h42_9, _) _ _ ⟨by dsimp only; omega, by dsimp only; omega, q1, by simp only [List.length_set]; exact q2, OC, O42_9⟩ (.base 15 rfl rfl) inferInstance
                      · have _t12 := True.intro
                        refine XK.skip ?_
                        exact mt10 (d2, d3, hc, cx, hr, rx) _ _ ⟨by dsimp only; omega, by dsimp only; omega, q1, q2, OC, OR⟩ (.base 6 rfl rfl) inferInstance
                · have _t9 := True.intro
                  clear ih5 hi c9 hd2 hd3 l182
                  refine XK.exit rfl ?_
                  refine XK.seq ?_
                  refine XK.seq ?_
                  refine XK.region rfl ?_
                  refine XO.q (Q.ldA [_, _, _] rfl rfl rfl) ?_
                  refine XO.q (Q.ldA [_, _, _] rfl rfl rfl) ?_
                  refine XO.lit [_, _, _, _, _, _] [_, _, _, _, _, _] [⟨I, cx, rx, vx, vy, vw⟩, ⟨set2, cy, ry, v97, va2, vb2⟩] encRV (by rfl) (by rfl) rfl (by rfl) (by exact .c 0 3 rfl rfl rfl (.c 3 3 rfl rfl rfl (.n _))) (fun _ => rfl) (by rfl) rfl (by infer_instance) rfl fun v247 h247 O247 => ?_
                  refine XO.len rfl fun l248 => ?_
                  refine XO.q (Q.move rfl) ?_
                  refine XO.done ?_
                  refine XK.block ?_
                  refine XK.while (X := Nat) [8, 28, 249, 250, 251, 252, 253, 254, 255, 256, 257, 258, 259, 260, 261, 262, 263, 264, 265] (fun i => [(249, some (.int .i64 (i : Nat)))]) (fun i => []) (fun i => i ≤ 2) (fun i => 2 - i) (0) [] rfl (by omega) (.c rfl (.base 0 rfl rfl)) ?_
                  rintro i hi ih6
                  dsimp only [List.cons_append, List.nil_append] at ih6 ⊢
                  refine XK.seq ?_
                  refine XK.region rfl ?_
                  refine XO.q (Q.lss rfl rfl) ?_
                  refine XO.done ?_
                  refine XK.seq ?_
                  refine XK.if rfl (fun c13 => ?_) (fun c13 => ?_)
                  · have _t13 := True.intro
                    have hi2 : i < 2 := by have h : ([⟨I, cx, rx, vx, vy, vw⟩, ⟨set2, cy, ry, v97, va2, vb2⟩] : List RV).length = 2 := rfl; omega
                    refine XK.skip ?_
                    refine XK.seq ?_
                    refine XK.block ?_
                    refine XK.seq ?_
                    refine XK.region rfl ?_
                    refine XO.ix rfl rfl (by omega) (by omega) fun i251 => ?_
                    refine XO.q (Q.ldEA [_, _, _] rfl (by first | assumption | omega) rfl rfl) ?_
                    refine XO.alloc fun b28 => ?_
                    have I1 : One (([⟨I, cx, rx, vx, vy, vw⟩, ⟨set2, cy, ry, v97, va2, vb2⟩] : List RV).getD i default).vi := by
                      match i, hi2 with
                      | 0, _ => exact (inferInstance : One vx)
                      | 1, _ => exact (inferInstance : One v97)
                    have I2 : One (([⟨I, cx, rx, vx, vy, vw⟩, ⟨set2, cy, ry, v97, va2, vb2⟩] : List RV).getD i default).vc := by
                      match i, hi2 with
                      | 0, _ => exact (inferInstance : One vy)
                      | 1, _ => exact (inferInstance : One va2)
                    have I3 : One (([⟨I, cx, rx, vx, vy, vw⟩, ⟨set2, cy, ry, v97, va2, vb2⟩] : List RV).getD i default).vr := by
                      match i, hi2 with
                      | 0, _ => exact (inferInstance : One vw)
                      | 1, _ => exact (inferInstance : One vb2)
                    refine XO.st rfl rfl rfl ?_
                    refine XO.done ?_
                    refine XK.seq ?_
                    refine XK.region rfl ?_
                    refine XO.q (Q.ldA [_, _, _, _, _] rfl rfl rfl) ?_
                    refine XO.q (Q.ldA [_, _, _] rfl rfl rfl) ?_
                    refine XO.call Try.call21 rfl rfl rfl (verifyTwo (mkG Sa Ca Ka na da) va wa ka la ⟨I, cx, rx, vx, vy, vw⟩ ⟨set2, cy, ry, v97, va2, vb2⟩ hx hc hr hz2 hc2 hr2 i hi2) fun v255 s255 R255 => ?_
                    obtain ⟨rfl, rfl⟩ := R255
                    dsimp only [List.cons_append, List.nil_append]
                    refine XO.q (Q.eql rfl rfl) ?_
                    refine XO.q (Q.move rfl) ?_
                    refine XO.q (Quiet.guardT rfl rfl fun g258 p258 => Q.fieldAddr rfl) ?_
                    refine XO.q (Quiet.guardT rfl rfl fun g259 p259 => Q.ld (lzv g259 rfl) rfl) ?_
                    refine XO.q (Quiet.guardT rfl rfl fun g260 p260 => Q.fieldAddr rfl) ?_
                    refine XO.q (Quiet.guardT rfl rfl fun g261 p261 => Q.ld (lzv g261 rfl) rfl) ?_
                    refine XO.gcallT rfl rfl Try.call27 rfl (fun g262 => .c (lzv g262 rfl) (.c (lzv g262 rfl) .n)) rfl (fun g262 p262 => equalTwo ⟨I, cx, rx, vx, vy, vw⟩ ⟨set2, cy, ry, v97, va2, vb2⟩ hx hz2 p33 kp33 I i hi2) ?_
                    refine XO.q (Quiet.guardT rfl rfl fun g263 p263 => Q.not (lzv g263 rfl)) ?_
                    refine XO.q (Q.and rfl (fun hp => lzv hp rfl)) ?_
                    refine XO.done ?_
                    refine XK.if rfl (fun c14 => ?_) (fun c14 => ?_)
                    · have _t14 := True.intro
                      exact absurd (su _ _ _ c14.1) c14.2
                    · have _t14 := True.intro
                      refine XK.skip ?_
                      refine XK.inBlock ?_
                      refine XK.region rfl ?_
                      refine XO.q (Q.add rfl rfl ⟨by omega, by omega⟩) ?_
                      refine XO.q (Q.move rfl) ?_
                      refine XO.done ?_
                      exact ih6 (i + 1) _ _ (by omega) (by first | omega | (dsimp only; omega)) (.c rfl (.base 38 rfl rfl)) inferInstance
                  · have _t13 := True.intro
                    refine XK.exit rfl ?_
                    refine XK.seq ?_
                    refine XK.region rfl ?_
                    refine XO.call Try.call11 rfl rfl rfl (awake_spec) fun v266 s266 R266 => ?_
                    obtain ⟨rfl, rfl⟩ := R266
                    dsimp only [List.cons_append, List.nil_append]
                    refine XO.q (Q.assign rfl) ?_
                    refine XO.done ?_
                    refine XK.rt [] Try.func5 Try.results5 (.t rfl .n) ?_
                    exact ⟨rfl, rfl⟩
              · intro mtr35
                dsimp only [List.cons_append, List.nil_append] at mtr35
                refine XK.drawn [0, 1, 2, 4, 5, 7] [b9] [] (.q 0 (.q 1 (.q 2 (.q 4 (.q 5 (.br 3 true (.br 6 true (.q 7 (.br 8 true (.br 9 false .done .stop) .stop)) (.br 8 true (.br 6 true (.q 7 (.br 9 false .done .stop)) .stop) .stop)) (.br 6 true (.br 3 true (.q 7 (.br 8 true (.br 9 false .done .stop) .stop)) (.br 8 true (.br 3 true (.q 7 (.br 9 false .done .stop)) .stop) .stop)) (.br 8 true (.br 3 true (.br 6 true (.q 7 (.br 9 false .done .stop)) .stop) (.br 6 true (.br 3 true (.q 7 (.br 9 false .done .stop)) .stop) .stop)) .stop)))))))) Try.mixed rfl (by kernel_rfl) ?_
                refine XT.q rfl rfl (Q.move rfl) ?_
                refine XT.q rfl rfl (Q.fieldAddr rfl) ?_
                refine XT.q rfl rfl (Q.ld rfl rfl) ?_
                refine XT.q rfl rfl (Q.fieldAddr rfl) ?_
                refine XT.q rfl rfl (Q.ld rfl rfl) ?_
                refine XT.make encI (0) rfl rfl rfl rfl rfl (by omega) (by omega) (fun _ => rfl) rfl rfl rfl (by dsimp only [encI]; infer_instance) (fun v175 h175 O175 => ⟨inferInstance, ?_⟩) ?_
                · skip
                  refine XT.make encI (0) rfl rfl rfl rfl rfl (by omega) (by omega) (fun _ => rfl) rfl rfl rfl (by dsimp only [encI]; infer_instance) (fun v178 h178 O178 => ⟨inferInstance, ?_⟩) ?_
                  · skip
                    refine XT.q rfl rfl (Q.build [_, _, _] (.c 0 1 rfl rfl rfl (.c 1 1 rfl rfl rfl (.c 2 1 rfl rfl rfl (.n _))))) ?_
                    refine XT.alloc rfl rfl (fun b25 => ⟨inferInstance, ?_⟩) XT.stop
                    refine XT.st rfl rfl rfl rfl rfl ⟨inferInstance, ?_⟩ XT.stop
                    refine XT.done ?_
                    exact mtr35 ((b25, v175, h175, v178, h178)) _ _ ⟨O175, O178⟩ (.c rfl (.base 9 rfl rfl)) inferInstance
                  · skip
                    refine XT.alloc rfl rfl (fun b25 => ⟨inferInstance, ?_⟩) XT.stop
                    refine XT.make encI (0) rfl rfl rfl rfl rfl (by omega) (by omega) (fun _ => rfl) rfl rfl rfl (by dsimp only [encI]; infer_instance) (fun v178 h178 O178 => ⟨inferInstance, ?_⟩) XT.stop
                    refine XT.q rfl rfl (Q.build [_, _, _] (.c 0 1 rfl rfl rfl (.c 1 1 rfl rfl rfl (.c 2 1 rfl rfl rfl (.n _))))) ?_
                    refine XT.st rfl rfl rfl rfl rfl ⟨inferInstance, ?_⟩ XT.stop
                    refine XT.done ?_
                    exact mtr35 ((b25, v175, h175, v178, h178)) _ _ ⟨O175, O178⟩ (.c rfl (.base 9 rfl rfl)) inferInstance
                · skip
                  refine XT.make encI (0) rfl rfl rfl rfl rfl (by omega) (by omega) (fun _ => rfl) rfl rfl rfl (by dsimp only [encI]; infer_instance) (fun v178 h178 O178 => ⟨inferInstance, ?_⟩) ?_
                  · skip
                    refine XT.make encI (0) rfl rfl rfl rfl rfl (by omega) (by omega) (fun _ => rfl) rfl rfl rfl (by dsimp only [encI]; infer_instance) (fun v175 h175 O175 => ⟨inferInstance, ?_⟩) ?_
                    · skip
                      refine XT.q rfl rfl (Q.build [_, _, _] (.c 0 1 rfl rfl rfl (.c 1 1 rfl rfl rfl (.c 2 1 rfl rfl rfl (.n _))))) ?_
                      refine XT.alloc rfl rfl (fun b25 => ⟨inferInstance, ?_⟩) XT.stop
                      refine XT.st rfl rfl rfl rfl rfl ⟨inferInstance, ?_⟩ XT.stop
                      refine XT.done ?_
                      exact mtr35 ((b25, v175, h175, v178, h178)) _ _ ⟨O175, O178⟩ (.c rfl (.base 9 rfl rfl)) inferInstance
                    · skip
                      refine XT.alloc rfl rfl (fun b25 => ⟨inferInstance, ?_⟩) XT.stop
                      refine XT.make encI (0) rfl rfl rfl rfl rfl (by omega) (by omega) (fun _ => rfl) rfl rfl rfl (by dsimp only [encI]; infer_instance) (fun v175 h175 O175 => ⟨inferInstance, ?_⟩) XT.stop
                      refine XT.q rfl rfl (Q.build [_, _, _] (.c 0 1 rfl rfl rfl (.c 1 1 rfl rfl rfl (.c 2 1 rfl rfl rfl (.n _))))) ?_
                      refine XT.st rfl rfl rfl rfl rfl ⟨inferInstance, ?_⟩ XT.stop
                      refine XT.done ?_
                      exact mtr35 ((b25, v175, h175, v178, h178)) _ _ ⟨O175, O178⟩ (.c rfl (.base 9 rfl rfl)) inferInstance
                  · skip
                    refine XT.alloc rfl rfl (fun b25 => ⟨inferInstance, ?_⟩) XT.stop
                    refine XT.make encI (0) rfl rfl rfl rfl rfl (by omega) (by omega) (fun _ => rfl) rfl rfl rfl (by dsimp only [encI]; infer_instance) (fun v175 h175 O175 => ⟨inferInstance, ?_⟩) ?_
                    · skip
                      refine XT.make encI (0) rfl rfl rfl rfl rfl (by omega) (by omega) (fun _ => rfl) rfl rfl rfl (by dsimp only [encI]; infer_instance) (fun v178 h178 O178 => ⟨inferInstance, ?_⟩) XT.stop
                      refine XT.q rfl rfl (Q.build [_, _, _] (.c 0 1 rfl rfl rfl (.c 1 1 rfl rfl rfl (.c 2 1 rfl rfl rfl (.n _))))) ?_
                      refine XT.st rfl rfl rfl rfl rfl ⟨inferInstance, ?_⟩ XT.stop
                      refine XT.done ?_
                      exact mtr35 ((b25, v175, h175, v178, h178)) _ _ ⟨O175, O178⟩ (.c rfl (.base 9 rfl rfl)) inferInstance
                    · skip
                      refine XT.make encI (0) rfl rfl rfl rfl rfl (by omega) (by omega) (fun _ => rfl) rfl rfl rfl (by dsimp only [encI]; infer_instance) (fun v178 h178 O178 => ⟨inferInstance, ?_⟩) XT.stop
                      refine XT.make encI (0) rfl rfl rfl rfl rfl (by omega) (by omega) (fun _ => rfl) rfl rfl rfl (by dsimp only [encI]; infer_instance) (fun v175 h175 O175 => ⟨inferInstance, ?_⟩) XT.stop
                      refine XT.q rfl rfl (Q.build [_, _, _] (.c 0 1 rfl rfl rfl (.c 1 1 rfl rfl rfl (.c 2 1 rfl rfl rfl (.n _))))) ?_
                      refine XT.st rfl rfl rfl rfl rfl ⟨inferInstance, ?_⟩ XT.stop
                      refine XT.done ?_
                      exact mtr35 ((b25, v175, h175, v178, h178)) _ _ ⟨O175, O178⟩ (.c rfl (.base 9 rfl rfl)) inferInstance
            · intro mtr34
              dsimp only [List.cons_append, List.nil_append] at mtr34
              refine XK.drawn [0, 1, 3, 4, 6, 7, 9] [b10] [] (.q 0 (.q 1 (.q 3 (.q 4 (.q 6 (.q 7 (.br 2 true (.br 5 true (.br 8 true (.q 9 (.br 10 true (.br 11 false .done .stop) .stop)) (.br 10 true (.br 8 true (.q 9 (.br 11 false .done .stop)) .stop) .stop)) (.br 10 true (.br 5 true (.br 8 true (.q 9 (.br 11 false .done .stop)) .stop) .stop) .stop)) (.br 10 true (.br 2 true (.br 5 true (.br 8 true (.q 9 (.br 11 false .done .stop)) .stop) .stop) .stop) .stop)))))))) Try.mixed rfl (by kernel_rfl) ?_
              refine XT.q rfl rfl (Q.fieldAddr rfl) ?_
              refine XT.q rfl rfl (Q.ld rfl rfl) ?_
              refine XT.q rfl rfl (Q.fieldAddr rfl) ?_
              refine XT.q rfl rfl (Q.ld rfl rfl) ?_
              refine XT.q rfl rfl (Q.fieldAddr rfl) ?_
              refine XT.q rfl rfl (Q.ld rfl rfl) ?_
              refine XT.call rfl rfl Try.call24 rfl rfl rfl (cloneB _ _ _ (by omega)) (fun v164 s164 R164 => ?_) ?_
              · skip
                obtain ⟨h164, rfl, O164⟩ := R164
                dsimp only [List.cons_append, List.nil_append]
                refine ⟨inferInstance, ?_⟩
                refine XT.call rfl rfl Try.call25 rfl rfl rfl (cloneI _ _ _ (by omega)) (fun v167 s167 R167 => ?_) ?_
                · skip
                  obtain ⟨h167, rfl, O167⟩ := R167
                  dsimp only [List.cons_append, List.nil_append]
                  refine ⟨inferInstance, ?_⟩
                  refine XT.call rfl rfl Try.call25 rfl rfl rfl (cloneI _ _ _ (by omega)) (fun v170 s170 R170 => ?_) ?_
                  · skip
                    obtain ⟨h170, rfl, O170⟩ := R170
                    dsimp only [List.cons_append, List.nil_append]
                    refine ⟨inferInstance, ?_⟩
                    refine XT.q rfl rfl (Q.build [_, _, _] (.c 0 1 rfl rfl rfl (.c 1 1 rfl rfl rfl (.c 2 1 rfl rfl rfl (.n _))))) ?_
                    refine XT.alloc rfl rfl (fun b24 => ⟨inferInstance, ?_⟩) XT.stop
                    refine XT.st rfl rfl rfl rfl rfl ⟨inferInstance, ?_⟩ XT.stop
                    refine XT.done ?_
                    exact mtr34 ((b24, v164, h164, v167, h167, v170, h170)) _ _ ⟨O164, O167, O170⟩ (.c rfl (.base 11 rfl rfl)) inferInstance
                  · skip
                    refine XT.alloc rfl rfl (fun b24 => ⟨inferInstance, ?_⟩) XT.stop
                    refine XT.call rfl rfl Try.call25 rfl rfl rfl (cloneI _ _ _ (by omega)) (fun v170 s170 R170 => ?_) XT.stop
                    obtain ⟨h170, rfl, O170⟩ := R170
                    dsimp only [List.cons_append, List.nil_append]
                    refine ⟨inferInstance, ?_⟩
                    refine XT.q rfl rfl (Q.build [_, _, _] (.c 0 1 rfl rfl rfl (.c 1 1 rfl rfl rfl (.c 2 1 rfl rfl rfl (.n _))))) ?_
                    refine XT.st rfl rfl rfl rfl rfl ⟨inferInstance, ?_⟩ XT.stop
                    refine XT.done ?_
                    exact mtr34 ((b24, v164, h164, v167, h167, v170, h170)) _ _ ⟨O164, O167, O170⟩ (.c rfl (.base 11 rfl rfl)) inferInstance
                · skip
                  refine XT.alloc rfl rfl (fun b24 => ⟨inferInstance, ?_⟩) XT.stop
                  refine XT.call rfl rfl Try.call25 rfl rfl rfl (cloneI _ _ _ (by omega)) (fun v167 s167 R167 => ?_) XT.stop
                  obtain ⟨h167, rfl, O167⟩ := R167
                  dsimp only [List.cons_append, List.nil_append]
                  refine ⟨inferInstance, ?_⟩
                  refine XT.call rfl rfl Try.call25 rfl rfl rfl (cloneI _ _ _ (by omega)) (fun v170 s170 R170 => ?_) XT.stop
                  obtain ⟨h170, rfl, O170⟩ := R170
                  dsimp only [List.cons_append, List.nil_append]
                  refine ⟨inferInstance, ?_⟩
                  refine XT.q rfl rfl (Q.build [_, _, _] (.c 0 1 rfl rfl rfl (.c 1 1 rfl rfl rfl (.c 2 1 rfl rfl rfl (.n _))))) ?_
                  refine XT.st rfl rfl rfl rfl rfl ⟨inferInstance, ?_⟩ XT.stop
                  refine XT.done ?_
                  exact mtr34 ((b24, v164, h164, v167, h167, v170, h170)) _ _ ⟨O164, O167, O170⟩ (.c rfl (.base 11 rfl rfl)) inferInstance
              · skip
                refine XT.alloc rfl rfl (fun b24 => ⟨inferInstance, ?_⟩) XT.stop
                refine XT.call rfl rfl Try.call24 rfl rfl rfl (cloneB _ _ _ (by omega)) (fun v164 s164 R164 => ?_) XT.stop
                obtain ⟨h164, rfl, O164⟩ := R164
                dsimp only [List.cons_append, List.nil_append]
                refine ⟨inferInstance, ?_⟩
                refine XT.call rfl rfl Try.call25 rfl rfl rfl (cloneI _ _ _ (by omega)) (fun v167 s167 R167 => ?_) XT.stop
                obtain ⟨h167, rfl, O167⟩ := R167
                dsimp only [List.cons_append, List.nil_append]
                refine ⟨inferInstance, ?_⟩
                refine XT.call rfl rfl Try.call25 rfl rfl rfl (cloneI _ _ _ (by omega)) (fun v170 s170 R170 => ?_) XT.stop
                obtain ⟨h170, rfl, O170⟩ := R170
                dsimp only [List.cons_append, List.nil_append]
                refine ⟨inferInstance, ?_⟩
                refine XT.q rfl rfl (Q.build [_, _, _] (.c 0 1 rfl rfl rfl (.c 1 1 rfl rfl rfl (.c 2 1 rfl rfl rfl (.n _))))) ?_
                refine XT.st rfl rfl rfl rfl rfl ⟨inferInstance, ?_⟩ XT.stop
                refine XT.done ?_
                exact mtr34 ((b24, v164, h164, v167, h167, v170, h170)) _ _ ⟨O164, O167, O170⟩ (.c rfl (.base 11 rfl rfl)) inferInstance
end Go.X

set_option linter.unusedSimpArgs false
set_option linter.unusedVariables false
set_option maxRecDepth 20000
namespace Go.X
open Go.Proofs
theorem verify_g0 {g : G} {ins : List Bool} {ctl rnk : List Int} (h : verifyG g ins ctl rnk = 0) : gcheck g = 0 := Classical.byContradiction fun hn => by rw [verify_bad hn] at h; exact hn h
theorem drop_cons {α : Type} [Inhabited α] {l : List α} {i : Nat} (h : i < l.length) : l.drop i = l.getD i default :: l.drop (i + 1) := by
  rw [List.drop_eq_getElem_cons h, List.getD_eq_getElem?_getD, List.getElem?_eq_getElem h, Option.getD_some]
theorem outside_at {m : Int} {l : List Int} (h : outside m l = false) {i : Nat} (hi : i < l.length) : 0 ≤ l.getD i default ∧ l.getD i default < m := by
  have := List.any_eq_false.1 h _ (getD_mem hi)
  simp only [Bool.or_eq_true, decide_eq_true_eq, not_or] at this
  omega
theorem outside_one {m s : Int} (h : outside m [s] = false) : 0 ≤ s ∧ s < m := outside_at h (i := 0) (by simp)
theorem worst1 (b : Nat) (vi vc vr : Value) (hr : PHeap) (rnk : List Int) [sr : Arr vr encI 1 hr rnk] (x : Int) (hx : x < rnk.length) :
    Spec Try.prog 77 #[.int .i64 x, ptr b 0] [] [blk b [vi, vc, vr] 44, hr] (fun v hs => v = .int .i64 (rkOf rnk x) ∧ hs = []) := by
  refine Spec.intro (fn := Try.f77) (N := 11) Try.func77 rfl Try.ntmps77 rfl fun B => ?_
  refine XK.seq ?_
  refine XK.region rfl ?_
  refine XO.q (Q.assign rfl) ?_
  refine XO.done ?_
  refine XK.seq ?_
  refine XK.seq ?_
  refine XK.region rfl ?_
  refine XO.q (Q.move rfl) ?_
  refine XO.q (Q.lss rfl rfl) ?_
  refine XO.done ?_
  refine XK.if rfl (fun c0 => ?_) (fun c0 => ?_)
  · have _t0 := True.intro
    refine XK.seq ?_
    refine XK.region rfl ?_
    refine XO.q (Q.assign rfl) ?_
    refine XO.done ?_
    refine XK.rt [] Try.func77 Try.results77 (.t rfl .n) ?_
    exact ⟨by rw [rkOf, if_pos c0], rfl⟩
  · have _t0 := True.intro
    refine XK.skip ?_
    refine XK.seq ?_
    refine XK.region rfl ?_
    refine XO.q (Q.fieldAddr rfl) ?_
    refine XO.q (Q.ld rfl rfl) ?_
    refine XO.q (Q.move rfl) ?_
    refine XO.ix rfl rfl (by omega) (by omega) fun i9 => ?_
    refine XO.q (Q.ldE rfl (by first | assumption | omega) rfl) ?_
    refine XO.q (Q.assign rfl) ?_
    refine XO.done ?_
    refine XK.rt [] Try.func77 Try.results77 (.t rfl .n) ?_
    exact ⟨by rw [rkOf, if_neg c0], rfl⟩
theorem worst_spec (S C K : Nat) (next : List Int) (good : List Bool) (ok : Ok S C K next good) (vn vg : Value) (hn : PHeap) [sn : Arr vn encI 1 hn next] [og : One vg] (vi vc vr : Value) (hi hr : PHeap) (ins : List Bool) [si : Arr vi encB 1 hi ins] (rnk : List Int) [sr : Arr vr encI 1 hr rnk] [oc : One vc] (hlen : ins.length = S) (hrl : rnk.length = S) (s u : Nat) (hs : s < S) (hu : u < C) :
    Spec Try.prog 56 #[.agg #[vi, vc, vr], .agg #[.int .i64 (S : Nat), .int .i64 (C : Nat), .int .i64 (K : Nat), vn, vg], .int .i64 (s : Nat), .int .i64 (u : Nat)] [] [hn, hi, hr] (fun v hs => v = .int .i64 (worstP next C K ins rnk s u) ∧ hs = []) := by
  have hk2 := ok.k2
  have hll := ok.leads_length hs hu
  have hmem : ∀ w, w < K → -1 ≤ (leads next C K s u).getD w default ∧ (leads next C K s u).getD w default < S := fun w hw => by rw [leads_getD hw]; exact ok.get _
  obtain ⟨L, eL⟩ : ∃ L, L = leads next C K s u := ⟨_, rfl⟩
  rw [← eL] at hll hmem
  refine Spec.intro (fn := Try.f56) (N := 52) Try.func56 rfl Try.ntmps56 rfl fun B => ?_
  refine XK.seq ?_
  refine XK.region rfl ?_
  refine XO.box rfl fun b4 => ?_
  refine XO.box rfl fun b5 => ?_
  refine XO.q (Q.assign rfl) ?_
  refine XO.done ?_
  refine XK.seq ?_
  refine XK.region rfl ?_
  refine XO.q (Q.assign rfl) ?_
  refine XO.done ?_
  refine XK.seq ?_
  refine XK.region rfl ?_
  refine XO.q (Q.func (fun _ he => rfl) (fun _ he => evs_rel he rfl)) ?_
  refine XO.q (Q.assign rfl) ?_
  refine XO.done ?_
  refine XK.seq ?_
  refine XK.region rfl ?_
  refine XO.q (Q.ldA [_, _, _, _, _] rfl rfl rfl) ?_
  refine XO.q (Q.move rfl) ?_
  refine XO.q (Q.move rfl) ?_
  refine XO.call Try.call40 rfl rfl rfl (leads_spec S C K next good ok vn vg hn s u hs hu) fun v18 s18 R18 => ?_
  obtain ⟨rfl, A18⟩ := R18
  dsimp only [List.cons_append, List.nil_append]
  rw [← eL] at A18
  refine XO.q (Q.assign rfl) ?_
  refine XO.done ?_
  refine XK.seq ?_
  refine XK.seq ?_
  refine XK.region rfl ?_
  refine XO.q (Q.move rfl) ?_
  refine XO.len rfl fun l20 => ?_
  refine XO.q (Q.move rfl) ?_
  refine XO.done ?_
  refine XK.block ?_
  refine XK.while (X := Nat × Int) [9, 12, 13, 21, 22, 23, 24, 25, 26, 27, 28, 29, 30, 31, 32, 33, 34, 35, 36, 37, 38, 39, 40, 41, 42, 43, 44, 45, 46, 47, 48, 49, 50] (fun ⟨w, best⟩ => [(21, some (.int .i64 (w : Nat))), (9, some (.int .i64 best))]) (fun ⟨w, best⟩ => []) (fun ⟨w, best⟩ => w ≤ K ∧ best = worstTo ins rnk L w ∧ -1 ≤ best ∧ best < w) (fun ⟨w, best⟩ => K - w) (0, -1) [] rfl ⟨by omega, rfl, by omega, by omega⟩ (.c rfl (.c rfl (.base 0 rfl rfl))) ?_
  rintro ⟨w, best⟩ ⟨hw, hbe, hb1, hb2⟩ ih0
  dsimp only [List.cons_append, List.nil_append] at ih0 ⊢
  refine XK.seq ?_
  refine XK.region rfl ?_
  refine XO.q (Q.lss rfl rfl) ?_
  refine XO.done ?_
  refine XK.seq ?_
  refine XK.if rfl (fun c0 => ?_) (fun c0 => ?_)
  · have _t0 := True.intro
    have hmw := hmem w (by omega)
    refine XK.skip ?_
    refine XK.seq ?_
    refine XK.block ?_
    refine XK.seq ?_
    refine XK.region rfl ?_
    refine XO.q (Q.move rfl) ?_
    refine XO.ix rfl rfl (by omega) (by omega) fun i24 => ?_
    refine XO.q (Q.ldE rfl (by first | assumption | omega) rfl) ?_
    refine XO.q (Q.assign rfl) ?_
    refine XO.q (Q.assign rfl) ?_
    refine XO.done ?_
    refine XK.seq ?_
    refine XK.seq ?_
    refine XK.region rfl ?_
    refine XO.q (Q.move rfl) ?_
    refine XO.q (Q.geq rfl rfl) ?_
    refine XO.q (Q.move rfl) ?_
    refine XO.q (Quiet.guardT rfl rfl fun g29 p29 => Q.fieldAddr rfl) ?_
    refine XO.q (Quiet.guardT rfl rfl fun g30 p30 => Q.ld (lzv g30 rfl) rfl) ?_
    refine XO.q (Quiet.guardT rfl rfl fun g31 p31 => Q.move rfl) ?_
    refine XO.q (Quiet.guardT rfl rfl fun g32 p32 => Q.ix (lzv g32 rfl) (lzv g32 rfl) (by omega) (by omega)) ?_
    refine XO.q (Quiet.guardT rfl rfl fun g33 p33 => Q.ldE (lzv g33 rfl) (by first | assumption | omega) rfl) ?_
    refine XO.q (Q.and rfl (fun hp => lzv hp rfl)) ?_
    refine XO.done ?_
    refine XK.if rfl (fun c1 => ?_) (fun c1 => ?_)
    · have _t1 := True.intro
      refine XK.exit rfl ?_
      refine XK.region rfl ?_
      refine XO.q (Q.add rfl rfl ⟨by omega, by omega⟩) ?_
      refine XO.q (Q.move rfl) ?_
      refine XO.done ?_
      exact ih0 (w + 1, best) _ _ ⟨by omega, by dsimp only; rw [worstTo_succ, ← hbe, worstStep, if_pos c1], hb1, by dsimp only; omega⟩ (by first | omega | (dsimp only; omega)) (.c rfl (.c rfl (.base 52 rfl rfl))) inferInstance
    · have _t1 := True.intro
      refine XK.skip ?_
      refine XK.seq ?_
      refine XK.drawn [0, 1, 2, 3, 4, 6, 7, 8, 9, 10, 12, 13] [] [] (.q 0 (.q 1 (.q 2 (.q 3 (.q 4 (.q 6 (.q 7 (.q 8 (.q 9 (.q 10 (.br 5 true (.br 11 true (.q 12 (.q 13 .done)) .stop) .stop))))))))))) Try.mixed rfl (by kernel_rfl) ?_
      refine XT.q rfl rfl (Q.move rfl) ?_
      refine XT.q rfl rfl (Q.lss rfl rfl) ?_
      refine XT.q rfl rfl (Q.move rfl) ?_
      refine XT.q rfl rfl (Quiet.guardF rfl rfl fun g38 p38 => Q.move rfl) ?_
      refine XT.q rfl rfl (Quiet.guardF rfl rfl fun g39 p39 => Q.move rfl) ?_
      refine XT.q rfl rfl (Quiet.guardF rfl rfl fun g41 p41 => Q.move rfl) ?_
      refine XT.q rfl rfl (Quiet.guardF rfl rfl fun g42 p42 => Q.move rfl) ?_
      refine XT.q rfl rfl (Quiet.guardF rfl rfl fun g43 p43 => Q.move rfl) ?_
      refine XT.q rfl rfl (Quiet.guardF rfl rfl fun g44 p44 => Q.ix (lzv g44 rfl) (lzv g44 rfl) (by omega) (by omega)) ?_
      refine XT.q rfl rfl (Quiet.guardF rfl rfl fun g45 p45 => Q.ldE (lzv g45 rfl) (by first | assumption | omega) rfl) ?_
      refine XT.vg1 rfl rfl rfl rfl (fun g40 => (lzv g40 rfl)) (fun g40 => .c (lzv g40 rfl) .n) (fun g40 => have p40 := bpF g40; VSpec.fn (P := Try.prog) Try.call77 rfl (worst1 b4 vi vc vr hr rnk _ (by omega))) ⟨inferInstance, ?_⟩ XT.stop
      refine XT.vg1 rfl rfl rfl rfl (fun g46 => (lzv g46 rfl)) (fun g46 => .c (lzv g46 rfl) .n) (fun g46 => have p46 := bpF g46; VSpec.fn (P := Try.prog) Try.call77 rfl (worst1 b4 vi vc vr hr rnk _ (by have := hmem best.toNat (by omega); omega))) ⟨inferInstance, ?_⟩ XT.stop
      refine XT.q rfl rfl (Quiet.guardF rfl rfl fun g47 p47 => Q.lss (lzv g47 rfl) (lzv g47 rfl)) ?_
      refine XT.q rfl rfl (Q.or rfl (fun hp => lzv hp rfl)) ?_
      refine XT.done ?_
      refine XK.if rfl (fun c2 => ?_) (fun c2 => ?_)
      · have _t2 := True.intro
        refine XK.region rfl ?_
        refine XO.q (Q.move rfl) ?_
        refine XO.q (Q.assign rfl) ?_
        refine XO.done ?_
        refine XK.inBlock ?_
        refine XK.region rfl ?_
        refine XO.q (Q.add rfl rfl ⟨by omega, by omega⟩) ?_
        refine XO.q (Q.move rfl) ?_
        refine XO.done ?_
        exact ih0 (w + 1, (w : Int)) _ _ ⟨by omega, by dsimp only; rw [worstTo_succ, ← hbe, worstStep, if_neg c1, if_pos c2], by dsimp only; omega, by dsimp only; omega⟩ (by first | omega | (dsimp only; omega)) (.c rfl (.c rfl (.base 68 rfl rfl))) inferInstance
      · have _t2 := True.intro
        refine XK.skip ?_
        refine XK.inBlock ?_
        refine XK.region rfl ?_
        refine XO.q (Q.add rfl rfl ⟨by omega, by omega⟩) ?_
        refine XO.q (Q.move rfl) ?_
        refine XO.done ?_
        exact ih0 (w + 1, best) _ _ ⟨by omega, by dsimp only; rw [worstTo_succ, ← hbe, worstStep, if_neg c1, if_neg c2], hb1, by dsimp only; omega⟩ (by first | omega | (dsimp only; omega)) (.c rfl (.c rfl (.base 66 rfl rfl))) inferInstance
  · have _t0 := True.intro
    refine XK.exit rfl ?_
    refine XK.seq ?_
    refine XK.region rfl ?_
    refine XO.q (Q.move rfl) ?_
    refine XO.q (Q.assign rfl) ?_
    refine XO.done ?_
    refine XK.rt [] Try.func56 Try.results56 (.t rfl .n) ?_
    have hwK : w = K := by omega
    rw [hwK] at hbe
    exact ⟨by rw [hbe, eL]; rfl, rfl⟩
theorem leads_specI (S C K : Nat) (next : List Int) (good : List Bool) (ok : Ok S C K next good) (vn vg : Value) (hn : PHeap) [sn : Arr vn encI 1 hn next] (s u : Int) (hs : 0 ≤ s) (hs' : s < S) (hu : 0 ≤ u) (hu' : u < C) : Spec Try.prog 40 #[.agg #[.int .i64 (S : Nat), .int .i64 (C : Nat), .int .i64 (K : Nat), vn, vg], .int .i64 s, .int .i64 u] [] [hn]
    (fun v hs => hs = [] ∧ Arr v encI 1 hn (leads next C K s.toNat u.toNat)) := by
  obtain ⟨s, rfl⟩ := Int.eq_ofNat_of_zero_le hs
  obtain ⟨u, rfl⟩ := Int.eq_ofNat_of_zero_le hu
  exact leads_spec S C K next good ok vn vg hn s u (by omega) (by omega)
theorem worst_specI (S C K : Nat) (next : List Int) (good : List Bool) (ok : Ok S C K next good) (vn vg : Value) (hn : PHeap) [sn : Arr vn encI 1 hn next] [og : One vg] (vi vc vr : Value) (hi hr : PHeap) (ins : List Bool) [si : Arr vi encB 1 hi ins] (rnk : List Int) [sr : Arr vr encI 1 hr rnk] [oc : One vc] (hlen : ins.length = S) (hrl : rnk.length = S) (s u : Int) (hs : 0 ≤ s) (hs' : s < S) (hu : 0 ≤ u) (hu' : u < C) :
    Spec Try.prog 56 #[.agg #[vi, vc, vr], .agg #[.int .i64 (S : Nat), .int .i64 (C : Nat), .int .i64 (K : Nat), vn, vg], .int .i64 s, .int .i64 u] [] [hn, hi, hr] (fun v hs => v = .int .i64 (worstP next C K ins rnk s.toNat u.toNat) ∧ hs = []) := by
  obtain ⟨s, rfl⟩ := Int.eq_ofNat_of_zero_le hs
  obtain ⟨u, rfl⟩ := Int.eq_ofNat_of_zero_le hu
  exact worst_spec S C K next good ok vn vg hn vi vc vr hi hr ins rnk hlen hrl s u (by omega) (by omega)
theorem index_out (m : Int) (v : Value) (h : PHeap) (xs : List Int) [s : Arr v encI 1 h xs] : Spec Try.prog 43 #[.int .i64 m, v] [] [h] (fun v hs => v = .bool (!outside m xs) ∧ hs = []) := index_spec m v h xs
theorem Play_spec (g : G) (vn vg : Value) (hn hg : PHeap) [sn : Arr vn encI 1 hn g.next] [sg : Arr vg encB 1 hg g.good] (vi vc vr : Value) (hi hc hr : PHeap) (ins : List Bool) [si : Arr vi encB 1 hi ins] (ctl : List Int) [sc : Arr vc encI 1 hc ctl] (rnk : List Int) [sr : Arr vr encI 1 hr rnk] (state : Int) (vl : Value) (hl : PHeap) (l : List Int) [sl : Arr vl encI 1 hl l] : Spec Try.prog 30 #[.agg #[.int .i64 g.S, .int .i64 g.C, .int .i64 g.K, vn, vg], .agg #[vi, vc, vr], .int .i64 state, vl] [] [hn, hg, hi, hc, hr, hl]
    (fun v hs => ∃ v1 k1, v = .tuple #[v1, .int .i64 (playG g ins ctl rnk state l).2] ∧ hs = [k1] ∧ OArr v1 encI 1 3 k1 (playG g ins ctl rnk state l).1) := by
  have hnil : OArr (.slice none 0 0) encI 1 3 emp ([] : List Int) := OArr.nil (fun _ => rfl)
  refine Spec.intro (fn := Try.f30) (N := 68) Try.func30 rfl Try.ntmps30 rfl fun B => ?_
  refine XK.seq ?_
  refine XK.region rfl ?_
  refine XO.box rfl fun b4 => ?_
  refine XO.box rfl fun b5 => ?_
  refine XO.q (Q.assign rfl) ?_
  refine XO.q (Q.assign rfl) ?_
  refine XO.done ?_
  refine XK.seq ?_
  refine XK.seq ?_
  refine XK.region rfl ?_
  refine XO.q (Q.ldA [_, _, _, _, _] rfl rfl rfl) ?_
  refine XO.q (Q.ldA [_, _, _] rfl rfl rfl) ?_
  refine XO.call Try.call21 rfl rfl rfl (Verify_spec g vn vg hn hg vi vc vr hi hc hr ins ctl rnk) fun v16 s16 R16 => ?_
  obtain ⟨rfl, rfl⟩ := R16
  dsimp only [List.cons_append, List.nil_append]
  refine XO.q (Q.assign rfl) ?_
  refine XO.done ?_
  refine XK.seq ?_
  refine XK.region rfl ?_
  refine XO.q (Q.move rfl) ?_
  refine XO.q (Q.neq rfl rfl) ?_
  refine XO.done ?_
  refine XK.if rfl (fun c0 => ?_) (fun c0 => ?_)
  · have _t0 := True.intro
    refine XK.seq ?_
    refine XK.region rfl ?_
    refine XO.q (Q.move rfl) ?_
    refine XO.q (Q.assign rfl) ?_
    refine XO.q (Q.assign rfl) ?_
    refine XO.done ?_
    refine XK.rt [emp] Try.func30 Try.results30 (.t rfl (.t rfl .n)) ?_
    have hw : playG g ins ctl rnk state l = ([], verifyG g ins ctl rnk) := by rw [playG, if_pos c0]
    rw [hw]
    exact ⟨.slice none 0 0, emp, rfl, rfl, OArr.nil (fun _ => rfl)⟩
  · have _t0 := True.intro
    have hv := Decidable.of_not_not c0
    obtain ⟨S, C, K, hS, hC, hK, ok⟩ := gcheck_ok (verify_g0 hv)
    obtain ⟨gS, gC, gK, next, good⟩ := g
    dsimp only at hS hC hK ok sn sg ⊢
    subst hS hC hK
    obtain ⟨hl1, hl2, hl3, hrt⟩ := verify_ok ok hv
    have hgl := ok.glen
    have hs2 := ok.s2
    have hcc := ok.c2
    have hkk := ok.k2
    refine XK.skip ?_
    refine XK.seq ?_
    refine XK.block ?_
    refine XK.seq ?_
    refine XK.region rfl ?_
    refine XO.q (Q.fieldAddr rfl) ?_
    refine XO.q (Q.ld rfl rfl) ?_
    refine XO.q (Q.move rfl) ?_
    refine XO.lit [_] [_] [_] encI (by rfl) (by rfl) rfl (by rfl) (by exact .c 0 1 rfl rfl rfl (.n _)) (fun _ => rfl) (by rfl) rfl (by infer_instance) rfl fun v24 h24 O24 => ?_
    refine XO.call Try.call43 rfl rfl rfl (index_out (S : Int) v24 h24 [state]) fun v25 s25 R25 => ?_
    obtain ⟨rfl, rfl⟩ := R25
    dsimp only [List.cons_append, List.nil_append]
    refine XO.q (Q.not rfl) ?_
    refine XO.q (Q.move rfl) ?_
    refine XO.q (Quiet.guardF rfl rfl fun g28 p28 => Q.fieldAddr rfl) ?_
    refine XO.q (Quiet.guardF rfl rfl fun g29 p29 => Q.ld (lzv g29 rfl) rfl) ?_
    refine XO.q (Quiet.guardF rfl rfl fun g30 p30 => Q.move rfl) ?_
    refine XO.gcallF rfl rfl Try.call43 rfl (fun g31 => .c (lzv g31 rfl) (.c (lzv g31 rfl) .n)) rfl (fun g31 p31 => index_out (K : Int) vl hl l) ?_
    refine XO.q (Quiet.guardF rfl rfl fun g32 p32 => Q.not (lzv g32 rfl)) ?_
    refine XO.q (Q.or rfl (fun hp => lzv hp rfl)) ?_
    refine XO.q (Q.assign rfl) ?_
    refine XO.done ?_
    refine XK.if rfl (fun c1 => ?_) (fun c1 => ?_)
    · have _t1 := True.intro
      refine XK.seq ?_
      refine XK.region rfl ?_
      refine XO.q (Q.assign rfl) ?_
      refine XO.q (Q.assign rfl) ?_
      refine XO.done ?_
      refine XK.rt [emp] Try.func30 Try.results30 (.t rfl (.t rfl .n)) ?_
      have hw : playG ⟨S, C, K, next, good⟩ ins ctl rnk state l = ([], 1) := by rw [playG, if_neg c0, if_pos (by simpa using c1)]
      rw [hw]
      exact ⟨.slice none 0 0, emp, rfl, rfl, OArr.nil (fun _ => rfl)⟩
    · have _t1 := True.intro
      obtain ⟨c1a, c1b⟩ := not_or.1 c1
      have ho1 : outside (S : Int) [state] = false := by simpa using c1a
      have ho2 : outside (K : Int) l = false := by simpa using c1b
      have hs0 := outside_one ho1
      refine XK.seq ?_
      refine XK.region rfl ?_
      refine XO.q (Q.move rfl) ?_
      refine XO.len rfl fun l36 => ?_
      refine XO.q (Q.gtr rfl rfl) ?_
      refine XO.q (Q.assign rfl) ?_
      refine XO.done ?_
      refine XK.if rfl (fun c2 => ?_) (fun c2 => ?_)
      · have _t2 := True.intro
        refine XK.seq ?_
        refine XK.region rfl ?_
        refine XO.q (Q.assign rfl) ?_
        refine XO.q (Q.assign rfl) ?_
        refine XO.done ?_
        refine XK.rt [emp] Try.func30 Try.results30 (.t rfl (.t rfl .n)) ?_
        have hw : playG ⟨S, C, K, next, good⟩ ins ctl rnk state l = ([], 2) := by rw [playG, if_neg c0, if_neg (by simpa using c1), if_pos c2]
        rw [hw]
        exact ⟨.slice none 0 0, emp, rfl, rfl, OArr.nil (fun _ => rfl)⟩
      · have _t2 := True.intro
        refine XK.seq ?_
        refine XK.region rfl ?_
        refine XO.q (Q.fieldAddr rfl) ?_
        refine XO.q (Q.ld rfl rfl) ?_
        refine XO.q (Q.move rfl) ?_
        refine XO.ix rfl rfl (by omega) (by omega) fun i42 => ?_
        refine XO.q (Q.ldE rfl (by first | assumption | omega) rfl) ?_
        refine XO.q (Q.not rfl) ?_
        refine XO.q (Q.assign rfl) ?_
        refine XO.done ?_
        refine XK.if rfl (fun c3 => ?_) (fun c3 => ?_)
        · have _t3 := True.intro
          refine XK.seq ?_
          refine XK.region rfl ?_
          refine XO.q (Q.assign rfl) ?_
          refine XO.q (Q.assign rfl) ?_
          refine XO.done ?_
          refine XK.rt [emp] Try.func30 Try.results30 (.t rfl (.t rfl .n)) ?_
          have hw : playG ⟨S, C, K, next, good⟩ ins ctl rnk state l = ([], 9) := by rw [playG, if_neg c0, if_neg (by simpa using c1), if_neg c2, if_pos c3]
          rw [hw]
          exact ⟨.slice none 0 0, emp, rfl, rfl, OArr.nil (fun _ => rfl)⟩
        · have _t3 := True.intro
          refine XK.skip ?_
          refine XK.inBlock ?_
          refine XK.seq ?_
          refine XK.region rfl ?_
          refine XO.q (Q.assign rfl) ?_
          refine XO.done ?_
          refine XK.seq ?_
          refine XK.seq ?_
          refine XK.region rfl ?_
          refine XO.q (Q.move rfl) ?_
          refine XO.len rfl fun l46 => ?_
          refine XO.q (Q.move rfl) ?_
          refine XO.done ?_
          refine XK.block ?_
          refine XK.while (X := Nat × Int × Value × PHeap × List Int) [2, 11, 13, 47, 48, 49, 50, 51, 52, 53, 54, 55, 56, 57, 58, 59, 60, 61, 62, 63, 64, 65, 66] (fun ⟨i, s, vO, hO, pth⟩ => [(47, some (.int .i64 (i : Nat))), (2, some (.int .i64 s)), (11, some (vO))]) (fun ⟨i, s, vO, hO, pth⟩ => [hO]) (fun ⟨i, s, vO, hO, pth⟩ => i ≤ l.length ∧ 0 ≤ s ∧ s < S ∧ inS ins s.toNat ∧ playL next C K ctl state l = pth ++ playL next C K ctl s (l.drop i) ∧ pth.length = i ∧ OArr vO encI 1 3 hO pth) (fun ⟨i, s, vO, hO, pth⟩ => l.length - i) (0, state, .slice none 0 0, emp, []) [emp] rfl ⟨by omega, hs0.1, hs0.2, Classical.byContradiction fun h => c3 h, by simp, rfl, hnil⟩ (.c rfl (.c rfl (.c rfl (.base 0 rfl rfl)))) ?_
          rintro ⟨i, s, vO, hO, pth⟩ ⟨hi, q1, q2, q3, q4, q5, OO⟩ ih0
          dsimp only [List.cons_append, List.nil_append] at ih0 ⊢
          refine XK.seq ?_
          refine XK.region rfl ?_
          refine XO.q (Q.lss rfl rfl) ?_
          refine XO.done ?_
          refine XK.seq ?_
          refine XK.if rfl (fun c4 => ?_) (fun c4 => ?_)
          · have _t4 := True.intro
            obtain ⟨p1, p2, p3, p4, p5, p6⟩ := play_step ok hrt (s := s) (w := l.getD i default) q1 q3 q2 (outside_at ho2 (by omega)).1 (outside_at ho2 (by omega)).2
            have hctl : s.toNat < ctl.length := by omega
            have hw0 := outside_at ho2 (i := i) (by omega)
            have hll := ok.leads_length (s := s.toNat) (v := (ctl.getD s.toNat default).toNat) (by omega) (by omega)
            refine XK.skip ?_
            refine XK.seq ?_
            refine XK.block ?_
            refine XK.seq ?_
            refine XK.region rfl ?_
            refine XO.ix rfl rfl (by omega) (by omega) fun i49 => ?_
            refine XO.q (Q.ldE rfl (by first | assumption | omega) rfl) ?_
            refine XO.q (Q.assign rfl) ?_
            refine XO.done ?_
            refine XK.seq ?_
            refine XK.drawn [0, 1, 2, 3, 4, 5, 6, 8, 9, 10, 11] [b4, b5] [] (.q 0 (.q 1 (.q 2 (.q 3 (.q 4 (.q 5 (.q 6 (.q 8 (.br 7 true (.q 9 (.q 10 (.q 11 .done))) .stop))))))))) Try.mixed rfl (by kernel_rfl) ?_
            refine XT.q rfl rfl (Q.ldA [_, _, _, _, _] rfl rfl rfl) ?_
            refine XT.q rfl rfl (Q.move rfl) ?_
            refine XT.q rfl rfl (Q.fieldAddr rfl) ?_
            refine XT.q rfl rfl (Q.ld rfl rfl) ?_
            refine XT.q rfl rfl (Q.move rfl) ?_
            refine XT.ix rfl rfl rfl rfl (by omega) (by omega) fun i56 => ?_
            refine XT.q rfl rfl (Q.ldE rfl (by first | assumption | omega) rfl) ?_
            refine XT.q rfl rfl (Q.move rfl) ?_
            refine XT.call rfl rfl Try.call40 rfl rfl rfl (leads_specI S C K next good ok vn vg hn s _ q1 q2 p1 p2) (fun v58 s58 R58 => ?_) XT.stop
            obtain ⟨rfl, A58⟩ := R58
            dsimp only [List.cons_append, List.nil_append]
            refine ⟨inferInstance, ?_⟩
            refine XT.ix rfl rfl rfl rfl (by omega) (by omega) fun i60 => ?_
            refine XT.q rfl rfl (Q.ldE rfl (by first | assumption | omega) rfl) ?_
            rw [show (leads next C K s.toNat (ctl.getD s.toNat default).toNat).getD (l.getD i default).toNat default = leadAt next C K s (ctl.getD s.toNat default) (l.getD i default) from leads_getD (by omega)]
            refine XT.q rfl rfl (Q.assign rfl) ?_
            refine XT.done ?_
            refine XK.region rfl ?_
            refine XO.q (Q.move rfl) ?_
            refine XO.q (Q.move rfl) ?_
            refine XO.lit [_] [_] [_] encI (by rfl) (by rfl) rfl (by rfl) (by exact .c 0 1 rfl rfl rfl (.n _)) (fun _ => rfl) (by rfl) rfl (by infer_instance) rfl fun v64 h64 O64 => ?_
            refine XO.append rfl rfl rfl rfl (by simp only [List.length_cons, List.length_nil]; omega) fun v65 h65 O65 => ?_
            refine XO.q (Q.assign rfl) ?_
            refine XO.done ?_
            refine XK.inBlock ?_
            refine XK.region rfl ?_
            refine XO.q (Q.add rfl rfl ⟨by omega, by omega⟩) ?_
            refine XO.q (Q.move rfl) ?_
            refine XO.done ?_
            exact ih0 (i + 1, _, v65, h65, _) _ _ ⟨by dsimp only; omega, p3, p5, p4, by rw [q4, drop_cons (show i < l.length by omega), playL, List.append_assoc]; rfl, by simp only [List.length_append, List.length_cons, List.length_nil]; omega, O65⟩ (by first | omega | (dsimp only; omega)) (.c rfl (.c rfl (.c rfl (.base 49 rfl rfl)))) inferInstance
          · have _t4 := True.intro
            refine XK.exit rfl ?_
            refine XK.seq ?_
            refine XK.region rfl ?_
            refine XO.q (Q.move rfl) ?_
            refine XO.q (Q.assign rfl) ?_
            refine XO.q (Q.assign rfl) ?_
            refine XO.done ?_
            refine XK.rt [hO] Try.func30 Try.results30 (.t rfl (.t rfl .n)) ?_
            have hw : playG ⟨S, C, K, next, good⟩ ins ctl rnk state l = (pth, 0) := by
              rw [playG, if_neg c0, if_neg (by simpa using c1), if_neg c2, if_neg c3]
              simp only [Int.toNat_natCast]
              rw [q4, List.drop_of_length_le (by omega), playL, List.append_nil]
            rw [hw]
            exact ⟨vO, hO, rfl, rfl, OO⟩
end Go.X

set_option linter.unusedSimpArgs false
set_option linter.unusedVariables false
set_option maxRecDepth 20000
namespace Go.X
open Go.Proofs
theorem stop_or {good : List Bool} {s : Int} : stopB good s = true ↔ (s < 0 ∨ ¬ good.getD s.toNat default = true) := by
  unfold stopB; simp
theorem stop_not {good : List Bool} {s : Int} : ¬ stopB good s = true ↔ (0 ≤ s ∧ good.getD s.toNat default = true) := by
  rw [stop_or]
  by_cases h : s < 0
  · simp [h]; omega
  · simp [h]; omega
theorem Force_spec (g : G) (vn vg : Value) (hn hg : PHeap) [sn : Arr vn encI 1 hn g.next] [sg : Arr vg encB 1 hg g.good] (vi vc vr : Value) (hi hc hr : PHeap) (ins : List Bool) [si : Arr vi encB 1 hi ins] (ctl : List Int) [sc : Arr vc encI 1 hc ctl] (rnk : List Int) [sr : Arr vr encI 1 hr rnk] (state : Int) (vl : Value) (hl : PHeap) (l : List Int) [sl : Arr vl encI 1 hl l] (hlb : l.length ≤ 4000000000) : Spec Try.prog 31 #[.agg #[.int .i64 g.S, .int .i64 g.C, .int .i64 g.K, vn, vg], .agg #[vi, vc, vr], .int .i64 state, vl] [] [hn, hg, hi, hc, hr, hl]
    (fun v hs => ∃ v1 v2 k1 k2, v = .tuple #[v1, v2, .int .i64 (forceG g ins ctl rnk state l).2.2] ∧ hs = [k1, k2] ∧ OArr v1 encI 1 3 k1 (forceG g ins ctl rnk state l).1 ∧ OArr v2 encI 1 3 k2 (forceG g ins ctl rnk state l).2.1) := by
  have hnil : OArr (.slice none 0 0) encI 1 3 emp ([] : List Int) := OArr.nil (fun _ => rfl)
  refine Spec.intro (fn := Try.f31) (N := 91) Try.func31 rfl Try.ntmps31 rfl fun B => ?_
  refine XK.seq ?_
  refine XK.region rfl ?_
  refine XO.box rfl fun b4 => ?_
  refine XO.box rfl fun b5 => ?_
  refine XO.q (Q.assign rfl) ?_
  refine XO.q (Q.assign rfl) ?_
  refine XO.q (Q.assign rfl) ?_
  refine XO.done ?_
  refine XK.seq ?_
  refine XK.seq ?_
  refine XK.region rfl ?_
  refine XO.q (Q.ldA [_, _, _, _, _] rfl rfl rfl) ?_
  refine XO.q (Q.ldA [_, _, _] rfl rfl rfl) ?_
  refine XO.call Try.call21 rfl rfl rfl (Verify_spec g vn vg hn hg vi vc vr hi hc hr ins ctl rnk) fun v19 s19 R19 => ?_
  obtain ⟨rfl, rfl⟩ := R19
  dsimp only [List.cons_append, List.nil_append]
  refine XO.q (Q.assign rfl) ?_
  refine XO.done ?_
  refine XK.seq ?_
  refine XK.region rfl ?_
  refine XO.q (Q.move rfl) ?_
  refine XO.q (Q.neq rfl rfl) ?_
  refine XO.done ?_
  refine XK.if rfl (fun c0 => ?_) (fun c0 => ?_)
  · have _t0 := True.intro
    refine XK.seq ?_
    refine XK.region rfl ?_
    refine XO.q (Q.move rfl) ?_
    refine XO.q (Q.assign rfl) ?_
    refine XO.q (Q.assign rfl) ?_
    refine XO.q (Q.assign rfl) ?_
    refine XO.done ?_
    refine XK.rt [emp, emp] Try.func31 Try.results31 (.t rfl (.t rfl (.t rfl .n))) ?_
    have hw : forceG g ins ctl rnk state l = ([], [], verifyG g ins ctl rnk) := by rw [forceG, if_pos c0]
    rw [hw]
    exact ⟨.slice none 0 0, .slice none 0 0, emp, emp, rfl, rfl, OArr.nil (fun _ => rfl), OArr.nil (fun _ => rfl)⟩
  · have _t0 := True.intro
    have hv := Decidable.of_not_not c0
    obtain ⟨S, C, K, hS, hC, hK, ok⟩ := gcheck_ok (verify_g0 hv)
    obtain ⟨gS, gC, gK, next, good⟩ := g
    dsimp only at hS hC hK ok sn sg ⊢
    subst hS hC hK
    obtain ⟨hl1, hl2, hl3, hrt⟩ := verify_ok ok hv
    have hgl := ok.glen
    have hs2 := ok.s2
    have hcc := ok.c2
    have hkk := ok.k2
    refine XK.skip ?_
    refine XK.seq ?_
    refine XK.block ?_
    refine XK.seq ?_
    refine XK.region rfl ?_
    refine XO.q (Q.fieldAddr rfl) ?_
    refine XO.q (Q.ld rfl rfl) ?_
    refine XO.q (Q.move rfl) ?_
    refine XO.lit [_] [_] [_] encI (by rfl) (by rfl) rfl (by rfl) (by exact .c 0 1 rfl rfl rfl (.n _)) (fun _ => rfl) (by rfl) rfl (by infer_instance) rfl fun v27 h27 O27 => ?_
    refine XO.call Try.call43 rfl rfl rfl (index_out (S : Int) v27 h27 [state]) fun v28 s28 R28 => ?_
    obtain ⟨rfl, rfl⟩ := R28
    dsimp only [List.cons_append, List.nil_append]
    refine XO.q (Q.not rfl) ?_
    refine XO.q (Q.move rfl) ?_
    refine XO.q (Quiet.guardF rfl rfl fun g31 p31 => Q.fieldAddr rfl) ?_
    refine XO.q (Quiet.guardF rfl rfl fun g32 p32 => Q.ld (lzv g32 rfl) rfl) ?_
    refine XO.q (Quiet.guardF rfl rfl fun g33 p33 => Q.move rfl) ?_
    refine XO.gcallF rfl rfl Try.call43 rfl (fun g34 => .c (lzv g34 rfl) (.c (lzv g34 rfl) .n)) rfl (fun g34 p34 => index_out (C : Int) vl hl l) ?_
    refine XO.q (Quiet.guardF rfl rfl fun g35 p35 => Q.not (lzv g35 rfl)) ?_
    refine XO.q (Q.or rfl (fun hp => lzv hp rfl)) ?_
    refine XO.q (Q.assign rfl) ?_
    refine XO.done ?_
    refine XK.if rfl (fun c1 => ?_) (fun c1 => ?_)
    · have _t1 := True.intro
      refine XK.seq ?_
      refine XK.region rfl ?_
      refine XO.q (Q.assign rfl) ?_
      refine XO.q (Q.assign rfl) ?_
      refine XO.q (Q.assign rfl) ?_
      refine XO.done ?_
      refine XK.rt [emp, emp] Try.func31 Try.results31 (.t rfl (.t rfl (.t rfl .n))) ?_
      have hw : forceG ⟨S, C, K, next, good⟩ ins ctl rnk state l = ([], [], 1) := by rw [forceG, if_neg c0, if_pos (by simpa using c1)]
      rw [hw]
      exact ⟨.slice none 0 0, .slice none 0 0, emp, emp, rfl, rfl, OArr.nil (fun _ => rfl), OArr.nil (fun _ => rfl)⟩
    · have _t1 := True.intro
      obtain ⟨c1a, c1b⟩ := not_or.1 c1
      have ho1 : outside (S : Int) [state] = false := by simpa using c1a
      have ho2 : outside (C : Int) l = false := by simpa using c1b
      have hs0 := outside_one ho1
      refine XK.seq ?_
      refine XK.region rfl ?_
      refine XO.q (Q.fieldAddr rfl) ?_
      refine XO.q (Q.ld rfl rfl) ?_
      refine XO.q (Q.move rfl) ?_
      refine XO.ix rfl rfl (by omega) (by omega) fun i41 => ?_
      refine XO.q (Q.ldE rfl (by first | assumption | omega) rfl) ?_
      refine XO.q (Q.assign rfl) ?_
      refine XO.done ?_
      refine XK.if rfl (fun c2 => ?_) (fun c2 => ?_)
      · have _t2 := True.intro
        refine XK.seq ?_
        refine XK.region rfl ?_
        refine XO.q (Q.assign rfl) ?_
        refine XO.q (Q.assign rfl) ?_
        refine XO.q (Q.assign rfl) ?_
        refine XO.done ?_
        refine XK.rt [emp, emp] Try.func31 Try.results31 (.t rfl (.t rfl (.t rfl .n))) ?_
        have hw : forceG ⟨S, C, K, next, good⟩ ins ctl rnk state l = ([], [], 9) := by rw [forceG, if_neg c0, if_neg (by simpa using c1), if_pos c2]
        rw [hw]
        exact ⟨.slice none 0 0, .slice none 0 0, emp, emp, rfl, rfl, OArr.nil (fun _ => rfl), OArr.nil (fun _ => rfl)⟩
      · have _t2 := True.intro
        refine XK.skip ?_
        refine XK.inBlock ?_
        refine XK.seq ?_
        refine XK.region rfl ?_
        refine XO.q (Q.assign rfl) ?_
        refine XO.q (Q.assign rfl) ?_
        refine XO.done ?_
        refine XK.seq ?_
        refine XK.seq ?_
        refine XK.region rfl ?_
        refine XO.q (Q.move rfl) ?_
        refine XO.len rfl fun l44 => ?_
        refine XO.q (Q.move rfl) ?_
        refine XO.done ?_
        refine XK.block ?_
        refine XK.while (X := Nat × Int × Value × PHeap × Value × PHeap × List (Int × Int)) [2, 12, 13, 15, 16, 45, 46, 47, 48, 49, 50, 51, 52, 53, 54, 55, 56, 57, 58, 59, 60, 61, 62, 63, 64, 65, 66, 67, 68, 69, 70, 71, 72, 73, 74, 75, 76, 77, 78, 79] (fun ⟨i, s, vW, hW, vN, hN, done⟩ => [(45, some (.int .i64 (i : Nat))), (2, some (.int .i64 s)), (12, some (vW)), (13, some (vN))]) (fun ⟨i, s, vW, hW, vN, hN, done⟩ => [hW, hN]) (fun ⟨i, s, vW, hW, vN, hN, done⟩ => i ≤ l.length ∧ (s < 0 ∨ (s < S ∧ ¬ inS ins s.toNat)) ∧ forceL next C K good ins rnk state l = done ++ forceL next C K good ins rnk s (l.drop i) ∧ forceE next C K good ins rnk state l = forceE next C K good ins rnk s (l.drop i) ∧ done.length ≤ i ∧ OArr vW encI 1 3 hW (done.map (·.1)) ∧ OArr vN encI 1 3 hN (done.map (·.2)) ∧ s < S) (fun ⟨i, s, vW, hW, vN, hN, done⟩ => l.length - i) (0, state, .slice none 0 0, emp, .slice none 0 0, emp, []) [emp, emp] rfl ⟨by omega, .inr ⟨hs0.2, c2⟩, by simp, by simp, by simp, hnil, hnil, hs0.2⟩ (.c rfl (.c rfl (.c rfl (.c rfl (.base 0 rfl rfl))))) ?_
        rintro ⟨i, s, vW, hW, vN, hN, done⟩ ⟨hil, q2, q3, q4, q8, OW, ON, q9⟩ ih0
        dsimp only [List.cons_append, List.nil_append] at ih0 ⊢
        refine XK.seq ?_
        refine XK.region rfl ?_
        refine XO.q (Q.lss rfl rfl) ?_
        refine XO.done ?_
        refine XK.seq ?_
        refine XK.if rfl (fun c3 => ?_) (fun c3 => ?_)
        · have _t3 := True.intro
          refine XK.skip ?_
          refine XK.seq ?_
          refine XK.block ?_
          refine XK.seq ?_
          refine XK.region rfl ?_
          refine XO.ix rfl rfl (by omega) (by omega) fun i47 => ?_
          refine XO.q (Q.ldE rfl (by first | assumption | omega) rfl) ?_
          refine XO.q (Q.assign rfl) ?_
          refine XO.done ?_
          refine XK.seq ?_
          refine XK.seq ?_
          refine XK.region rfl ?_
          refine XO.q (Q.move rfl) ?_
          refine XO.q (Q.lss rfl rfl) ?_
          refine XO.q (Q.move rfl) ?_
          refine XO.q (Quiet.guardF rfl rfl fun g52 p52 => Q.fieldAddr rfl) ?_
          refine XO.q (Quiet.guardF rfl rfl fun g53 p53 => Q.ld (lzv g53 rfl) rfl) ?_
          refine XO.q (Quiet.guardF rfl rfl fun g54 p54 => Q.move rfl) ?_
          refine XO.q (Quiet.guardF rfl rfl fun g55 p55 => Q.ix (lzv g55 rfl) (lzv g55 rfl) (by omega) (by omega)) ?_
          refine XO.q (Quiet.guardF rfl rfl fun g56 p56 => Q.ldE (lzv g56 rfl) (by first | assumption | omega) rfl) ?_
          refine XO.q (Quiet.guardF rfl rfl fun g57 p57 => Q.not (lzv g57 rfl)) ?_
          refine XO.q (Q.or rfl (fun hp => lzv hp rfl)) ?_
          refine XO.done ?_
          refine XK.if rfl (fun c4 => ?_) (fun c4 => ?_)
          · have _t4 := True.intro
            have hst : stopB good s = true := stop_or.2 c4
            have hF : forceL next C K good ins rnk state l = done := by rw [q3, drop_cons (show i < l.length by omega), forceL, if_pos hst, List.append_nil]
            have hE : forceE next C K good ins rnk state l = s := by rw [q4, drop_cons (show i < l.length by omega), forceE, if_pos hst]
            refine XK.exit rfl ?_
            refine XK.seq ?_
            refine XK.seq ?_
            refine XK.region rfl ?_
            refine XO.q (Q.move rfl) ?_
            refine XO.q (Q.geq rfl rfl) ?_
            refine XO.q (Q.move rfl) ?_
            refine XO.q (Quiet.guardT rfl rfl fun g83 p83 => Q.fieldAddr rfl) ?_
            refine XO.q (Quiet.guardT rfl rfl fun g84 p84 => Q.ld (lzv g84 rfl) rfl) ?_
            refine XO.q (Quiet.guardT rfl rfl fun g85 p85 => Q.move rfl) ?_
            refine XO.q (Quiet.guardT rfl rfl fun g86 p86 => Q.ix (lzv g86 rfl) (lzv g86 rfl) (by omega) (by omega)) ?_
            refine XO.q (Quiet.guardT rfl rfl fun g87 p87 => Q.ldE (lzv g87 rfl) (by first | assumption | omega) rfl) ?_
            refine XO.q (Q.and rfl (fun hp => lzv hp rfl)) ?_
            refine XO.done ?_
            refine XK.if rfl (fun c5 => ?_) (fun c5 => ?_)
            · have _t5 := True.intro
              refine XK.seq ?_
              refine XK.region rfl ?_
              refine XO.q (Q.assign rfl) ?_
              refine XO.q (Q.assign rfl) ?_
              refine XO.q (Q.assign rfl) ?_
              refine XO.done ?_
              refine XK.rt [emp, emp] Try.func31 Try.results31 (.t rfl (.t rfl (.t rfl .n))) ?_
              have hw : forceG ⟨S, C, K, next, good⟩ ins ctl rnk state l = ([], [], 60) := by
                rw [forceG, if_neg c0, if_neg (by simpa using c1), if_neg c2, if_pos]
                simp only [Int.toNat_natCast]
                rw [hE]
                exact stop_not.2 c5
              rw [hw]
              exact ⟨.slice none 0 0, .slice none 0 0, emp, emp, rfl, rfl, OArr.nil (fun _ => rfl), OArr.nil (fun _ => rfl)⟩
            · have _t5 := True.intro
              refine XK.skip ?_
              refine XK.seq ?_
              refine XK.region rfl ?_
              refine XO.q (Q.move rfl) ?_
              refine XO.q (Q.move rfl) ?_
              refine XO.q (Q.assign rfl) ?_
              refine XO.q (Q.assign rfl) ?_
              refine XO.q (Q.assign rfl) ?_
              refine XO.done ?_
              refine XK.rt [hW, hN] Try.func31 Try.results31 (.t rfl (.t rfl (.t rfl .n))) ?_
              have hw : forceG ⟨S, C, K, next, good⟩ ins ctl rnk state l = (done.map (·.1), done.map (·.2), 0) := by
                rw [forceG, if_neg c0, if_neg (by simpa using c1), if_neg c2, if_neg]
                · simp only [Int.toNat_natCast]
                  rw [hF]
                · simp only [Int.toNat_natCast]
                  rw [hE, Classical.not_not, stop_or]
                  by_cases h : s < 0
                  · exact .inl h
                  · exact .inr fun hg => c5 ⟨by omega, hg⟩
              rw [hw]
              exact ⟨vW, vN, hW, hN, rfl, rfl, OW, ON⟩
          · have _t4 := True.intro
            have hu0 := outside_at ho2 (i := i) (by omega)
            have hst : ¬ stopB good s = true := fun h => c4 (stop_or.1 h)
            have q0 := (stop_not.1 hst).1
            obtain ⟨q5, q6⟩ := q2.resolve_left (by omega)
            obtain ⟨w1, w2, w3, _⟩ := force_step ok hrt q0 q5 q6 hst (u := l.getD i default) hu0.1 hu0.2
            have hll := ok.leads_length (s := s.toNat) (v := (l.getD i default).toNat) (by omega) (by omega)
            refine XK.skip ?_
            refine XK.seq ?_
            refine XK.region rfl ?_
            refine XO.q (Q.ldA [_, _, _] rfl rfl rfl) ?_
            refine XO.q (Q.ldA [_, _, _, _, _] rfl rfl rfl) ?_
            refine XO.q (Q.move rfl) ?_
            refine XO.q (Q.move rfl) ?_
            refine XO.call Try.call56 rfl rfl rfl (worst_specI S C K next good ok vn vg hn vi vc vr hi hr ins rnk hl1 hl3 s (l.getD i default) q0 q5 hu0.1 hu0.2) fun v63 s63 R63 => ?_
            obtain ⟨rfl, rfl⟩ := R63
            dsimp only [List.cons_append, List.nil_append]
            refine XO.q (Q.assign rfl) ?_
            refine XO.done ?_
            refine XK.seq ?_
            refine XK.region rfl ?_
            refine XO.q (Q.ldA [_, _, _, _, _] rfl rfl rfl) ?_
            refine XO.q (Q.move rfl) ?_
            refine XO.q (Q.move rfl) ?_
            refine XO.call Try.call40 rfl rfl rfl (leads_specI S C K next good ok vn vg hn s (l.getD i default) q0 q5 hu0.1 hu0.2) fun v67 s67 R67 => ?_
            obtain ⟨rfl, A67⟩ := R67
            dsimp only [List.cons_append, List.nil_append]
            refine XO.q (Q.move rfl) ?_
            refine XO.ix rfl rfl (by omega) (by omega) fun i69 => ?_
            refine XO.q (Q.ldE rfl (by first | assumption | omega) rfl) ?_
            rw [show (leads next C K s.toNat (l.getD i default).toNat).getD (worstP next C K ins rnk s.toNat (l.getD i default).toNat).toNat default = leadAt next C K s (l.getD i default) (worstP next C K ins rnk s.toNat (l.getD i default).toNat) from leads_getD (by omega)]
            refine XO.q (Q.assign rfl) ?_
            refine XO.done ?_
            refine XK.region rfl ?_
            refine XO.q (Q.move rfl) ?_
            refine XO.q (Q.move rfl) ?_
            refine XO.lit [_] [_] [_] encI (by rfl) (by rfl) rfl (by rfl) (by exact .c 0 1 rfl rfl rfl (.n _)) (fun _ => rfl) (by rfl) rfl (by infer_instance) rfl fun v73 h73 O73 => ?_
            refine XO.append rfl rfl rfl rfl (by simp only [List.length_map, List.length_cons, List.length_nil]; omega) fun v74 h74 O74 => ?_
            refine XO.q (Q.move rfl) ?_
            refine XO.q (Q.move rfl) ?_
            refine XO.lit [_] [_] [_] encI (by rfl) (by rfl) rfl (by rfl) (by exact .c 0 1 rfl rfl rfl (.n _)) (fun _ => rfl) (by rfl) rfl (by infer_instance) rfl fun v77 h77 O77 => ?_
            refine XO.append rfl rfl rfl rfl (by simp only [List.length_map, List.length_cons, List.length_nil]; omega) fun v78 h78 O78 => ?_
            refine XO.q (Q.assign rfl) ?_
            refine XO.q (Q.assign rfl) ?_
            refine XO.done ?_
            refine XK.inBlock ?_
            refine XK.region rfl ?_
            refine XO.q (Q.add rfl rfl ⟨by omega, by omega⟩) ?_
            refine XO.q (Q.move rfl) ?_
            refine XO.done ?_
            exact ih0 (i + 1, leadAt next C K s (l.getD i default) (worstP next C K ins rnk s.toNat (l.getD i default).toNat), v74, h74, v78, h78, done ++ [(worstP next C K ins rnk s.toNat (l.getD i default).toNat, leadAt next C K s (l.getD i default) (worstP next C K ins rnk s.toNat (l.getD i default).toNat))]) _ _ ⟨by dsimp only; omega, by dsimp only; exact orMap w3 id fun h => ⟨h.2.1, h.1⟩, by dsimp only; rw [q3, drop_cons (show i < l.length by omega), forceL, if_neg hst, List.append_assoc]; rfl, by dsimp only; rw [q4, drop_cons (show i < l.length by omega), forceE, if_neg hst], by simp only [List.length_append, List.length_cons, List.length_nil]; omega, by rw [List.map_append]; exact O74, by rw [List.map_append]; exact O78, by dsimp only; rcases w3 with w3 | w3 <;> omega⟩ (by first | omega | (dsimp only; omega)) (.c rfl (.c rfl (.c rfl (.c rfl (.base 84 rfl rfl))))) inferInstance
        · have _t3 := True.intro
          have hF : forceL next C K good ins rnk state l = done := by rw [q3, List.drop_of_length_le (by omega), forceL, List.append_nil]
          have hE : forceE next C K good ins rnk state l = s := by rw [q4, List.drop_of_length_le (by omega), forceE]
          refine XK.exit rfl ?_
          refine XK.seq ?_
          refine XK.seq ?_
          refine XK.region rfl ?_
          refine XO.q (Q.move rfl) ?_
          refine XO.q (Q.geq rfl rfl) ?_
          refine XO.q (Q.move rfl) ?_
          refine XO.q (Quiet.guardT rfl rfl fun g83 p83 => Q.fieldAddr rfl) ?_
          refine XO.q (Quiet.guardT rfl rfl fun g84 p84 => Q.ld (lzv g84 rfl) rfl) ?_
          refine XO.q (Quiet.guardT rfl rfl fun g85 p85 => Q.move rfl) ?_
          refine XO.q (Quiet.guardT rfl rfl fun g86 p86 => Q.ix (lzv g86 rfl) (lzv g86 rfl) (by omega) (by omega)) ?_
          refine XO.q (Quiet.guardT rfl rfl fun g87 p87 => Q.ldE (lzv g87 rfl) (by first | assumption | omega) rfl) ?_
          refine XO.q (Q.and rfl (fun hp => lzv hp rfl)) ?_
          refine XO.done ?_
          refine XK.if rfl (fun c6 => ?_) (fun c6 => ?_)
          · have _t6 := True.intro
            refine XK.seq ?_
            refine XK.region rfl ?_
            refine XO.q (Q.assign rfl) ?_
            refine XO.q (Q.assign rfl) ?_
            refine XO.q (Q.assign rfl) ?_
            refine XO.done ?_
            refine XK.rt [emp, emp] Try.func31 Try.results31 (.t rfl (.t rfl (.t rfl .n))) ?_
            have hw : forceG ⟨S, C, K, next, good⟩ ins ctl rnk state l = ([], [], 60) := by
              rw [forceG, if_neg c0, if_neg (by simpa using c1), if_neg c2, if_pos]
              simp only [Int.toNat_natCast]
              rw [hE]
              exact stop_not.2 c6
            rw [hw]
            exact ⟨.slice none 0 0, .slice none 0 0, emp, emp, rfl, rfl, OArr.nil (fun _ => rfl), OArr.nil (fun _ => rfl)⟩
          · have _t6 := True.intro
            refine XK.skip ?_
            refine XK.seq ?_
            refine XK.region rfl ?_
            refine XO.q (Q.move rfl) ?_
            refine XO.q (Q.move rfl) ?_
            refine XO.q (Q.assign rfl) ?_
            refine XO.q (Q.assign rfl) ?_
            refine XO.q (Q.assign rfl) ?_
            refine XO.done ?_
            refine XK.rt [hW, hN] Try.func31 Try.results31 (.t rfl (.t rfl (.t rfl .n))) ?_
            have hw : forceG ⟨S, C, K, next, good⟩ ins ctl rnk state l = (done.map (·.1), done.map (·.2), 0) := by
              rw [forceG, if_neg c0, if_neg (by simpa using c1), if_neg c2, if_neg]
              · simp only [Int.toNat_natCast]
                rw [hF]
              · simp only [Int.toNat_natCast]
                rw [hE, Classical.not_not, stop_or]
                by_cases h : s < 0
                · exact .inl h
                · exact .inr fun hg => c6 ⟨by omega, hg⟩
            rw [hw]
            exact ⟨vW, vN, hW, hN, rfl, rfl, OW, ON⟩
end Go.X
