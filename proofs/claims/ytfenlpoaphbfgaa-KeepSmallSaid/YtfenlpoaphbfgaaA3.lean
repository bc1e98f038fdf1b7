/- A part of the proof: a small program logic, plain laws and contracts of functions, each proved by a walk through its operations. No condition but those that stand in each theorem. -/
import Derived.Test.YtfenlpoaphbfgaaA2
set_option linter.unusedSimpArgs false
set_option linter.unusedVariables false
namespace Go.X
open Go.Proofs
theorem cloneB (v : Value) (h : PHeap) (xs : List Bool) [s : Arr v encB 1 h xs] (hl : xs.length ≤ 68719476736) :
    Spec Try.prog 24 #[v] [] [h] (fun v' hs => ∃ h', hs = [h'] ∧ OArr v' encB 1 4 h' xs) := by
  refine Spec.intro (fn := Try.f24) (N := 8) Try.func24 rfl Try.ntmps24 rfl fun B => ?_
  refine XK.seq ?_
  refine XK.region rfl ?_
  refine XO.q (Q.assign rfl) ?_
  refine XO.done ?_
  refine XK.seq ?_
  refine XK.seq ?_
  refine XK.region rfl ?_
  refine XO.q (Q.move rfl) ?_
  refine XO.eqNil rfl fun z4 hz4 => ?_
  refine XO.done ?_
  refine XK.if rfl (fun c0 => ?_) (fun c0 => ?_)
  · have _t0 := True.intro
    refine XK.seq ?_
    refine XK.region rfl ?_
    refine XO.q (Q.assign rfl) ?_
    refine XO.done ?_
    refine XK.rt [emp] Try.func24 Try.results24 (.t rfl .n) ?_
    exact ⟨emp, rfl, by rw [(hz4 c0).1]; exact OArr.nil (fun _ => rfl)⟩
  · have _t0 := True.intro
    refine XK.skip ?_
    refine XK.seq ?_
    refine XK.region rfl ?_
    refine XO.lit [] [] [] encB (by rfl) (by rfl) rfl (by rfl) (by exact .n _) (fun _ => rfl) (by rfl) rfl (by infer_instance) rfl fun v5 h5 O5 => ?_
    refine XO.q (Q.move rfl) ?_
    refine XO.append rfl rfl rfl rfl (by first | omega | (simp; omega)) fun v7 h7 O7 => ?_
    refine XO.q (Q.assign rfl) ?_
    refine XO.done ?_
    refine XK.rt [h7] Try.func24 Try.results24 (.t rfl .n) ?_
    exact ⟨h7, rfl, O7⟩
theorem cloneI (v : Value) (h : PHeap) (xs : List Int) [s : Arr v encI 1 h xs] (hl : xs.length ≤ 68719476736) :
    Spec Try.prog 25 #[v] [] [h] (fun v' hs => ∃ h', hs = [h'] ∧ OArr v' encI 1 3 h' xs) := by
  refine Spec.intro (fn := Try.f25) (N := 8) Try.func25 rfl Try.ntmps25 rfl fun B => ?_
  refine XK.seq ?_
  refine XK.region rfl ?_
  refine XO.q (Q.assign rfl) ?_
  refine XO.done ?_
  refine XK.seq ?_
  refine XK.seq ?_
  refine XK.region rfl ?_
  refine XO.q (Q.move rfl) ?_
  refine XO.eqNil rfl fun z4 hz4 => ?_
  refine XO.done ?_
  refine XK.if rfl (fun c0 => ?_) (fun c0 => ?_)
  · have _t0 := True.intro
    refine XK.seq ?_
    refine XK.region rfl ?_
    refine XO.q (Q.assign rfl) ?_
    refine XO.done ?_
    refine XK.rt [emp] Try.func25 Try.results25 (.t rfl .n) ?_
    exact ⟨emp, rfl, by rw [(hz4 c0).1]; exact OArr.nil (fun _ => rfl)⟩
  · have _t0 := True.intro
    refine XK.skip ?_
    refine XK.seq ?_
    refine XK.region rfl ?_
    refine XO.lit [] [] [] encI (by rfl) (by rfl) rfl (by rfl) (by exact .n _) (fun _ => rfl) (by rfl) rfl (by infer_instance) rfl fun v5 h5 O5 => ?_
    refine XO.q (Q.move rfl) ?_
    refine XO.append rfl rfl rfl rfl (by first | omega | (simp; omega)) fun v7 h7 O7 => ?_
    refine XO.q (Q.assign rfl) ?_
    refine XO.done ?_
    refine XK.rt [h7] Try.func25 Try.results25 (.t rfl .n) ?_
    exact ⟨h7, rfl, O7⟩
theorem equalB (v1 v2 : Value) (h1 h2 : PHeap) (xs ys : List Bool) [s1 : Arr v1 encB 1 h1 xs] [s2 : Arr v2 encB 1 h2 ys] :
    Spec Try.prog 27 #[v1, v2] [] [h1, h2] (fun v hs => v = .bool (decide (xs = ys)) ∧ hs = []) := by
  refine Spec.intro (fn := Try.f27) (N := 26) Try.func27 rfl Try.ntmps27 rfl fun B => ?_
  refine XK.seq ?_
  refine XK.region rfl ?_
  refine XO.q (Q.assign rfl) ?_
  refine XO.done ?_
  refine XK.seq ?_
  refine XK.seq ?_
  refine XK.region rfl ?_
  refine XO.q (Q.move rfl) ?_
  refine XO.len rfl fun l7 => ?_
  refine XO.q (Q.move rfl) ?_
  refine XO.len rfl fun l9 => ?_
  refine XO.q (Q.neq rfl rfl) ?_
  refine XO.done ?_
  refine XK.if rfl (fun c0 => ?_) (fun c0 => ?_)
  · have _t0 := True.intro
    refine XK.seq ?_
    refine XK.region rfl ?_
    refine XO.q (Q.assign rfl) ?_
    refine XO.done ?_
    refine XK.rt [] Try.func27 Try.results27 (.t rfl .n) ?_
    exact ⟨by rw [decide_eq_false (fun h => c0 (by rw [h]))], rfl⟩
  · have _t0 := True.intro
    refine XK.skip ?_
    refine XK.seq ?_
    refine XK.seq ?_
    refine XK.region rfl ?_
    refine XO.q (Q.move rfl) ?_
    refine XO.len rfl fun l12 => ?_
    refine XO.q (Q.move rfl) ?_
    refine XO.done ?_
    refine XK.block ?_
    refine XK.while (X := Nat) [4, 5, 13, 14, 15, 16, 17, 18, 19, 20, 21, 22, 23, 24, 25] (fun i => [(13, some (.int .i64 (i : Nat)))]) (fun i => []) (fun i => i ≤ xs.length ∧ xs.take i = ys.take i) (fun i => xs.length - i) (0) [] rfl ⟨by omega, rfl⟩ (.c rfl (.base 0 rfl rfl)) ?_
    rintro i ⟨hi, ht⟩ ih0
    dsimp only [List.cons_append, List.nil_append] at ih0 ⊢
    refine XK.seq ?_
    refine XK.region rfl ?_
    refine XO.q (Q.lss rfl rfl) ?_
    refine XO.done ?_
    refine XK.seq ?_
    refine XK.if rfl (fun c1 => ?_) (fun c1 => ?_)
    · have _t1 := True.intro
      refine XK.skip ?_
      refine XK.seq ?_
      refine XK.block ?_
      refine XK.seq ?_
      refine XK.region rfl ?_
      refine XO.q (Q.move rfl) ?_
      refine XO.q (Q.assign rfl) ?_
      refine XO.done ?_
      refine XK.seq ?_
      refine XK.drawn [0, 1, 2, 3, 4, 5, 6, 7, 8] [] [] (.q 0 (.q 1 (.q 2 (.q 3 (.q 4 (.q 5 (.q 6 (.q 7 (.q 8 .done))))))))) Try.mixed rfl (by kernel_rfl) ?_
      refine XT.q rfl rfl (Q.move rfl) ?_
      refine XT.q rfl rfl (Q.move rfl) ?_
      refine XT.ix rfl rfl rfl rfl (by omega) (by omega) fun i18 => ?_
      refine XT.q rfl rfl (Q.ldE rfl (by first | assumption | omega) rfl) ?_
      refine XT.q rfl rfl (Q.move rfl) ?_
      refine XT.q rfl rfl (Q.move rfl) ?_
      refine XT.ix rfl rfl rfl rfl (by omega) (by omega) fun i22 => ?_
      refine XT.q rfl rfl (Q.ldE rfl (by first | assumption | omega) rfl) ?_
      refine XT.q rfl rfl (Q.neqB rfl rfl) ?_
      refine XT.done ?_
      refine XK.if rfl (fun c2 => ?_) (fun c2 => ?_)
      · have _t2 := True.intro
        refine XK.seq ?_
        refine XK.region rfl ?_
        refine XO.q (Q.assign rfl) ?_
        refine XO.done ?_
        refine XK.rt [] Try.func27 Try.results27 (.t rfl .n) ?_
        exact ⟨by rw [decide_eq_false (fun h => c2 (by rw [h]))], rfl⟩
      · have _t2 := True.intro
        refine XK.skip ?_
        refine XK.inBlock ?_
        refine XK.region rfl ?_
        refine XO.q (Q.add rfl rfl ⟨by omega, by omega⟩) ?_
        refine XO.q (Q.move rfl) ?_
        refine XO.done ?_
        exact ih0 (i + 1) _ _ ⟨by omega, take_step ht (by omega) (by omega) (Decidable.of_not_not c2)⟩ (by first | omega | (dsimp only; omega)) (.c rfl (.base 30 rfl rfl)) inferInstance
    · have _t1 := True.intro
      refine XK.exit rfl ?_
      refine XK.seq ?_
      refine XK.region rfl ?_
      refine XO.q (Q.assign rfl) ?_
      refine XO.done ?_
      refine XK.rt [] Try.func27 Try.results27 (.t rfl .n) ?_
      exact ⟨by rw [decide_eq_true (take_all ht c1 (by omega))], rfl⟩
theorem equalI (v1 v2 : Value) (h1 h2 : PHeap) (xs ys : List Int) [s1 : Arr v1 encI 1 h1 xs] [s2 : Arr v2 encI 1 h2 ys] :
    Spec Try.prog 37 #[v1, v2] [] [h1, h2] (fun v hs => v = .bool (decide (xs = ys)) ∧ hs = []) := by
  refine Spec.intro (fn := Try.f37) (N := 26) Try.func37 rfl Try.ntmps37 rfl fun B => ?_
  refine XK.seq ?_
  refine XK.region rfl ?_
  refine XO.q (Q.assign rfl) ?_
  refine XO.done ?_
  refine XK.seq ?_
  refine XK.seq ?_
  refine XK.region rfl ?_
  refine XO.q (Q.move rfl) ?_
  refine XO.len rfl fun l7 => ?_
  refine XO.q (Q.move rfl) ?_
  refine XO.len rfl fun l9 => ?_
  refine XO.q (Q.neq rfl rfl) ?_
  refine XO.done ?_
  refine XK.if rfl (fun c0 => ?_) (fun c0 => ?_)
  · have _t0 := True.intro
    refine XK.seq ?_
    refine XK.region rfl ?_
    refine XO.q (Q.assign rfl) ?_
    refine XO.done ?_
    refine XK.rt [] Try.func37 Try.results37 (.t rfl .n) ?_
    exact ⟨by rw [decide_eq_false (fun h => c0 (by rw [h]))], rfl⟩
  · have _t0 := True.intro
    refine XK.skip ?_
    refine XK.seq ?_
    refine XK.seq ?_
    refine XK.region rfl ?_
    refine XO.q (Q.move rfl) ?_
    refine XO.len rfl fun l12 => ?_
    refine XO.q (Q.move rfl) ?_
    refine XO.done ?_
    refine XK.block ?_
    refine XK.while (X := Nat) [4, 5, 13, 14, 15, 16, 17, 18, 19, 20, 21, 22, 23, 24, 25] (fun i => [(13, some (.int .i64 (i : Nat)))]) (fun i => []) (fun i => i ≤ xs.length ∧ xs.take i = ys.take i) (fun i => xs.length - i) (0) [] rfl ⟨by omega, rfl⟩ (.c rfl (.base 0 rfl rfl)) ?_
    rintro i ⟨hi, ht⟩ ih0
    dsimp only [List.cons_append, List.nil_append] at ih0 ⊢
    refine XK.seq ?_
    refine XK.region rfl ?_
    refine XO.q (Q.lss rfl rfl) ?_
    refine XO.done ?_
    refine XK.seq ?_
    refine XK.if rfl (fun c1 => ?_) (fun c1 => ?_)
    · have _t1 := True.intro
      refine XK.skip ?_
      refine XK.seq ?_
      refine XK.block ?_
      refine XK.seq ?_
      refine XK.region rfl ?_
      refine XO.q (Q.move rfl) ?_
      refine XO.q (Q.assign rfl) ?_
      refine XO.done ?_
      refine XK.seq ?_
      refine XK.drawn [0, 1, 2, 3, 4, 5, 6, 7, 8] [] [] (.q 0 (.q 1 (.q 2 (.q 3 (.q 4 (.q 5 (.q 6 (.q 7 (.q 8 .done))))))))) Try.mixed rfl (by kernel_rfl) ?_
      refine XT.q rfl rfl (Q.move rfl) ?_
      refine XT.q rfl rfl (Q.move rfl) ?_
      refine XT.ix rfl rfl rfl rfl (by omega) (by omega) fun i18 => ?_
      refine XT.q rfl rfl (Q.ldE rfl (by first | assumption | omega) rfl) ?_
      refine XT.q rfl rfl (Q.move rfl) ?_
      refine XT.q rfl rfl (Q.move rfl) ?_
      refine XT.ix rfl rfl rfl rfl (by omega) (by omega) fun i22 => ?_
      refine XT.q rfl rfl (Q.ldE rfl (by first | assumption | omega) rfl) ?_
      refine XT.q rfl rfl (Q.neq rfl rfl) ?_
      refine XT.done ?_
      refine XK.if rfl (fun c2 => ?_) (fun c2 => ?_)
      · have _t2 := True.intro
        refine XK.seq ?_
        refine XK.region rfl ?_
        refine XO.q (Q.assign rfl) ?_
        refine XO.done ?_
        refine XK.rt [] Try.func37 Try.results37 (.t rfl .n) ?_
        exact ⟨by rw [decide_eq_false (fun h => c2 (by rw [h]))], rfl⟩
      · have _t2 := True.intro
        refine XK.skip ?_
        refine XK.inBlock ?_
        refine XK.region rfl ?_
        refine XO.q (Q.add rfl rfl ⟨by omega, by omega⟩) ?_
        refine XO.q (Q.move rfl) ?_
        refine XO.done ?_
        exact ih0 (i + 1) _ _ ⟨by omega, take_step ht (by omega) (by omega) (Decidable.of_not_not c2)⟩ (by first | omega | (dsimp only; omega)) (.c rfl (.base 30 rfl rfl)) inferInstance
    · have _t1 := True.intro
      refine XK.exit rfl ?_
      refine XK.seq ?_
      refine XK.region rfl ?_
      refine XO.q (Q.assign rfl) ?_
      refine XO.done ?_
      refine XK.rt [] Try.func37 Try.results37 (.t rfl .n) ?_
      exact ⟨by rw [decide_eq_true (take_all ht c1 (by omega))], rfl⟩
end Go.X

set_option linter.unusedSimpArgs false
set_option linter.unusedVariables false
namespace Go.X
open Go.Proofs
theorem indexFuncI (v : Value) (h : PHeap) (xs : List Int) [s : Arr v encI 1 h xs] (gid : FuncId) (cap : List Value) (Hr : List PHeap) (p : Int → Bool)
    (hc : ∀ args w, (callFunc gid args).run Try.prog w = .ok (.enter gid args) w) (hS : ∀ x ∈ xs, Spec Try.prog gid (.int .i64 x :: cap).toArray [] Hr (fun v hs => v = .bool (p x) ∧ hs = [])) :
    Spec Try.prog 90 #[v, .func (.func gid) #[] cap.toArray] [] (h :: Hr) (fun v hs => v = .int .i64 (findFirst p xs) ∧ hs = []) := by
  refine Spec.intro (fn := Try.f90) (N := 19) Try.func90 rfl Try.ntmps90 rfl fun B => ?_
  refine XK.seq ?_
  refine XK.region rfl ?_
  refine XO.q (Q.assign rfl) ?_
  refine XO.done ?_
  refine XK.seq ?_
  refine XK.seq ?_
  refine XK.region rfl ?_
  refine XO.q (Q.move rfl) ?_
  refine XO.len rfl fun l7 => ?_
  refine XO.q (Q.move rfl) ?_
  refine XO.done ?_
  refine XK.block ?_
  refine XK.while (X := Nat) [4, 5, 8, 9, 10, 11, 12, 13, 14, 15, 16, 17, 18] (fun i => [(8, some (.int .i64 (i : Nat)))]) (fun i => []) (fun i => i ≤ xs.length ∧ (xs.take i).any p = false) (fun i => xs.length - i) (0) [] rfl ⟨by omega, rfl⟩ (.c rfl (.base 0 rfl rfl)) ?_
  rintro i ⟨hi, ht⟩ ih0
  dsimp only [List.cons_append, List.nil_append] at ih0 ⊢
  refine XK.seq ?_
  refine XK.region rfl ?_
  refine XO.q (Q.lss rfl rfl) ?_
  refine XO.done ?_
  refine XK.seq ?_
  refine XK.if rfl (fun c0 => ?_) (fun c0 => ?_)
  · have _t0 := True.intro
    refine XK.skip ?_
    refine XK.seq ?_
    refine XK.block ?_
    refine XK.seq ?_
    refine XK.region rfl ?_
    refine XO.q (Q.move rfl) ?_
    refine XO.q (Q.assign rfl) ?_
    refine XO.done ?_
    refine XK.seq ?_
    refine XK.region rfl ?_
    refine XO.q (Q.move rfl) ?_
    refine XO.q (Q.move rfl) ?_
    refine XO.q (Q.move rfl) ?_
    refine XO.ix rfl rfl (by omega) (by omega) fun i14 => ?_
    refine XO.q (Q.ldE rfl (by first | assumption | omega) rfl) ?_
    refine XO.call hc rfl rfl rfl (hS _ (getD_mem (by omega))) fun v16 s16 R16 => ?_
    obtain ⟨rfl, rfl⟩ := R16
    dsimp only [List.cons_append, List.nil_append]
    refine XO.done ?_
    refine XK.if rfl (fun c1 => ?_) (fun c1 => ?_)
    · have _t1 := True.intro
      refine XK.seq ?_
      refine XK.region rfl ?_
      refine XO.q (Q.move rfl) ?_
      refine XO.q (Q.assign rfl) ?_
      refine XO.done ?_
      refine XK.rt [] Try.func90 Try.results90 (.t rfl .n) ?_
      exact ⟨by rw [findFirst_here ht (by omega) c1], rfl⟩
    · have _t1 := True.intro
      refine XK.skip ?_
      refine XK.inBlock ?_
      refine XK.region rfl ?_
      refine XO.q (Q.add rfl rfl ⟨by omega, by omega⟩) ?_
      refine XO.q (Q.move rfl) ?_
      refine XO.done ?_
      exact ih0 (i + 1) _ _ ⟨by omega, any_step ht (by omega) (Bool.eq_false_iff.2 c1)⟩ (by first | omega | (dsimp only; omega)) (.c rfl (.base 25 rfl rfl)) inferInstance
  · have _t0 := True.intro
    refine XK.exit rfl ?_
    refine XK.seq ?_
    refine XK.region rfl ?_
    refine XO.q (Q.assign rfl) ?_
    refine XO.done ?_
    refine XK.rt [] Try.func90 Try.results90 (.t rfl .n) ?_
    exact ⟨by rw [findFirst_none ht c0], rfl⟩
theorem containsFuncI (v : Value) (h : PHeap) (xs : List Int) [s : Arr v encI 1 h xs] (gid : FuncId) (cap : List Value) (Hr : List PHeap) (p : Int → Bool)
    (hc : ∀ args w, (callFunc gid args).run Try.prog w = .ok (.enter gid args) w) (hS : ∀ x ∈ xs, Spec Try.prog gid (.int .i64 x :: cap).toArray [] Hr (fun v hs => v = .bool (p x) ∧ hs = [])) :
    Spec Try.prog 63 #[v, .func (.func gid) #[] cap.toArray] [] (h :: Hr) (fun v hs => v = .bool (xs.any p) ∧ hs = []) := by
  refine Spec.intro (fn := Try.f63) (N := 9) Try.func63 rfl Try.ntmps63 rfl fun B => ?_
  refine XK.seq ?_
  refine XK.region rfl ?_
  refine XO.q (Q.assign rfl) ?_
  refine XO.done ?_
  refine XK.seq ?_
  refine XK.region rfl ?_
  refine XO.q (Q.move rfl) ?_
  refine XO.q (Q.move rfl) ?_
  refine XO.call Try.call90 rfl rfl rfl (indexFuncI v h xs gid cap Hr p hc hS) fun v7 s7 R7 => ?_
  obtain ⟨rfl, rfl⟩ := R7
  dsimp only [List.cons_append, List.nil_append]
  refine XO.q (Q.geq rfl rfl) ?_
  refine XO.q (Q.assign rfl) ?_
  refine XO.done ?_
  refine XK.rt [] Try.func63 Try.results63 (.t rfl .n) ?_
  exact ⟨by rw [← findFirst_any], rfl⟩
end Go.X

set_option linter.unusedSimpArgs false
set_option linter.unusedVariables false
namespace Go.X
open Go.Proofs
theorem check1 (b T : Nat) (n x : Int) (cs : List Value) : Spec Try.prog 64 #[.int .i64 x, ptr b 0] [] [blk b (.int .i64 n :: cs) T] (fun v hs => v = .bool (decide (x < -1) || decide (n ≤ x)) ∧ hs = []) := by
  refine Spec.intro (fn := Try.f64) (N := 12) Try.func64 rfl Try.ntmps64 rfl fun B => ?_
  refine XK.seq ?_
  refine XK.region rfl ?_
  refine XO.q (Q.assign rfl) ?_
  refine XO.done ?_
  refine XK.seq ?_
  refine XK.region rfl ?_
  refine XO.q (Q.move rfl) ?_
  refine XO.q (Q.lss rfl rfl) ?_
  refine XO.q (Q.move rfl) ?_
  refine XO.q (Quiet.guardF rfl rfl fun g7 p7 => Q.move rfl) ?_
  refine XO.q (Quiet.guardF rfl rfl fun g8 p8 => Q.fieldAddr rfl) ?_
  refine XO.q (Quiet.guardF rfl rfl fun g9 p9 => Q.ld (lzv g9 rfl) rfl) ?_
  refine XO.q (Quiet.guardF rfl rfl fun g10 p10 => Q.geq (lzv g10 rfl) (lzv g10 rfl)) ?_
  refine XO.q (Q.or rfl (fun hp => lzv hp rfl)) ?_
  refine XO.q (Q.assign rfl) ?_
  refine XO.done ?_
  refine XK.rt [] Try.func64 Try.results64 (.t rfl .n) ?_
  exact ⟨rfl, rfl⟩
theorem check (g : G) (vn vg : Value) (hn hg : PHeap) [sn : Arr vn encI 1 hn g.next] [sg : Arr vg encB 1 hg g.good] : Spec Try.prog 38 #[.agg #[.int .i64 g.S, .int .i64 g.C, .int .i64 g.K, vn, vg]] [] [hn, hg] (fun v hs => v = .int .i64 (gcheck g) ∧ hs = []) := by
  refine Spec.intro (fn := Try.f38) (N := 58) Try.func38 rfl Try.ntmps38 rfl fun B => ?_
  refine XK.seq ?_
  refine XK.region rfl ?_
  refine XO.box rfl fun b1 => ?_
  refine XO.q (Q.assign rfl) ?_
  refine XO.done ?_
  refine XK.seq ?_
  refine XK.block ?_
  refine XK.seq ?_
  refine XK.region rfl ?_
  refine XO.q (Q.fieldAddr rfl) ?_
  refine XO.q (Q.ld rfl rfl) ?_
  refine XO.q (Q.lss rfl rfl) ?_
  refine XO.q (Q.move rfl) ?_
  refine XO.q (Quiet.guardF rfl rfl fun g8 p8 => Q.fieldAddr rfl) ?_
  refine XO.q (Quiet.guardF rfl rfl fun g9 p9 => Q.ld (lzv g9 rfl) rfl) ?_
  refine XO.q (Quiet.guardF rfl rfl fun g10 p10 => Q.gtr (lzv g10 rfl) rfl) ?_
  refine XO.q (Q.or rfl (fun hp => lzv hp rfl)) ?_
  refine XO.q (Q.move rfl) ?_
  refine XO.q (Quiet.guardF rfl rfl fun g13 p13 => Q.fieldAddr rfl) ?_
  refine XO.q (Quiet.guardF rfl rfl fun g14 p14 => Q.ld (lzv g14 rfl) rfl) ?_
  refine XO.q (Quiet.guardF rfl rfl fun g15 p15 => Q.lss (lzv g15 rfl) rfl) ?_
  refine XO.q (Q.or rfl (fun hp => lzv hp rfl)) ?_
  refine XO.q (Q.move rfl) ?_
  refine XO.q (Quiet.guardF rfl rfl fun g18 p18 => Q.fieldAddr rfl) ?_
  refine XO.q (Quiet.guardF rfl rfl fun g19 p19 => Q.ld (lzv g19 rfl) rfl) ?_
  refine XO.q (Quiet.guardF rfl rfl fun g20 p20 => Q.gtr (lzv g20 rfl) rfl) ?_
  refine XO.q (Q.or rfl (fun hp => lzv hp rfl)) ?_
  refine XO.q (Q.move rfl) ?_
  refine XO.q (Quiet.guardF rfl rfl fun g23 p23 => Q.fieldAddr rfl) ?_
  refine XO.q (Quiet.guardF rfl rfl fun g24 p24 => Q.ld (lzv g24 rfl) rfl) ?_
  refine XO.q (Quiet.guardF rfl rfl fun g25 p25 => Q.lss (lzv g25 rfl) rfl) ?_
  refine XO.q (Q.or rfl (fun hp => lzv hp rfl)) ?_
  refine XO.q (Q.move rfl) ?_
  refine XO.q (Quiet.guardF rfl rfl fun g28 p28 => Q.fieldAddr rfl) ?_
  refine XO.q (Quiet.guardF rfl rfl fun g29 p29 => Q.ld (lzv g29 rfl) rfl) ?_
  refine XO.q (Quiet.guardF rfl rfl fun g30 p30 => Q.gtr (lzv g30 rfl) rfl) ?_
  refine XO.q (Q.or rfl (fun hp => lzv hp rfl)) ?_
  refine XO.q (Q.assign rfl) ?_
  refine XO.done ?_
  refine XK.if rfl (fun c0 => ?_) (fun c0 => ?_)
  · have _t0 := True.intro
    refine XK.seq ?_
    refine XK.region rfl ?_
    refine XO.q (Q.assign rfl) ?_
    refine XO.done ?_
    refine XK.rt [] Try.func38 Try.results38 (.t rfl .n) ?_
    exact ⟨by rw [gcheck, if_pos (by omega)], rfl⟩
  · have _t0 := True.intro
    have hb := g_bd c0
    refine XK.seq ?_
    refine XK.region rfl ?_
    refine XO.q (Q.fieldAddr rfl) ?_
    refine XO.q (Q.ld rfl rfl) ?_
    refine XO.len rfl fun l35 => ?_
    refine XO.q (Q.fieldAddr rfl) ?_
    refine XO.q (Q.ld rfl rfl) ?_
    refine XO.q (Q.fieldAddr rfl) ?_
    refine XO.q (Q.ld rfl rfl) ?_
    refine XO.q (Q.mul rfl rfl ⟨by omega, by omega⟩) ?_
    refine XO.q (Q.fieldAddr rfl) ?_
    refine XO.q (Q.ld rfl rfl) ?_
    refine XO.q (Q.mul rfl rfl ⟨by omega, by omega⟩) ?_
    refine XO.q (Q.neq rfl rfl) ?_
    refine XO.q (Q.move rfl) ?_
    refine XO.q (Quiet.guardF rfl rfl fun g46 p46 => Q.fieldAddr rfl) ?_
    refine XO.q (Quiet.guardF rfl rfl fun g47 p47 => Q.ld (lzv g47 rfl) rfl) ?_
    refine XO.q (Quiet.guardF rfl rfl fun g48 p48 => Q.len (lzv g48 rfl)) ?_
    refine XO.q (Quiet.guardF rfl rfl fun g49 p49 => Q.fieldAddr rfl) ?_
    refine XO.q (Quiet.guardF rfl rfl fun g50 p50 => Q.ld (lzv g50 rfl) rfl) ?_
    refine XO.q (Quiet.guardF rfl rfl fun g51 p51 => Q.neq (lzv g51 rfl) (lzv g51 rfl)) ?_
    refine XO.q (Q.or rfl (fun hp => lzv hp rfl)) ?_
    refine XO.q (Q.assign rfl) ?_
    refine XO.done ?_
    refine XK.if rfl (fun c1 => ?_) (fun c1 => ?_)
    · have _t1 := True.intro
      refine XK.seq ?_
      refine XK.region rfl ?_
      refine XO.q (Q.assign rfl) ?_
      refine XO.done ?_
      refine XK.rt [] Try.func38 Try.results38 (.t rfl .n) ?_
      exact ⟨by rw [gcheck, if_neg (by omega), if_pos (by omega)], rfl⟩
    · have _t1 := True.intro
      refine XK.seq ?_
      refine XK.region rfl ?_
      refine XO.q (Q.fieldAddr rfl) ?_
      refine XO.q (Q.ld rfl rfl) ?_
      refine XO.q (Q.func (fun _ he => rfl) (fun _ he => evs_rel he rfl)) ?_
      refine XO.call Try.call63 rfl rfl rfl (containsFuncI vn hn g.next 64 [ptr b1 0] [blk b1 [.int .i64 g.S, .int .i64 g.C, .int .i64 g.K, vn, vg] 25] _ Try.call64 (fun x _ => check1 b1 25 g.S x _)) fun v57 s57 R57 => ?_
      obtain ⟨rfl, rfl⟩ := R57
      dsimp only [List.cons_append, List.nil_append]
      refine XO.q (Q.assign rfl) ?_
      refine XO.done ?_
      refine XK.if rfl (fun c2 => ?_) (fun c2 => ?_)
      · have _t2 := True.intro
        refine XK.seq ?_
        refine XK.region rfl ?_
        refine XO.q (Q.assign rfl) ?_
        refine XO.done ?_
        refine XK.rt [] Try.func38 Try.results38 (.t rfl .n) ?_
        exact ⟨by rw [gcheck, if_neg (by omega), if_neg (by omega), if_pos c2], rfl⟩
      · have _t2 := True.intro
        refine XK.skip ?_
        refine XK.inBlock ?_
        refine XK.seq ?_
        refine XK.region rfl ?_
        refine XO.q (Q.assign rfl) ?_
        refine XO.done ?_
        refine XK.rt [] Try.func38 Try.results38 (.t rfl .n) ?_
        exact ⟨by rw [gcheck, if_neg (by omega), if_neg (by omega), if_neg c2], rfl⟩
theorem leads_spec (S C K : Nat) (next : List Int) (good : List Bool) (ok : Ok S C K next good) (vn vg : Value) (hn : PHeap) [sn : Arr vn encI 1 hn next] (s u : Nat) (hs : s < S) (hu : u < C) : Spec Try.prog 40 #[.agg #[.int .i64 (S : Nat), .int .i64 (C : Nat), .int .i64 (K : Nat), vn, vg], .int .i64 (s : Nat), .int .i64 (u : Nat)] [] [hn]
    (fun v hs => hs = [] ∧ Arr v encI 1 hn (leads next C K s u)) := by
  have hb := ok.sc
  have hl := lead_le (K := K) hs hu
  have hlen := ok.len
  have hz := lead_int s u C K
  refine Spec.intro (fn := Try.f40) (N := 25) Try.func40 rfl Try.ntmps40 rfl fun B => ?_
  refine XK.seq ?_
  refine XK.region rfl ?_
  refine XO.box rfl fun b3 => ?_
  refine XO.q (Q.assign rfl) ?_
  refine XO.done ?_
  refine XK.seq ?_
  refine XK.region rfl ?_
  refine XO.q (Q.move rfl) ?_
  refine XO.q (Q.fieldAddr rfl) ?_
  refine XO.q (Q.ld rfl rfl) ?_
  refine XO.q (Q.mul rfl rfl ⟨by omega, by omega⟩) ?_
  refine XO.q (Q.move rfl) ?_
  refine XO.q (Q.add rfl rfl ⟨by omega, by omega⟩) ?_
  refine XO.q (Q.fieldAddr rfl) ?_
  refine XO.q (Q.ld rfl rfl) ?_
  refine XO.q (Q.mul rfl rfl ⟨by omega, by omega⟩) ?_
  refine XO.q (Q.assign rfl) ?_
  refine XO.done ?_
  refine XK.seq ?_
  refine XK.region rfl ?_
  refine XO.q (Q.fieldAddr rfl) ?_
  refine XO.q (Q.ld rfl rfl) ?_
  refine XO.q (Q.move rfl) ?_
  refine XO.q (Q.move rfl) ?_
  refine XO.q (Q.fieldAddr rfl) ?_
  refine XO.q (Q.ld rfl rfl) ?_
  refine XO.q (Q.add rfl rfl ⟨by omega, by omega⟩) ?_
  refine XO.cut (i := (s * C + u) * K) (j := (s * C + u) * K + K) rfl (.s rfl (by omega)) (.s rfl (by omega)) (by omega) (by omega) fun v24 A24 => ?_
  refine XO.q (Q.assign rfl) ?_
  refine XO.done ?_
  refine XK.rt [] Try.func40 Try.results40 (.t rfl .n) ?_
  exact ⟨rfl, by rw [Nat.add_sub_cancel_left] at A24; exact A24⟩
end Go.X

set_option linter.unusedSimpArgs false
set_option linter.unusedVariables false
namespace Go.X
open Go.Proofs
theorem refIn (n a b : Int) : Spec Try.prog 44 #[.int .i64 n, .int .i64 a, .int .i64 b] [] [] (fun v hs => v = .bool (decide (a ≤ n) && decide (n ≤ b)) ∧ hs = []) := by
  refine Spec.intro (fn := Try.f44) (N := 15) Try.func44 rfl Try.ntmps44 rfl fun B => ?_
  refine XK.seq ?_
  refine XK.region rfl ?_
  refine XO.q (Q.assign rfl) ?_
  refine XO.done ?_
  refine XK.seq ?_
  refine XK.region rfl ?_
  refine XO.q (Q.move rfl) ?_
  refine XO.q (Q.move rfl) ?_
  refine XO.q (Q.geq rfl rfl) ?_
  refine XO.q (Q.move rfl) ?_
  refine XO.q (Quiet.guardT rfl rfl fun g11 p11 => Q.move rfl) ?_
  refine XO.q (Quiet.guardT rfl rfl fun g12 p12 => Q.move rfl) ?_
  refine XO.q (Quiet.guardT rfl rfl fun g13 p13 => Q.leq (lzv g13 rfl) (lzv g13 rfl)) ?_
  refine XO.q (Q.and rfl (fun hp => lzv hp rfl)) ?_
  refine XO.q (Q.assign rfl) ?_
  refine XO.done ?_
  refine XK.rt [] Try.func44 Try.results44 (.t rfl .n) ?_
  exact ⟨rfl, rfl⟩
theorem gcheck_big {g : G} (h : ((¬ (1 ≤ g.S ∧ g.S ≤ 400) ∨ ¬ (1 ≤ g.C ∧ g.C ≤ 16)) ∨ ¬ (1 ≤ g.K ∧ g.K ≤ 16))) : gcheck g = 2 := by
  unfold gcheck; rw [if_pos (by omega)]
theorem g_bd' {S C K : Int} (h : ¬ ((¬ (1 ≤ S ∧ S ≤ 400) ∨ ¬ (1 ≤ C ∧ C ≤ 16)) ∨ ¬ (1 ≤ K ∧ K ≤ 16))) : 1 ≤ S * C ∧ S * C ≤ 6400 ∧ 1 ≤ S * C * K ∧ S * C * K ≤ 102400 := g_bd (by omega)
theorem refCheck (g : G) (vn vg : Value) (hn hg : PHeap) [sn : Arr vn encI 1 hn g.next] [sg : Arr vg encB 1 hg g.good] : Spec Try.prog 41 #[.agg #[.int .i64 g.S, .int .i64 g.C, .int .i64 g.K, vn, vg]] [] [hn, hg] (fun v hs => v = .int .i64 (gcheck g) ∧ hs = []) := by
  refine Spec.intro (fn := Try.f41) (N := 57) Try.func41 rfl Try.ntmps41 rfl fun B => ?_
  refine XK.seq ?_
  refine XK.region rfl ?_
  refine XO.box rfl fun b1 => ?_
  refine XO.q (Q.assign rfl) ?_
  refine XO.done ?_
  refine XK.seq ?_
  refine XK.seq ?_
  refine XK.region rfl ?_
  refine XO.q (Q.fieldAddr rfl) ?_
  refine XO.q (Q.ld rfl rfl) ?_
  refine XO.call Try.call44 rfl rfl rfl (refIn _ _ _) fun v6 s6 R6 => ?_
  obtain ⟨rfl, rfl⟩ := R6
  dsimp only [List.cons_append, List.nil_append]
  refine XO.q (Q.not rfl) ?_
  refine XO.q (Q.move rfl) ?_
  refine XO.q (Quiet.guardF rfl rfl fun g9 p9 => Q.fieldAddr rfl) ?_
  refine XO.q (Quiet.guardF rfl rfl fun g10 p10 => Q.ld (lzv g10 rfl) rfl) ?_
  refine XO.gcallF rfl rfl Try.call44 rfl (fun g11 => .c (lzv g11 rfl) (.c rfl (.c rfl .n))) rfl (fun g11 p11 => refIn _ _ _) ?_
  refine XO.q (Quiet.guardF rfl rfl fun g12 p12 => Q.not (lzv g12 rfl)) ?_
  refine XO.q (Q.or rfl (fun hp => lzv hp rfl)) ?_
  refine XO.q (Q.move rfl) ?_
  refine XO.q (Quiet.guardF rfl rfl fun g15 p15 => Q.fieldAddr rfl) ?_
  refine XO.q (Quiet.guardF rfl rfl fun g16 p16 => Q.ld (lzv g16 rfl) rfl) ?_
  refine XO.gcallF rfl rfl Try.call44 rfl (fun g17 => .c (lzv g17 rfl) (.c rfl (.c rfl .n))) rfl (fun g17 p17 => refIn _ _ _) ?_
  refine XO.q (Quiet.guardF rfl rfl fun g18 p18 => Q.not (lzv g18 rfl)) ?_
  refine XO.q (Q.or rfl (fun hp => lzv hp rfl)) ?_
  refine XO.done ?_
  refine XK.if rfl (fun c0 => ?_) (fun c0 => ?_)
  · have _t0 := True.intro
    refine XK.seq ?_
    refine XK.region rfl ?_
    refine XO.q (Q.assign rfl) ?_
    refine XO.done ?_
    refine XK.rt [] Try.func41 Try.results41 (.t rfl .n) ?_
    exact ⟨by rw [gcheck_big c0], rfl⟩
  · have _t0 := True.intro
    have hb := g_bd' c0
    refine XK.skip ?_
    refine XK.seq ?_
    refine XK.seq ?_
    refine XK.region rfl ?_
    refine XO.q (Q.fieldAddr rfl) ?_
    refine XO.q (Q.ld rfl rfl) ?_
    refine XO.len rfl fun l22 => ?_
    refine XO.q (Q.fieldAddr rfl) ?_
    refine XO.q (Q.ld rfl rfl) ?_
    refine XO.q (Q.fieldAddr rfl) ?_
    refine XO.q (Q.ld rfl rfl) ?_
    refine XO.q (Q.mul rfl rfl ⟨by omega, by omega⟩) ?_
    refine XO.q (Q.fieldAddr rfl) ?_
    refine XO.q (Q.ld rfl rfl) ?_
    refine XO.q (Q.mul rfl rfl ⟨by omega, by omega⟩) ?_
    refine XO.q (Q.neq rfl rfl) ?_
    refine XO.q (Q.move rfl) ?_
    refine XO.q (Quiet.guardF rfl rfl fun g33 p33 => Q.fieldAddr rfl) ?_
    refine XO.q (Quiet.guardF rfl rfl fun g34 p34 => Q.ld (lzv g34 rfl) rfl) ?_
    refine XO.q (Quiet.guardF rfl rfl fun g35 p35 => Q.len (lzv g35 rfl)) ?_
    refine XO.q (Quiet.guardF rfl rfl fun g36 p36 => Q.fieldAddr rfl) ?_
    refine XO.q (Quiet.guardF rfl rfl fun g37 p37 => Q.ld (lzv g37 rfl) rfl) ?_
    refine XO.q (Quiet.guardF rfl rfl fun g38 p38 => Q.neq (lzv g38 rfl) (lzv g38 rfl)) ?_
    refine XO.q (Q.or rfl (fun hp => lzv hp rfl)) ?_
    refine XO.done ?_
    refine XK.if rfl (fun c1 => ?_) (fun c1 => ?_)
    · have _t1 := True.intro
      refine XK.seq ?_
      refine XK.region rfl ?_
      refine XO.q (Q.assign rfl) ?_
      refine XO.done ?_
      refine XK.rt [] Try.func41 Try.results41 (.t rfl .n) ?_
      exact ⟨by rw [gcheck, if_neg (by omega), if_pos (by omega)], rfl⟩
    · have _t1 := True.intro
      refine XK.skip ?_
      refine XK.seq ?_
      refine XK.seq ?_
      refine XK.region rfl ?_
      refine XO.q (Q.assign rfl) ?_
      refine XO.done ?_
      refine XK.block ?_
      refine XK.while (X := Nat) [2, 3, 40, 41, 42, 43, 44, 45, 46, 47, 48, 49, 50, 51, 52, 53, 54, 55, 56] (fun i => [(3, some (.int .i64 (i : Nat)))]) (fun i => []) (fun i => i ≤ g.next.length ∧ (g.next.take i).any (fun n => decide (n < -1) || decide (g.S ≤ n)) = false) (fun i => g.next.length - i) (0) [] rfl ⟨by omega, rfl⟩ (.c rfl (.base 0 rfl rfl)) ?_
      rintro i ⟨hi, ht⟩ ih0
      dsimp only [List.cons_append, List.nil_append] at ih0 ⊢
      refine XK.seq ?_
      refine XK.seq ?_
      refine XK.region rfl ?_
      refine XO.q (Q.move rfl) ?_
      refine XO.q (Q.fieldAddr rfl) ?_
      refine XO.q (Q.ld rfl rfl) ?_
      refine XO.len rfl fun l43 => ?_
      refine XO.q (Q.lss rfl rfl) ?_
      refine XO.done ?_
      refine XK.if rfl (fun c2 => ?_) (fun c2 => ?_)
      · have _t2 := True.intro
        refine XK.skip ?_
        refine XK.seq ?_
        refine XK.block ?_
        refine XK.seq ?_
        refine XK.drawn [0, 1, 2, 3, 4, 5, 6, 7, 9] [b1] [] (.q 0 (.q 1 (.q 2 (.q 3 (.q 4 (.q 5 (.q 6 (.q 7 (.br 8 true (.q 9 .done) .stop))))))))) Try.mixed rfl (by kernel_rfl) ?_
        refine XT.q rfl rfl (Q.fieldAddr rfl) ?_
        refine XT.q rfl rfl (Q.ld rfl rfl) ?_
        refine XT.q rfl rfl (Q.move rfl) ?_
        refine XT.ix rfl rfl rfl rfl (by omega) (by omega) fun i50 => ?_
        refine XT.q rfl rfl (Q.ldE rfl (by first | assumption | omega) rfl) ?_
        refine XT.q rfl rfl (Q.fieldAddr rfl) ?_
        refine XT.q rfl rfl (Q.ld rfl rfl) ?_
        refine XT.q rfl rfl (Q.sub rfl rfl ⟨by omega, by omega⟩) ?_
        refine XT.call rfl rfl Try.call44 rfl rfl rfl (refIn _ _ _) (fun v55 s55 R55 => ?_) XT.stop
        obtain ⟨rfl, rfl⟩ := R55
        dsimp only [List.cons_append, List.nil_append]
        refine ⟨inferInstance, ?_⟩
        refine XT.q rfl rfl (Q.not rfl) ?_
        refine XT.done ?_
        refine XK.if rfl (fun c3 => ?_) (fun c3 => ?_)
        · have _t3 := True.intro
          refine XK.seq ?_
          refine XK.region rfl ?_
          refine XO.q (Q.assign rfl) ?_
          refine XO.done ?_
          refine XK.rt [] Try.func41 Try.results41 (.t rfl .n) ?_
          exact ⟨by rw [gcheck, if_neg (by omega), if_neg (by omega), if_pos (List.any_eq_true.2 ⟨_, getD_mem (by omega), by simp only [Bool.or_eq_true, decide_eq_true_eq]; omega⟩)], rfl⟩
        · have _t3 := True.intro
          refine XK.skip ?_
          refine XK.inBlock ?_
          refine XK.region rfl ?_
          refine XO.q (Q.move rfl) ?_
          refine XO.q (Q.add rfl rfl ⟨by omega, by omega⟩) ?_
          refine XO.q (Q.assign rfl) ?_
          refine XO.done ?_
          exact ih0 (i + 1) _ _ ⟨by omega, any_step ht (by omega) (by simp only [Bool.or_eq_false_iff, decide_eq_false_iff_not]; omega)⟩ (by first | omega | (dsimp only; omega)) (.c rfl (.base 38 rfl rfl)) inferInstance
      · have _t2 := True.intro
        refine XK.exit rfl ?_
        refine XK.seq ?_
        refine XK.region rfl ?_
        refine XO.q (Q.assign rfl) ?_
        refine XO.done ?_
        refine XK.rt [] Try.func41 Try.results41 (.t rfl .n) ?_
        exact ⟨by rw [List.take_of_length_le (by omega)] at ht; rw [gcheck, if_neg (by omega), if_neg (by omega), if_neg (by rw [ht]; simp)], rfl⟩
theorem refLeads (S C K : Nat) (next : List Int) (good : List Bool) (ok : Ok S C K next good) (vn vg : Value) (hn : PHeap) [sn : Arr vn encI 1 hn next] (s u w : Nat) (hs : s < S) (hu : u < C) (hw : w < K) : Spec Try.prog 42 #[.agg #[.int .i64 (S : Nat), .int .i64 (C : Nat), .int .i64 (K : Nat), vn, vg], .int .i64 (s : Nat), .int .i64 (u : Nat), .int .i64 (w : Nat)] [] [hn]
    (fun v hs => v = .int .i64 (next.getD ((s * C + u) * K + w) 0) ∧ hs = []) := by
  have hb := ok.sc
  have hl := lead_le (K := K) hs hu
  have hlen := ok.len
  have hz := lead_int s u C K
  refine Spec.intro (fn := Try.f42) (N := 24) Try.func42 rfl Try.ntmps42 rfl fun B => ?_
  refine XK.seq ?_
  refine XK.region rfl ?_
  refine XO.box rfl fun b4 => ?_
  refine XO.q (Q.assign rfl) ?_
  refine XO.done ?_
  refine XK.seq ?_
  refine XK.region rfl ?_
  refine XO.q (Q.fieldAddr rfl) ?_
  refine XO.q (Q.ld rfl rfl) ?_
  refine XO.q (Q.move rfl) ?_
  refine XO.q (Q.fieldAddr rfl) ?_
  refine XO.q (Q.ld rfl rfl) ?_
  refine XO.q (Q.mul rfl rfl ⟨by omega, by omega⟩) ?_
  refine XO.q (Q.move rfl) ?_
  refine XO.q (Q.add rfl rfl ⟨by omega, by omega⟩) ?_
  refine XO.q (Q.fieldAddr rfl) ?_
  refine XO.q (Q.ld rfl rfl) ?_
  refine XO.q (Q.mul rfl rfl ⟨by omega, by omega⟩) ?_
  refine XO.q (Q.move rfl) ?_
  refine XO.q (Q.add rfl rfl ⟨by omega, by omega⟩) ?_
  refine XO.ix rfl rfl (by omega) (by omega) fun i22 => ?_
  refine XO.q (Q.ldE rfl (by first | assumption | omega) rfl) ?_
  refine XO.q (Q.assign rfl) ?_
  refine XO.done ?_
  refine XK.rt [] Try.func42 Try.results42 (.t rfl .n) ?_
  exact ⟨rfl, rfl⟩
theorem copyTruths (v : Value) (h : PHeap) (xs : List Bool) [s : Arr v encB 1 h xs] (hl : xs.length ≤ 68719476736) :
    Spec Try.prog 45 #[v] [] [h] (fun v' hs => ∃ h', hs = [h'] ∧ OArr v' encB 1 4 h' xs) := by
  have hnil : OArr (.slice none 0 0) encB 1 4 emp ([] : List Bool) := OArr.nil (fun _ => rfl)
  refine Spec.intro (fn := Try.f45) (N := 7) Try.func45 rfl Try.ntmps45 rfl fun B => ?_
  refine XK.seq ?_
  refine XK.region rfl ?_
  refine XO.q (Q.assign rfl) ?_
  refine XO.done ?_
  refine XK.seq ?_
  refine XK.region rfl ?_
  refine XO.q (Q.assign rfl) ?_
  refine XO.done ?_
  refine XK.seq ?_
  refine XK.region rfl ?_
  refine XO.q (Q.move rfl) ?_
  refine XO.q (Q.move rfl) ?_
  refine XO.drop (o' := [emp]) ?_
  refine XO.append rfl rfl rfl rfl (by simp; omega) fun v6 h6 O6 => ?_
  refine XO.q (Q.assign rfl) ?_
  refine XO.done ?_
  refine XK.rt [h6] Try.func45 Try.results45 (.t rfl .n) ?_
  exact ⟨h6, rfl, by simpa using O6⟩
theorem copyInts (v : Value) (h : PHeap) (xs : List Int) [s : Arr v encI 1 h xs] (hl : xs.length ≤ 68719476736) :
    Spec Try.prog 71 #[v] [] [h] (fun v' hs => ∃ h', hs = [h'] ∧ OArr v' encI 1 3 h' xs) := by
  have hnil : OArr (.slice none 0 0) encI 1 3 emp ([] : List Int) := OArr.nil (fun _ => rfl)
  refine Spec.intro (fn := Try.f71) (N := 7) Try.func71 rfl Try.ntmps71 rfl fun B => ?_
  refine XK.seq ?_
  refine XK.region rfl ?_
  refine XO.q (Q.assign rfl) ?_
  refine XO.done ?_
  refine XK.seq ?_
  refine XK.region rfl ?_
  refine XO.q (Q.assign rfl) ?_
  refine XO.done ?_
  refine XK.seq ?_
  refine XK.region rfl ?_
  refine XO.q (Q.move rfl) ?_
  refine XO.q (Q.move rfl) ?_
  refine XO.drop (o' := [emp]) ?_
  refine XO.append rfl rfl rfl rfl (by simp; omega) fun v6 h6 O6 => ?_
  refine XO.q (Q.assign rfl) ?_
  refine XO.done ?_
  refine XK.rt [h6] Try.func71 Try.results71 (.t rfl .n) ?_
  exact ⟨h6, rfl, by simpa using O6⟩
theorem large (g : G) (vn vg : Value) (hn hg : PHeap) [sn : Arr vn encI 1 hn g.next] [sg : Arr vg encB 1 hg g.good] : Spec Try.prog 10 #[.agg #[.int .i64 g.S, .int .i64 g.C, .int .i64 g.K, vn, vg]] [] [hn, hg] (fun v hs => v = .bool (decide (3000 < (g.next.length : Int)) || decide (500 < (g.good.length : Int))) ∧ hs = []) := by
  refine Spec.intro (fn := Try.f10) (N := 13) Try.func10 rfl Try.ntmps10 rfl fun B => ?_
  refine XK.seq ?_
  refine XK.region rfl ?_
  refine XO.box rfl fun b1 => ?_
  refine XO.q (Q.assign rfl) ?_
  refine XO.done ?_
  refine XK.seq ?_
  refine XK.region rfl ?_
  refine XO.q (Q.fieldAddr rfl) ?_
  refine XO.q (Q.ld rfl rfl) ?_
  refine XO.len rfl fun l5 => ?_
  refine XO.q (Q.gtr rfl rfl) ?_
  refine XO.q (Q.move rfl) ?_
  refine XO.q (Quiet.guardF rfl rfl fun g8 p8 => Q.fieldAddr rfl) ?_
  refine XO.q (Quiet.guardF rfl rfl fun g9 p9 => Q.ld (lzv g9 rfl) rfl) ?_
  refine XO.q (Quiet.guardF rfl rfl fun g10 p10 => Q.len (lzv g10 rfl)) ?_
  refine XO.q (Quiet.guardF rfl rfl fun g11 p11 => Q.gtr (lzv g11 rfl) rfl) ?_
  refine XO.q (Q.or rfl (fun hp => lzv hp rfl)) ?_
  refine XO.q (Q.assign rfl) ?_
  refine XO.done ?_
  refine XK.rt [] Try.func10 Try.results10 (.t rfl .n) ?_
  exact ⟨rfl, rfl⟩
theorem copied (g : G) (vn vg : Value) (hn hg : PHeap) [sn : Arr vn encI 1 hn g.next] [sg : Arr vg encB 1 hg g.good] (h1 : g.next.length ≤ 68719476736) (h2 : g.good.length ≤ 68719476736) : Spec Try.prog 12 #[.agg #[.int .i64 g.S, .int .i64 g.C, .int .i64 g.K, vn, vg]] [] [hn, hg]
    (fun v hs => ∃ v1 v2 v3 v4 k1 k2 k3 k4, v = .tuple #[.agg #[.int .i64 g.S, .int .i64 g.C, .int .i64 g.K, v1, v2], .agg #[.int .i64 g.S, .int .i64 g.C, .int .i64 g.K, v3, v4]] ∧ hs = [k1, k2, k3, k4] ∧
      OArr v1 encI 1 3 k1 g.next ∧ OArr v2 encB 1 4 k2 g.good ∧ OArr v3 encI 1 3 k3 g.next ∧ OArr v4 encB 1 4 k4 g.good) := by
  refine Spec.intro (fn := Try.f12) (N := 30) Try.func12 rfl Try.ntmps12 rfl fun B => ?_
  refine XK.seq ?_
  refine XK.region rfl ?_
  refine XO.box rfl fun b1 => ?_
  refine XO.alloc fun b2 => ?_
  refine XO.alloc fun b3 => ?_
  refine XO.done ?_
  refine XK.seq ?_
  refine XK.drawn [0, 1, 2, 3, 4, 5, 6, 7, 9, 10, 13, 14, 15, 16, 17, 18, 19, 20, 22, 23, 12, 25] [b1] [] (.q 0 (.q 1 (.q 2 (.q 3 (.q 4 (.q 5 (.q 6 (.q 7 (.q 9 (.q 10 (.q 13 (.q 14 (.q 15 (.q 16 (.q 17 (.q 18 (.q 19 (.q 20 (.q 22 (.q 23 (.br 8 true (.br 11 true (.q 12 (.br 21 true (.br 24 true (.q 25 (.br 26 true (.br 27 false .done .stop) .stop)) .stop) .stop)) .stop) .stop))))))))))))))))))))) Try.mixed rfl (by kernel_rfl) ?_
  refine XT.q rfl rfl (Q.fieldAddr rfl) ?_
  refine XT.q rfl rfl (Q.ld rfl rfl) ?_
  refine XT.q rfl rfl (Q.fieldAddr rfl) ?_
  refine XT.q rfl rfl (Q.ld rfl rfl) ?_
  refine XT.q rfl rfl (Q.fieldAddr rfl) ?_
  refine XT.q rfl rfl (Q.ld rfl rfl) ?_
  refine XT.q rfl rfl (Q.fieldAddr rfl) ?_
  refine XT.q rfl rfl (Q.ld rfl rfl) ?_
  refine XT.q rfl rfl (Q.fieldAddr rfl) ?_
  refine XT.q rfl rfl (Q.ld rfl rfl) ?_
  refine XT.q rfl rfl (Q.fieldAddr rfl) ?_
  refine XT.q rfl rfl (Q.ld rfl rfl) ?_
  refine XT.q rfl rfl (Q.fieldAddr rfl) ?_
  refine XT.q rfl rfl (Q.ld rfl rfl) ?_
  refine XT.q rfl rfl (Q.fieldAddr rfl) ?_
  refine XT.q rfl rfl (Q.ld rfl rfl) ?_
  refine XT.q rfl rfl (Q.fieldAddr rfl) ?_
  refine XT.q rfl rfl (Q.ld rfl rfl) ?_
  refine XT.q rfl rfl (Q.fieldAddr rfl) ?_
  refine XT.q rfl rfl (Q.ld rfl rfl) ?_
  refine XT.call rfl rfl Try.call25 rfl rfl rfl (cloneI _ _ _ (by omega)) (fun v12 s12 R12 => ?_) XT.stop
  obtain ⟨h12, rfl, O12⟩ := R12
  dsimp only [List.cons_append, List.nil_append]
  refine ⟨inferInstance, ?_⟩
  refine XT.call rfl rfl Try.call24 rfl rfl rfl (cloneB _ _ _ (by omega)) (fun v15 s15 R15 => ?_) XT.stop
  obtain ⟨h15, rfl, O15⟩ := R15
  dsimp only [List.cons_append, List.nil_append]
  refine ⟨inferInstance, ?_⟩
  refine XT.q rfl rfl (Q.build [_, _, _, _, _] (.c 0 1 rfl rfl rfl (.c 1 1 rfl rfl rfl (.c 2 1 rfl rfl rfl (.c 3 1 rfl rfl rfl (.c 4 1 rfl rfl rfl (.n _))))))) ?_
  refine XT.call rfl rfl Try.call25 rfl rfl rfl (cloneI _ _ _ (by omega)) (fun v25 s25 R25 => ?_) XT.stop
  obtain ⟨h25, rfl, O25⟩ := R25
  dsimp only [List.cons_append, List.nil_append]
  refine ⟨inferInstance, ?_⟩
  refine XT.call rfl rfl Try.call24 rfl rfl rfl (cloneB _ _ _ (by omega)) (fun v28 s28 R28 => ?_) XT.stop
  obtain ⟨h28, rfl, O28⟩ := R28
  dsimp only [List.cons_append, List.nil_append]
  refine ⟨inferInstance, ?_⟩
  refine XT.q rfl rfl (Q.build [_, _, _, _, _] (.c 0 1 rfl rfl rfl (.c 1 1 rfl rfl rfl (.c 2 1 rfl rfl rfl (.c 3 1 rfl rfl rfl (.c 4 1 rfl rfl rfl (.n _))))))) ?_
  refine XT.st rfl rfl rfl rfl rfl ⟨inferInstance, ?_⟩ XT.stop
  refine XT.st rfl rfl rfl rfl rfl ⟨inferInstance, ?_⟩ XT.stop
  refine XT.done ?_
  refine XK.rt [h12, h15, h25, h28] Try.func12 Try.results12 (.cell [_, _, _, _, _] rfl rfl rfl (.cell [_, _, _, _, _] rfl rfl rfl (.n))) ?_
  exact ⟨v12, v15, v25, v28, h12, h15, h25, h28, rfl, rfl, O12, O15, O25, O28⟩
def sameG (a b : G) : Bool := decide (a.S = b.S) && decide (a.C = b.C) && decide (a.K = b.K) && decide (a.next = b.next) && decide (a.good = b.good)
theorem alike (a b : G) (vn vg wn wg : Value) (hn hg kn kg : PHeap) [sn : Arr vn encI 1 hn a.next] [sg : Arr vg encB 1 hg a.good] [tn : Arr wn encI 1 kn b.next] [tg : Arr wg encB 1 kg b.good] : Spec Try.prog 15 #[.agg #[.int .i64 a.S, .int .i64 a.C, .int .i64 a.K, vn, vg], .agg #[.int .i64 b.S, .int .i64 b.C, .int .i64 b.K, wn, wg]] [] [hn, hg, kn, kg] (fun v hs => v = .bool (sameG a b) ∧ hs = []) := by
  refine Spec.intro (fn := Try.f15) (N := 38) Try.func15 rfl Try.ntmps15 rfl fun B => ?_
  refine XK.seq ?_
  refine XK.region rfl ?_
  refine XO.box rfl fun b2 => ?_
  refine XO.box rfl fun b3 => ?_
  refine XO.q (Q.assign rfl) ?_
  refine XO.done ?_
  refine XK.seq ?_
  refine XK.region rfl ?_
  refine XO.q (Q.fieldAddr rfl) ?_
  refine XO.q (Q.ld rfl rfl) ?_
  refine XO.q (Q.fieldAddr rfl) ?_
  refine XO.q (Q.ld rfl rfl) ?_
  refine XO.q (Q.eql rfl rfl) ?_
  refine XO.q (Q.move rfl) ?_
  refine XO.q (Quiet.guardT rfl rfl fun g11 p11 => Q.fieldAddr rfl) ?_
  refine XO.q (Quiet.guardT rfl rfl fun g12 p12 => Q.ld (lzv g12 rfl) rfl) ?_
  refine XO.q (Quiet.guardT rfl rfl fun g13 p13 => Q.fieldAddr rfl) ?_
  refine XO.q (Quiet.guardT rfl rfl fun g14 p14 => Q.ld (lzv g14 rfl) rfl) ?_
  refine XO.q (Quiet.guardT rfl rfl fun g15 p15 => Q.eql (lzv g15 rfl) (lzv g15 rfl)) ?_
  refine XO.q (Q.and rfl (fun hp => lzv hp rfl)) ?_
  refine XO.q (Q.move rfl) ?_
  refine XO.q (Quiet.guardT rfl rfl fun g18 p18 => Q.fieldAddr rfl) ?_
  refine XO.q (Quiet.guardT rfl rfl fun g19 p19 => Q.ld (lzv g19 rfl) rfl) ?_
  refine XO.q (Quiet.guardT rfl rfl fun g20 p20 => Q.fieldAddr rfl) ?_
  refine XO.q (Quiet.guardT rfl rfl fun g21 p21 => Q.ld (lzv g21 rfl) rfl) ?_
  refine XO.q (Quiet.guardT rfl rfl fun g22 p22 => Q.eql (lzv g22 rfl) (lzv g22 rfl)) ?_
  refine XO.q (Q.and rfl (fun hp => lzv hp rfl)) ?_
  refine XO.q (Q.move rfl) ?_
  refine XO.q (Quiet.guardT rfl rfl fun g25 p25 => Q.fieldAddr rfl) ?_
  refine XO.q (Quiet.guardT rfl rfl fun g26 p26 => Q.ld (lzv g26 rfl) rfl) ?_
  refine XO.q (Quiet.guardT rfl rfl fun g27 p27 => Q.fieldAddr rfl) ?_
  refine XO.q (Quiet.guardT rfl rfl fun g28 p28 => Q.ld (lzv g28 rfl) rfl) ?_
  refine XO.gcallT rfl rfl Try.call37 rfl (fun g29 => .c (lzv g29 rfl) (.c (lzv g29 rfl) .n)) rfl (fun g29 p29 => equalI _ _ _ _ _ _) ?_
  refine XO.q (Q.and rfl (fun hp => lzv hp rfl)) ?_
  refine XO.q (Q.move rfl) ?_
  refine XO.q (Quiet.guardT rfl rfl fun g32 p32 => Q.fieldAddr rfl) ?_
  refine XO.q (Quiet.guardT rfl rfl fun g33 p33 => Q.ld (lzv g33 rfl) rfl) ?_
  refine XO.q (Quiet.guardT rfl rfl fun g34 p34 => Q.fieldAddr rfl) ?_
  refine XO.q (Quiet.guardT rfl rfl fun g35 p35 => Q.ld (lzv g35 rfl) rfl) ?_
  refine XO.gcallT rfl rfl Try.call27 rfl (fun g36 => .c (lzv g36 rfl) (.c (lzv g36 rfl) .n)) rfl (fun g36 p36 => equalB _ _ _ _ _ _) ?_
  refine XO.q (Q.and rfl (fun hp => lzv hp rfl)) ?_
  refine XO.q (Q.assign rfl) ?_
  refine XO.done ?_
  refine XK.rt [] Try.func15 Try.results15 (.t rfl .n) ?_
  exact ⟨rfl, rfl⟩
theorem kept (a b : G) (vn vg wn wg : Value) (hn hg kn kg : PHeap) [sn : Arr vn encI 1 hn a.next] [sg : Arr vg encB 1 hg a.good] [tn : Arr wn encI 1 kn b.next] [tg : Arr wg encB 1 kg b.good] : Spec Try.prog 18 #[.agg #[.int .i64 a.S, .int .i64 a.C, .int .i64 a.K, vn, vg], .agg #[.int .i64 b.S, .int .i64 b.C, .int .i64 b.K, wn, wg]] [] [hn, hg, kn, kg] (fun v hs => v = .bool (sameG a b) ∧ hs = []) := by
  refine Spec.intro (fn := Try.f18) (N := 38) Try.func18 rfl Try.ntmps18 rfl fun B => ?_
  refine XK.seq ?_
  refine XK.region rfl ?_
  refine XO.box rfl fun b2 => ?_
  refine XO.box rfl fun b3 => ?_
  refine XO.q (Q.assign rfl) ?_
  refine XO.done ?_
  refine XK.seq ?_
  refine XK.region rfl ?_
  refine XO.q (Q.fieldAddr rfl) ?_
  refine XO.q (Q.ld rfl rfl) ?_
  refine XO.q (Q.fieldAddr rfl) ?_
  refine XO.q (Q.ld rfl rfl) ?_
  refine XO.q (Q.eql rfl rfl) ?_
  refine XO.q (Q.move rfl) ?_
  refine XO.q (Quiet.guardT rfl rfl fun g11 p11 => Q.fieldAddr rfl) ?_
  refine XO.q (Quiet.guardT rfl rfl fun g12 p12 => Q.ld (lzv g12 rfl) rfl) ?_
  refine XO.q (Quiet.guardT rfl rfl fun g13 p13 => Q.fieldAddr rfl) ?_
  refine XO.q (Quiet.guardT rfl rfl fun g14 p14 => Q.ld (lzv g14 rfl) rfl) ?_
  refine XO.q (Quiet.guardT rfl rfl fun g15 p15 => Q.eql (lzv g15 rfl) (lzv g15 rfl)) ?_
  refine XO.q (Q.and rfl (fun hp => lzv hp rfl)) ?_
  refine XO.q (Q.move rfl) ?_
  refine XO.q (Quiet.guardT rfl rfl fun g18 p18 => Q.fieldAddr rfl) ?_
  refine XO.q (Quiet.guardT rfl rfl fun g19 p19 => Q.ld (lzv g19 rfl) rfl) ?_
  refine XO.q (Quiet.guardT rfl rfl fun g20 p20 => Q.fieldAddr rfl) ?_
  refine XO.q (Quiet.guardT rfl rfl fun g21 p21 => Q.ld (lzv g21 rfl) rfl) ?_
  refine XO.q (Quiet.guardT rfl rfl fun g22 p22 => Q.eql (lzv g22 rfl) (lzv g22 rfl)) ?_
  refine XO.q (Q.and rfl (fun hp => lzv hp rfl)) ?_
  refine XO.q (Q.move rfl) ?_
  refine XO.q (Quiet.guardT rfl rfl fun g25 p25 => Q.fieldAddr rfl) ?_
  refine XO.q (Quiet.guardT rfl rfl fun g26 p26 => Q.ld (lzv g26 rfl) rfl) ?_
  refine XO.q (Quiet.guardT rfl rfl fun g27 p27 => Q.fieldAddr rfl) ?_
  refine XO.q (Quiet.guardT rfl rfl fun g28 p28 => Q.ld (lzv g28 rfl) rfl) ?_
  refine XO.gcallT rfl rfl Try.call37 rfl (fun g29 => .c (lzv g29 rfl) (.c (lzv g29 rfl) .n)) rfl (fun g29 p29 => equalI _ _ _ _ _ _) ?_
  refine XO.q (Q.and rfl (fun hp => lzv hp rfl)) ?_
  refine XO.q (Q.move rfl) ?_
  refine XO.q (Quiet.guardT rfl rfl fun g32 p32 => Q.fieldAddr rfl) ?_
  refine XO.q (Quiet.guardT rfl rfl fun g33 p33 => Q.ld (lzv g33 rfl) rfl) ?_
  refine XO.q (Quiet.guardT rfl rfl fun g34 p34 => Q.fieldAddr rfl) ?_
  refine XO.q (Quiet.guardT rfl rfl fun g35 p35 => Q.ld (lzv g35 rfl) rfl) ?_
  refine XO.gcallT rfl rfl Try.call27 rfl (fun g36 => .c (lzv g36 rfl) (.c (lzv g36 rfl) .n)) rfl (fun g36 p36 => equalB _ _ _ _ _ _) ?_
  refine XO.q (Q.and rfl (fun hp => lzv hp rfl)) ?_
  refine XO.q (Q.assign rfl) ?_
  refine XO.done ?_
  refine XK.rt [] Try.func18 Try.results18 (.t rfl .n) ?_
  exact ⟨rfl, rfl⟩
end Go.X

set_option linter.unusedSimpArgs false
set_option linter.unusedVariables false
namespace Go.X
open Go.Proofs
theorem index1 (b : Nat) (m x : Int) : Spec Try.prog 65 #[.int .i64 x, ptr b 0] [] [blk b [.int .i64 m] 3] (fun v hs => v = .bool (decide (x < 0) || decide (m ≤ x)) ∧ hs = []) := by
  refine Spec.intro (fn := Try.f65) (N := 11) Try.func65 rfl Try.ntmps65 rfl fun B => ?_
  refine XK.seq ?_
  refine XK.region rfl ?_
  refine XO.q (Q.assign rfl) ?_
  refine XO.done ?_
  refine XK.seq ?_
  refine XK.region rfl ?_
  refine XO.q (Q.move rfl) ?_
  refine XO.q (Q.lss rfl rfl) ?_
  refine XO.q (Q.move rfl) ?_
  refine XO.q (Quiet.guardF rfl rfl fun g7 p7 => Q.move rfl) ?_
  refine XO.q (Quiet.guardF rfl rfl fun g8 p8 => Q.ld rfl rfl) ?_
  refine XO.q (Quiet.guardF rfl rfl fun g9 p9 => Q.geq (lzv g9 rfl) (lzv g9 rfl)) ?_
  refine XO.q (Q.or rfl (fun hp => lzv hp rfl)) ?_
  refine XO.q (Q.assign rfl) ?_
  refine XO.done ?_
  refine XK.rt [] Try.func65 Try.results65 (.t rfl .n) ?_
  exact ⟨rfl, rfl⟩
theorem index_spec (m : Int) (v : Value) (h : PHeap) (xs : List Int) [s : Arr v encI 1 h xs] : Spec Try.prog 43 #[.int .i64 m, v] [] [h] (fun v hs => v = .bool (!xs.any (fun x => decide (x < 0) || decide (m ≤ x))) ∧ hs = []) := by
  refine Spec.intro (fn := Try.f43) (N := 9) Try.func43 rfl Try.ntmps43 rfl fun B => ?_
  refine XK.seq ?_
  refine XK.region rfl ?_
  refine XO.box rfl fun b2 => ?_
  refine XO.q (Q.assign rfl) ?_
  refine XO.done ?_
  refine XK.seq ?_
  refine XK.region rfl ?_
  refine XO.q (Q.move rfl) ?_
  refine XO.q (Q.func (fun _ he => rfl) (fun _ he => evs_rel he rfl)) ?_
  refine XO.call Try.call63 rfl rfl rfl (containsFuncI v h xs 65 [ptr b2 0] [blk b2 [.int .i64 m] 3] _ Try.call65 (fun x _ => index1 b2 m x)) fun v7 s7 R7 => ?_
  obtain ⟨rfl, rfl⟩ := R7
  dsimp only [List.cons_append, List.nil_append]
  refine XO.q (Q.not rfl) ?_
  refine XO.q (Q.assign rfl) ?_
  refine XO.done ?_
  refine XK.rt [] Try.func43 Try.results43 (.t rfl .n) ?_
  exact ⟨rfl, rfl⟩
theorem without_spec (g : G) (vn vg : Value) (hn hg : PHeap) [sn : Arr vn encI 1 hn g.next] [sg : Arr vg encB 1 hg g.good] (u : Int) : Spec Try.prog 16 #[.agg #[.int .i64 g.S, .int .i64 g.C, .int .i64 g.K, vn, vg], .int .i64 u] [] [hn, hg] (fun v hs => ∃ v1 v2 k1 k2, v = .tuple #[.agg #[.int .i64 (without g u).1.S, .int .i64 (without g u).1.C, .int .i64 (without g u).1.K, v1, v2], .int .i64 (without g u).2] ∧ hs = [k1, k2] ∧
      OArr v1 encI 1 3 k1 (without g u).1.next ∧ OArr v2 encB 1 4 k2 (without g u).1.good) := by
  refine Spec.intro (fn := Try.f16) (N := 64) Try.func16 rfl Try.ntmps16 rfl fun B => ?_
  have hnil : OArr (.slice none 0 0) encI 1 3 emp ([] : List Int) := OArr.nil (fun _ => rfl)
  refine XK.seq ?_
  refine XK.region rfl ?_
  refine XO.box rfl fun b2 => ?_
  refine XO.alloc fun b4 => ?_
  refine XO.q (Q.assign rfl) ?_
  refine XO.done ?_
  refine XK.seq ?_
  refine XK.seq ?_
  refine XK.region rfl ?_
  refine XO.q (Q.ldA [_, _, _, _, _] rfl rfl rfl) ?_
  refine XO.call Try.call38 rfl rfl rfl (check _ _ _ _ _) fun v11 s11 R11 => ?_
  obtain ⟨rfl, rfl⟩ := R11
  dsimp only [List.cons_append, List.nil_append]
  refine XO.q (Q.assign rfl) ?_
  refine XO.done ?_
  refine XK.seq ?_
  refine XK.region rfl ?_
  refine XO.q (Q.move rfl) ?_
  refine XO.q (Q.neq rfl rfl) ?_
  refine XO.done ?_
  refine XK.if rfl (fun c0 => ?_) (fun c0 => ?_)
  · have _t0 := True.intro
    refine XK.seq ?_
    refine XK.region rfl ?_
    refine XO.q (Q.build [_, _, _, _, _] (.n _)) ?_
    refine XO.q (Q.move rfl) ?_
    refine XO.st rfl rfl rfl ?_
    refine XO.q (Q.assign rfl) ?_
    refine XO.done ?_
    refine XK.rt [emp, emp] Try.func16 Try.results16 (.cell [_, _, _, _, _] rfl rfl rfl (.t rfl .n)) ?_
    have hw := without_bad (u := u) c0
    rw [hw]
    exact ⟨.slice none 0 0, .slice none 0 0, emp, emp, rfl, rfl, OArr.nil (fun _ => rfl), OArr.nil (fun _ => rfl)⟩
  · have _t0 := True.intro
    obtain ⟨S, C, K, hS, hC, hK, ok⟩ := gcheck_ok (Decidable.of_not_not c0)
    obtain ⟨gS, gC, gK, next, good⟩ := g
    dsimp only at hS hC hK ok sn sg ⊢
    subst hS hC hK
    have okb := ok.sc
    have okl := ok.len
    have okg := ok.glen
    have okc := ok.c1
    have okc2 := ok.c2
    have oks := ok.s2
    have okk := ok.k2
    refine XK.skip ?_
    refine XK.seq ?_
    refine XK.block ?_
    refine XK.seq ?_
    refine XK.region rfl ?_
    refine XO.q (Q.fieldAddr rfl) ?_
    refine XO.q (Q.ld rfl rfl) ?_
    refine XO.q (Q.move rfl) ?_
    refine XO.lit [_] [_] [_] encI (by rfl) (by rfl) rfl (by rfl) (by exact .c 0 1 rfl rfl rfl (.n _)) (fun _ => rfl) (by rfl) rfl (by infer_instance) rfl fun v20 h20 O20 => ?_
    refine XO.call Try.call43 rfl rfl rfl (index_spec _ _ h20 [u]) fun v21 s21 R21 => ?_
    obtain ⟨rfl, rfl⟩ := R21
    dsimp only [List.cons_append, List.nil_append]
    refine XO.q (Q.not rfl) ?_
    refine XO.q (Q.assign rfl) ?_
    refine XO.done ?_
    refine XK.if rfl (fun c1 => ?_) (fun c1 => ?_)
    · have _t1 := True.intro
      simp at c1
      refine XK.seq ?_
      refine XK.region rfl ?_
      refine XO.q (Q.build [_, _, _, _, _] (.n _)) ?_
      refine XO.st rfl rfl rfl ?_
      refine XO.q (Q.assign rfl) ?_
      refine XO.done ?_
      refine XK.rt [emp, emp] Try.func16 Try.results16 (.cell [_, _, _, _, _] rfl rfl rfl (.t rfl .n)) ?_
      have hw := (show without ⟨S, C, K, next, good⟩ u = (zeroG, 1) by rw [without, if_neg c0, if_pos (by dsimp only; omega)])
      rw [hw]
      exact ⟨.slice none 0 0, .slice none 0 0, emp, emp, rfl, rfl, OArr.nil (fun _ => rfl), OArr.nil (fun _ => rfl)⟩
    · have _t1 := True.intro
      simp at c1
      obtain ⟨un, hu⟩ := Int.eq_ofNat_of_zero_le (a := u) (by omega)
      subst hu
      refine XK.seq ?_
      refine XK.region rfl ?_
      refine XO.q (Q.fieldAddr rfl) ?_
      refine XO.q (Q.ld rfl rfl) ?_
      refine XO.q (Q.eql rfl rfl) ?_
      refine XO.q (Q.assign rfl) ?_
      refine XO.done ?_
      refine XK.if rfl (fun c2 => ?_) (fun c2 => ?_)
      · have _t2 := True.intro
        refine XK.seq ?_
        refine XK.region rfl ?_
        refine XO.q (Q.build [_, _, _, _, _] (.n _)) ?_
        refine XO.st rfl rfl rfl ?_
        refine XO.q (Q.assign rfl) ?_
        refine XO.done ?_
        refine XK.rt [emp, emp] Try.func16 Try.results16 (.cell [_, _, _, _, _] rfl rfl rfl (.t rfl .n)) ?_
        have hw := (show without ⟨S, C, K, next, good⟩ un = (zeroG, 2) by rw [without, if_neg c0, if_neg (by dsimp only; omega), if_pos (by dsimp only; omega)])
        rw [hw]
        exact ⟨.slice none 0 0, .slice none 0 0, emp, emp, rfl, rfl, OArr.nil (fun _ => rfl), OArr.nil (fun _ => rfl)⟩
      · have _t2 := True.intro
        refine XK.skip ?_
        refine XK.inBlock ?_
        refine XK.seq ?_
        refine XK.meet (X := Nat × Value × PHeap) [7, 29, 30, 31, 32, 33, 34, 35, 36, 37, 38, 39] (fun ⟨b7, v38, h38⟩ => [(7, some (ptr b7 0))]) (fun ⟨b7, v38, h38⟩ => [blk b7 [.int .i64 (S : Nat), .int .i64 ((C : Nat) - 1 : Int), .int .i64 (K : Nat), .slice none 0 0, v38] 25, h38]) (fun ⟨b7, v38, h38⟩ => OArr v38 encB 1 4 h38 good) [] ?_ ?_
        · rintro ⟨b7, v38, h38⟩ O38
          dsimp only [List.cons_append, List.nil_append]
          refine XK.seq ?_
          refine XK.seq ?_
          refine XK.region rfl ?_
          refine XO.q (Q.fieldAddr rfl) ?_
          refine XO.q (Q.ld rfl rfl) ?_
          refine XO.q (Q.move rfl) ?_
          refine XO.done ?_
          refine XK.block ?_
          refine XK.while (X := Nat × Value × PHeap) [8, 9, 42, 43, 44, 45, 46, 47, 48, 49, 50, 51, 52, 53, 54, 55, 56, 57, 58, 59, 60, 61, 62] (fun ⟨s, vN, hN⟩ => [(42, some (.int .i64 (s : Nat)))]) (fun ⟨s, vN, hN⟩ => [blk b7 [.int .i64 (S : Nat), .int .i64 ((C : Nat) - 1 : Int), .int .i64 (K : Nat), vN, v38] 25, hN]) (fun ⟨s, vN, hN⟩ => s ≤ S ∧ OArr vN encI 1 3 hN (rowsW next C K un s)) (fun ⟨s, vN, hN⟩ => S - s) (0, .slice none 0 0, emp) [blk b7 [.int .i64 (S : Nat), .int .i64 ((C : Nat) - 1 : Int), .int .i64 (K : Nat), .slice none 0 0, v38] 25, emp] rfl ⟨by omega, by simpa [rowsW] using hnil⟩ (.c rfl (.base 0 rfl rfl)) ?_
          rintro ⟨s, vN, hN⟩ ⟨hs, ON⟩ ih0
          dsimp only [List.cons_append, List.nil_append] at ih0 ⊢
          refine XK.seq ?_
          refine XK.region rfl ?_
          refine XO.q (Q.lss rfl rfl) ?_
          refine XO.done ?_
          refine XK.seq ?_
          refine XK.if rfl (fun c3 => ?_) (fun c3 => ?_)
          · have _t3 := True.intro
            refine XK.skip ?_
            refine XK.seq ?_
            refine XK.block ?_
            refine XK.seq ?_
            refine XK.region rfl ?_
            refine XO.q (Q.move rfl) ?_
            refine XO.q (Q.assign rfl) ?_
            refine XO.done ?_
            refine XK.seq ?_
            refine XK.region rfl ?_
            refine XO.q (Q.fieldAddr rfl) ?_
            refine XO.q (Q.ld rfl rfl) ?_
            refine XO.q (Q.move rfl) ?_
            refine XO.done ?_
            refine XK.block ?_
            refine XK.while (X := Nat × Value × PHeap) [9, 47, 48, 49, 50, 51, 52, 53, 54, 55, 56, 57, 58, 59, 60, 61] (fun ⟨v, vM, hM⟩ => [(47, some (.int .i64 (v : Nat)))]) (fun ⟨v, vM, hM⟩ => [blk b7 [.int .i64 (S : Nat), .int .i64 ((C : Nat) - 1 : Int), .int .i64 (K : Nat), vM, v38] 25, hM]) (fun ⟨v, vM, hM⟩ => v ≤ C ∧ OArr vM encI 1 3 hM (rowsW next C K un s ++ (List.range v).flatMap (cellW next C K un s))) (fun ⟨v, vM, hM⟩ => C - v) (0, vN, hN) [blk b7 [.int .i64 (S : Nat), .int .i64 ((C : Nat) - 1 : Int), .int .i64 (K : Nat), vN, v38] 25, hN] rfl ⟨by omega, by simpa using ON⟩ (.c rfl (.base 0 rfl rfl)) ?_
            rintro ⟨v, vM, hM⟩ ⟨hv, OM⟩ ih1
            dsimp only [List.cons_append, List.nil_append] at ih1 ⊢
            refine XK.seq ?_
            refine XK.region rfl ?_
            refine XO.q (Q.lss rfl rfl) ?_
            refine XO.done ?_
            refine XK.seq ?_
            refine XK.if rfl (fun c4 => ?_) (fun c4 => ?_)
            · have _t4 := True.intro
              refine XK.skip ?_
              refine XK.seq ?_
              refine XK.block ?_
              refine XK.seq ?_
              refine XK.region rfl ?_
              refine XO.q (Q.move rfl) ?_
              refine XO.q (Q.assign rfl) ?_
              refine XO.done ?_
              refine XK.seq ?_
              refine XK.region rfl ?_
              refine XO.q (Q.move rfl) ?_
              refine XO.q (Q.move rfl) ?_
              refine XO.q (Q.neq rfl rfl) ?_
              refine XO.done ?_
              refine XK.if rfl (fun c5 => ?_) (fun c5 => ?_)
              · have _t5 := True.intro
                refine XK.drawn [0, 1, 2, 3, 4, 7] [b7, b2] [] (.q 0 (.q 1 (.q 2 (.q 3 (.q 4 (.br 5 true (.br 6 true (.q 7 (.br 8 false .done .stop)) .stop) .stop)))))) Try.mixed rfl (by kernel_rfl) ?_
                refine XT.q rfl rfl (Q.fieldAddr rfl) ?_
                refine XT.q rfl rfl (Q.ld rfl rfl) ?_
                refine XT.q rfl rfl (Q.ldA [_, _, _, _, _] rfl rfl rfl) ?_
                refine XT.q rfl rfl (Q.move rfl) ?_
                refine XT.q rfl rfl (Q.move rfl) ?_
                refine XT.call rfl rfl Try.call40 rfl rfl rfl (leads_spec S C K next good ok vn vg hn s v (by omega) (by omega)) (fun v58 s58 R58 => ?_) XT.stop
                obtain ⟨rfl, A58⟩ := R58
                dsimp only [List.cons_append, List.nil_append]
                refine ⟨inferInstance, ?_⟩
                refine XT.append rfl rfl rfl rfl rfl rfl (by have h1 := partW_len ok un (s := s) (v := v) (by omega) (by omega); have h2 := leads_len next C K s v; omega) (fun v59 h59 O59 => ⟨inferInstance, ?_⟩) XT.stop
                refine XT.q rfl rfl (Q.fieldAddr rfl) ?_
                refine XT.st rfl rfl rfl rfl rfl ⟨inferInstance, ?_⟩ XT.stop
                refine XT.done ?_
                refine XK.inBlock ?_
                refine XK.region rfl ?_
                refine XO.q (Q.add rfl rfl ⟨by omega, by omega⟩) ?_
                refine XO.q (Q.move rfl) ?_
                refine XO.done ?_
                exact ih1 (v + 1, v59, h59) _ _ ⟨by omega, by rw [flat_succ, ← List.append_assoc, cellW, if_neg (by omega)]; exact O59⟩ (by first | omega | (dsimp only; omega)) (.c rfl (.base 33 rfl rfl)) inferInstance
              · have _t5 := True.intro
                refine XK.skip ?_
                refine XK.inBlock ?_
                refine XK.region rfl ?_
                refine XO.q (Q.add rfl rfl ⟨by omega, by omega⟩) ?_
                refine XO.q (Q.move rfl) ?_
                refine XO.done ?_
                exact ih1 (v + 1, vM, hM) _ _ ⟨by omega, by rw [flat_succ, cellW, if_pos (by omega), List.append_nil]; exact OM⟩ (by first | omega | (dsimp only; omega)) (.c rfl (.base 25 rfl rfl)) inferInstance
            · have _t4 := True.intro
              refine XK.exit rfl ?_
              refine XK.inBlock ?_
              refine XK.region rfl ?_
              refine XO.q (Q.add rfl rfl ⟨by omega, by omega⟩) ?_
              refine XO.q (Q.move rfl) ?_
              refine XO.done ?_
              exact ih0 (s + 1, vM, hM) _ _ ⟨by omega, by rw [rowsW, flat_succ, ← rowsW, rowW]; simpa [show ¬ v < C by omega, show v = C by omega] using OM⟩ (by first | omega | (dsimp only; omega)) (.c rfl (.base 50 rfl rfl)) inferInstance
          · have _t3 := True.intro
            refine XK.exit rfl ?_
            refine XK.seq ?_
            refine XK.region rfl ?_
            refine XO.q (Q.ldA [_, _, _, _, _] rfl rfl rfl) ?_
            refine XO.st rfl rfl rfl ?_
            refine XO.q (Q.assign rfl) ?_
            refine XO.done ?_
            refine XK.rt [hN, h38] Try.func16 Try.results16 (.cell [_, _, _, _, _] rfl rfl rfl (.t rfl .n)) ?_
            have hw : without ⟨S, C, K, next, good⟩ un = (⟨S, C - 1, K, rowsW next C K un S, good⟩, 0) := by rw [without, if_neg c0, if_neg (by dsimp only; omega), if_neg (by dsimp only; omega)]; simp
            rw [hw]
            have hsS : s = S := by omega
            subst hsS
            exact ⟨vN, v38, hN, h38, rfl, rfl, ON, O38⟩
        · intro mtr8
          dsimp only [List.cons_append, List.nil_append] at mtr8
          refine XK.drawn [0, 1, 2, 3, 4, 5, 6, 7, 8, 10] [b2] [] (.q 0 (.q 1 (.q 2 (.q 3 (.q 4 (.q 5 (.q 6 (.q 7 (.q 8 (.br 9 true (.q 10 (.br 11 true (.br 12 false .done .stop) .stop)) (.br 11 true (.br 9 true (.q 10 (.br 12 false .done .stop)) .stop) .stop))))))))))) Try.mixed rfl (by kernel_rfl) ?_
          refine XT.q rfl rfl (Q.fieldAddr rfl) ?_
          refine XT.q rfl rfl (Q.ld rfl rfl) ?_
          refine XT.q rfl rfl (Q.fieldAddr rfl) ?_
          refine XT.q rfl rfl (Q.ld rfl rfl) ?_
          refine XT.q rfl rfl (Q.sub rfl rfl ⟨by omega, by omega⟩) ?_
          refine XT.q rfl rfl (Q.fieldAddr rfl) ?_
          refine XT.q rfl rfl (Q.ld rfl rfl) ?_
          refine XT.q rfl rfl (Q.fieldAddr rfl) ?_
          refine XT.q rfl rfl (Q.ld rfl rfl) ?_
          refine XT.call rfl rfl Try.call24 rfl rfl rfl (cloneB _ _ _ (by omega)) (fun v38 s38 R38 => ?_) ?_
          · skip
            obtain ⟨h38, rfl, O38⟩ := R38
            dsimp only [List.cons_append, List.nil_append]
            refine ⟨inferInstance, ?_⟩
            refine XT.q rfl rfl (Q.build [_, _, _, _, _] (.c 0 1 rfl rfl rfl (.c 1 1 rfl rfl rfl (.c 2 1 rfl rfl rfl (.c 4 1 rfl rfl rfl (.n _)))))) ?_
            refine XT.alloc rfl rfl (fun b7 => ⟨inferInstance, ?_⟩) XT.stop
            refine XT.st rfl rfl rfl rfl rfl ⟨inferInstance, ?_⟩ XT.stop
            refine XT.done ?_
            exact mtr8 ((b7, v38, h38)) _ _ O38 (.c rfl (.base 12 rfl rfl)) inferInstance
          · skip
            refine XT.alloc rfl rfl (fun b7 => ⟨inferInstance, ?_⟩) XT.stop
            refine XT.call rfl rfl Try.call24 rfl rfl rfl (cloneB _ _ _ (by omega)) (fun v38 s38 R38 => ?_) XT.stop
            obtain ⟨h38, rfl, O38⟩ := R38
            dsimp only [List.cons_append, List.nil_append]
            refine ⟨inferInstance, ?_⟩
            refine XT.q rfl rfl (Q.build [_, _, _, _, _] (.c 0 1 rfl rfl rfl (.c 1 1 rfl rfl rfl (.c 2 1 rfl rfl rfl (.c 4 1 rfl rfl rfl (.n _)))))) ?_
            refine XT.st rfl rfl rfl rfl rfl ⟨inferInstance, ?_⟩ XT.stop
            refine XT.done ?_
            exact mtr8 ((b7, v38, h38)) _ _ O38 (.c rfl (.base 12 rfl rfl)) inferInstance
end Go.X

set_option linter.unusedSimpArgs false
set_option linter.unusedVariables false
namespace Go.X
open Go.Proofs
theorem refWithout (g : G) (vn vg : Value) (hn hg : PHeap) [sn : Arr vn encI 1 hn g.next] [sg : Arr vg encB 1 hg g.good] (u : Int) : Spec Try.prog 17 #[.agg #[.int .i64 g.S, .int .i64 g.C, .int .i64 g.K, vn, vg], .int .i64 u] [] [hn, hg] (fun v hs => ∃ v1 v2 k1 k2, v = .tuple #[.agg #[.int .i64 (without g u).1.S, .int .i64 (without g u).1.C, .int .i64 (without g u).1.K, v1, v2], .int .i64 (without g u).2] ∧ hs = [k1, k2] ∧
      OArr v1 encI 1 3 k1 (without g u).1.next ∧ OArr v2 encB 1 4 k2 (without g u).1.good) := by
  refine Spec.intro (fn := Try.f17) (N := 75) Try.func17 rfl Try.ntmps17 rfl fun B => ?_
  have hnil : OArr (.slice none 0 0) encI 1 3 emp ([] : List Int) := OArr.nil (fun _ => rfl)
  refine XK.seq ?_
  refine XK.region rfl ?_
  refine XO.box rfl fun b2 => ?_
  refine XO.alloc fun b4 => ?_
  refine XO.q (Q.assign rfl) ?_
  refine XO.done ?_
  refine XK.seq ?_
  refine XK.seq ?_
  refine XK.region rfl ?_
  refine XO.q (Q.ldA [_, _, _, _, _] rfl rfl rfl) ?_
  refine XO.call Try.call41 rfl rfl rfl (refCheck _ _ _ _ _) fun v13 s13 R13 => ?_
  obtain ⟨rfl, rfl⟩ := R13
  dsimp only [List.cons_append, List.nil_append]
  refine XO.q (Q.assign rfl) ?_
  refine XO.done ?_
  refine XK.seq ?_
  refine XK.region rfl ?_
  refine XO.q (Q.move rfl) ?_
  refine XO.q (Q.neq rfl rfl) ?_
  refine XO.done ?_
  refine XK.if rfl (fun c0 => ?_) (fun c0 => ?_)
  · have _t0 := True.intro
    refine XK.seq ?_
    refine XK.region rfl ?_
    refine XO.q (Q.build [_, _, _, _, _] (.n _)) ?_
    refine XO.q (Q.move rfl) ?_
    refine XO.st rfl rfl rfl ?_
    refine XO.q (Q.assign rfl) ?_
    refine XO.done ?_
    refine XK.rt [emp, emp] Try.func17 Try.results17 (.cell [_, _, _, _, _] rfl rfl rfl (.t rfl .n)) ?_
    have hw := without_bad (u := u) c0
    rw [hw]
    exact ⟨.slice none 0 0, .slice none 0 0, emp, emp, rfl, rfl, OArr.nil (fun _ => rfl), OArr.nil (fun _ => rfl)⟩
  · have _t0 := True.intro
    obtain ⟨S, C, K, hS, hC, hK, ok⟩ := gcheck_ok (Decidable.of_not_not c0)
    obtain ⟨gS, gC, gK, next, good⟩ := g
    dsimp only at hS hC hK ok sn sg ⊢
    subst hS hC hK
    have okb := ok.sc
    have okl := ok.len
    have okg := ok.glen
    have okc := ok.c1
    have okc2 := ok.c2
    have oks := ok.s2
    have okk := ok.k2
    refine XK.skip ?_
    refine XK.seq ?_
    refine XK.seq ?_
    refine XK.region rfl ?_
    refine XO.q (Q.move rfl) ?_
    refine XO.q (Q.fieldAddr rfl) ?_
    refine XO.q (Q.ld rfl rfl) ?_
    refine XO.q (Q.sub rfl rfl ⟨by omega, by omega⟩) ?_
    refine XO.call Try.call44 rfl rfl rfl (refIn _ _ _) fun v22 s22 R22 => ?_
    obtain ⟨rfl, rfl⟩ := R22
    dsimp only [List.cons_append, List.nil_append]
    refine XO.q (Q.not rfl) ?_
    refine XO.done ?_
    refine XK.if rfl (fun c1 => ?_) (fun c1 => ?_)
    · have _t1 := True.intro
      simp at c1
      refine XK.seq ?_
      refine XK.region rfl ?_
      refine XO.q (Q.build [_, _, _, _, _] (.n _)) ?_
      refine XO.st rfl rfl rfl ?_
      refine XO.q (Q.assign rfl) ?_
      refine XO.done ?_
      refine XK.rt [emp, emp] Try.func17 Try.results17 (.cell [_, _, _, _, _] rfl rfl rfl (.t rfl .n)) ?_
      have hw := (show without ⟨S, C, K, next, good⟩ u = (zeroG, 1) by rw [without, if_neg c0, if_pos (by dsimp only; omega)])
      rw [hw]
      exact ⟨.slice none 0 0, .slice none 0 0, emp, emp, rfl, rfl, OArr.nil (fun _ => rfl), OArr.nil (fun _ => rfl)⟩
    · have _t1 := True.intro
      simp at c1
      obtain ⟨un, hu⟩ := Int.eq_ofNat_of_zero_le (a := u) (by omega)
      subst hu
      refine XK.skip ?_
      refine XK.seq ?_
      refine XK.seq ?_
      refine XK.region rfl ?_
      refine XO.q (Q.fieldAddr rfl) ?_
      refine XO.q (Q.ld rfl rfl) ?_
      refine XO.q (Q.eql rfl rfl) ?_
      refine XO.done ?_
      refine XK.if rfl (fun c2 => ?_) (fun c2 => ?_)
      · have _t2 := True.intro
        refine XK.seq ?_
        refine XK.region rfl ?_
        refine XO.q (Q.build [_, _, _, _, _] (.n _)) ?_
        refine XO.st rfl rfl rfl ?_
        refine XO.q (Q.assign rfl) ?_
        refine XO.done ?_
        refine XK.rt [emp, emp] Try.func17 Try.results17 (.cell [_, _, _, _, _] rfl rfl rfl (.t rfl .n)) ?_
        have hw := (show without ⟨S, C, K, next, good⟩ un = (zeroG, 2) by rw [without, if_neg c0, if_neg (by dsimp only; omega), if_pos (by dsimp only; omega)])
        rw [hw]
        exact ⟨.slice none 0 0, .slice none 0 0, emp, emp, rfl, rfl, OArr.nil (fun _ => rfl), OArr.nil (fun _ => rfl)⟩
      · have _t2 := True.intro
        refine XK.skip ?_
        refine XK.seq ?_
        refine XK.meet (X := Nat × Value × PHeap) [7, 29, 30, 31, 32, 33, 34, 35, 36, 37, 38, 39] (fun ⟨b7, v38, h38⟩ => [(7, some (ptr b7 0))]) (fun ⟨b7, v38, h38⟩ => [blk b7 [.int .i64 (S : Nat), .int .i64 ((C : Nat) - 1 : Int), .int .i64 (K : Nat), .slice none 0 0, v38] 28, h38]) (fun ⟨b7, v38, h38⟩ => OArr v38 encB 1 4 h38 good) [] ?_ ?_
        · rintro ⟨b7, v38, h38⟩ O38
          dsimp only [List.cons_append, List.nil_append]
          refine XK.seq ?_
          refine XK.seq ?_
          refine XK.region rfl ?_
          refine XO.q (Q.assign rfl) ?_
          refine XO.done ?_
          refine XK.block ?_
          refine XK.while (X := Nat × Value × PHeap) [8, 9, 10, 11, 40, 41, 42, 43, 44, 45, 46, 47, 48, 49, 50, 51, 52, 53, 54, 55, 56, 57, 58, 59, 60, 61, 62, 63, 64, 65, 66, 67, 68, 69, 70, 71, 72, 73] (fun ⟨s, vN, hN⟩ => [(8, some (.int .i64 (s : Nat)))]) (fun ⟨s, vN, hN⟩ => [blk b7 [.int .i64 (S : Nat), .int .i64 ((C : Nat) - 1 : Int), .int .i64 (K : Nat), vN, v38] 28, hN]) (fun ⟨s, vN, hN⟩ => s ≤ S ∧ OArr vN encI 1 3 hN (rowsW next C K un s)) (fun ⟨s, vN, hN⟩ => S - s) (0, .slice none 0 0, emp) [blk b7 [.int .i64 (S : Nat), .int .i64 ((C : Nat) - 1 : Int), .int .i64 (K : Nat), .slice none 0 0, v38] 28, emp] rfl ⟨by omega, by simpa [rowsW] using hnil⟩ (.c rfl (.base 0 rfl rfl)) ?_
          rintro ⟨s, vN, hN⟩ ⟨hs, ON⟩ ih0
          dsimp only [List.cons_append, List.nil_append] at ih0 ⊢
          refine XK.seq ?_
          refine XK.seq ?_
          refine XK.region rfl ?_
          refine XO.q (Q.move rfl) ?_
          refine XO.q (Q.fieldAddr rfl) ?_
          refine XO.q (Q.ld rfl rfl) ?_
          refine XO.q (Q.lss rfl rfl) ?_
          refine XO.done ?_
          refine XK.if rfl (fun c3 => ?_) (fun c3 => ?_)
          · have _t3 := True.intro
            refine XK.skip ?_
            refine XK.seq ?_
            refine XK.block ?_
            refine XK.seq ?_
            refine XK.region rfl ?_
            refine XO.q (Q.assign rfl) ?_
            refine XO.done ?_
            refine XK.block ?_
            refine XK.while (X := Nat × Value × PHeap) [9, 10, 11, 46, 47, 48, 49, 50, 51, 52, 53, 54, 55, 56, 57, 58, 59, 60, 61, 62, 63, 64, 65, 66, 67, 68, 69, 70, 71, 72, 73] (fun ⟨v, vM, hM⟩ => [(9, some (.int .i64 (v : Nat)))]) (fun ⟨v, vM, hM⟩ => [blk b7 [.int .i64 (S : Nat), .int .i64 ((C : Nat) - 1 : Int), .int .i64 (K : Nat), vM, v38] 28, hM]) (fun ⟨v, vM, hM⟩ => v ≤ C ∧ OArr vM encI 1 3 hM (rowsW next C K un s ++ (List.range v).flatMap (cellW next C K un s))) (fun ⟨v, vM, hM⟩ => C - v) (0, vN, hN) [blk b7 [.int .i64 (S : Nat), .int .i64 ((C : Nat) - 1 : Int), .int .i64 (K : Nat), vN, v38] 28, hN] rfl ⟨by omega, by simpa using ON⟩ (.c rfl (.base 0 rfl rfl)) ?_
            rintro ⟨v, vM, hM⟩ ⟨hv, OM⟩ ih1
            dsimp only [List.cons_append, List.nil_append] at ih1 ⊢
            refine XK.seq ?_
            refine XK.seq ?_
            refine XK.region rfl ?_
            refine XO.q (Q.move rfl) ?_
            refine XO.q (Q.fieldAddr rfl) ?_
            refine XO.q (Q.ld rfl rfl) ?_
            refine XO.q (Q.lss rfl rfl) ?_
            refine XO.done ?_
            refine XK.if rfl (fun c4 => ?_) (fun c4 => ?_)
            · have _t4 := True.intro
              refine XK.skip ?_
              refine XK.seq ?_
              refine XK.block ?_
              refine XK.seq ?_
              refine XK.region rfl ?_
              refine XO.q (Q.assign rfl) ?_
              refine XO.done ?_
              refine XK.block ?_
              refine XK.while (X := Nat × Value × PHeap) [10, 11, 52, 53, 54, 55, 56, 57, 58, 59, 60, 61, 62, 63, 64, 65, 66, 67, 68, 69, 70, 71, 72, 73] (fun ⟨w, vL, hL⟩ => [(10, some (.int .i64 (w : Nat)))]) (fun ⟨w, vL, hL⟩ => [blk b7 [.int .i64 (S : Nat), .int .i64 ((C : Nat) - 1 : Int), .int .i64 (K : Nat), vL, v38] 28, hL]) (fun ⟨w, vL, hL⟩ => w ≤ K ∧ (v = un → w = 0) ∧ OArr vL encI 1 3 hL (rowsW next C K un s ++ (List.range v).flatMap (cellW next C K un s) ++ (leads next C K s v).take w)) (fun ⟨w, vL, hL⟩ => K - w) (0, vM, hM) [blk b7 [.int .i64 (S : Nat), .int .i64 ((C : Nat) - 1 : Int), .int .i64 (K : Nat), vM, v38] 28, hM] rfl ⟨by omega, fun _ => rfl, by simpa using OM⟩ (.c rfl (.base 0 rfl rfl)) ?_
              rintro ⟨w, vL, hL⟩ ⟨hw, hwu, OL⟩ ih2
              dsimp only [List.cons_append, List.nil_append] at ih2 ⊢
              refine XK.seq ?_
              refine XK.seq ?_
              refine XK.region rfl ?_
              refine XO.q (Q.move rfl) ?_
              refine XO.q (Q.fieldAddr rfl) ?_
              refine XO.q (Q.ld rfl rfl) ?_
              refine XO.q (Q.lss rfl rfl) ?_
              refine XO.q (Q.move rfl) ?_
              refine XO.q (Quiet.guardT rfl rfl fun g57 p57 => Q.move rfl) ?_
              refine XO.q (Quiet.guardT rfl rfl fun g58 p58 => Q.move rfl) ?_
              refine XO.q (Quiet.guardT rfl rfl fun g59 p59 => Q.neq (lzv g59 rfl) (lzv g59 rfl)) ?_
              refine XO.q (Q.and rfl (fun hp => lzv hp rfl)) ?_
              refine XO.done ?_
              refine XK.if rfl (fun c5 => ?_) (fun c5 => ?_)
              · have _t5 := True.intro
                refine XK.skip ?_
                refine XK.seq ?_
                refine XK.block ?_
                refine XK.seq ?_
                refine XK.region rfl ?_
                refine XO.q (Q.fieldAddr rfl) ?_
                refine XO.q (Q.ld rfl rfl) ?_
                refine XO.q (Q.assign rfl) ?_
                refine XO.done ?_
                refine XK.region rfl ?_
                refine XO.q (Q.move rfl) ?_
                refine XO.q (Q.ldA [_, _, _, _, _] rfl rfl rfl) ?_
                refine XO.q (Q.move rfl) ?_
                refine XO.q (Q.move rfl) ?_
                refine XO.q (Q.move rfl) ?_
                refine XO.call Try.call42 rfl rfl rfl (refLeads S C K next good ok vn vg hn s v w (by omega) (by omega) (by omega)) fun v70 s70 R70 => ?_
                obtain ⟨rfl, rfl⟩ := R70
                dsimp only [List.cons_append, List.nil_append]
                refine XO.lit [_] [_] [_] encI (by rfl) (by rfl) rfl (by rfl) (by exact .c 0 1 rfl rfl rfl (.n _)) (fun _ => rfl) (by rfl) rfl (by infer_instance) rfl fun v71 h71 O71 => ?_
                refine XO.append rfl rfl rfl rfl (by have h1 := partW_len ok un (s := s) (v := v) (by omega) (by omega); have h2 := leads_len next C K s v; have h3 := List.length_take_le w (leads next C K s v); simp only [List.length_append, List.length_cons, List.length_nil] at h1 h3 ⊢; omega) fun v72 h72 O72 => ?_
                refine XO.q (Q.fieldAddr rfl) ?_
                refine XO.st rfl rfl rfl ?_
                refine XO.done ?_
                refine XK.inBlock ?_
                refine XK.region rfl ?_
                refine XO.q (Q.move rfl) ?_
                refine XO.q (Q.add rfl rfl ⟨by omega, by omega⟩) ?_
                refine XO.q (Q.assign rfl) ?_
                refine XO.done ?_
                exact ih2 (w + 1, v72, h72) _ _ ⟨by omega, by omega, by rw [leads_succ (by omega) (by have := lead_le (K := K) (C := C) (S := S) (s := s) (u := v) (by omega) (by omega); omega), ← List.append_assoc]; exact O72⟩ (by first | omega | (dsimp only; omega)) (.c rfl (.base 49 rfl rfl)) inferInstance
              · have _t5 := True.intro
                refine XK.exit rfl ?_
                refine XK.inBlock ?_
                refine XK.region rfl ?_
                refine XO.q (Q.move rfl) ?_
                refine XO.q (Q.add rfl rfl ⟨by omega, by omega⟩) ?_
                refine XO.q (Q.assign rfl) ?_
                refine XO.done ?_
                have hcell : (leads next C K s v).take w = cellW next C K un s v := by
                  unfold cellW
                  split
                  · rename_i hvu; rw [hwu hvu]; rfl
                  · rw [show w = K by omega, leads_full]
                rw [hcell] at OL
                exact ih1 (v + 1, vL, hL) _ _ ⟨by omega, by rw [flat_succ, ← List.append_assoc]; exact OL⟩ (by first | omega | (dsimp only; omega)) (.c rfl (.base 74 rfl rfl)) inferInstance
            · have _t4 := True.intro
              refine XK.exit rfl ?_
              refine XK.inBlock ?_
              refine XK.region rfl ?_
              refine XO.q (Q.move rfl) ?_
              refine XO.q (Q.add rfl rfl ⟨by omega, by omega⟩) ?_
              refine XO.q (Q.assign rfl) ?_
              refine XO.done ?_
              exact ih0 (s + 1, vM, hM) _ _ ⟨by omega, by rw [rowsW, flat_succ, ← rowsW, rowW]; simpa [show ¬ v < C by omega, show v = C by omega] using OM⟩ (by first | omega | (dsimp only; omega)) (.c rfl (.base 83 rfl rfl)) inferInstance
          · have _t3 := True.intro
            refine XK.exit rfl ?_
            refine XK.seq ?_
            refine XK.region rfl ?_
            refine XO.q (Q.ldA [_, _, _, _, _] rfl rfl rfl) ?_
            refine XO.st rfl rfl rfl ?_
            refine XO.q (Q.assign rfl) ?_
            refine XO.done ?_
            refine XK.rt [hN, h38] Try.func17 Try.results17 (.cell [_, _, _, _, _] rfl rfl rfl (.t rfl .n)) ?_
            have hw : without ⟨S, C, K, next, good⟩ un = (⟨S, C - 1, K, rowsW next C K un S, good⟩, 0) := by rw [without, if_neg c0, if_neg (by dsimp only; omega), if_neg (by dsimp only; omega)]; simp
            rw [hw]
            have hsS : s = S := by omega
            subst hsS
            exact ⟨vN, v38, hN, h38, rfl, rfl, ON, O38⟩
        · intro mtr8
          dsimp only [List.cons_append, List.nil_append] at mtr8
          refine XK.drawn [0, 1, 2, 3, 4, 5, 6, 7, 8, 10] [b2] [] (.q 0 (.q 1 (.q 2 (.q 3 (.q 4 (.q 5 (.q 6 (.q 7 (.q 8 (.br 9 true (.q 10 (.br 11 true (.br 12 false .done .stop) .stop)) (.br 11 true (.br 9 true (.q 10 (.br 12 false .done .stop)) .stop) .stop))))))))))) Try.mixed rfl (by kernel_rfl) ?_
          refine XT.q rfl rfl (Q.fieldAddr rfl) ?_
          refine XT.q rfl rfl (Q.ld rfl rfl) ?_
          refine XT.q rfl rfl (Q.fieldAddr rfl) ?_
          refine XT.q rfl rfl (Q.ld rfl rfl) ?_
          refine XT.q rfl rfl (Q.sub rfl rfl ⟨by omega, by omega⟩) ?_
          refine XT.q rfl rfl (Q.fieldAddr rfl) ?_
          refine XT.q rfl rfl (Q.ld rfl rfl) ?_
          refine XT.q rfl rfl (Q.fieldAddr rfl) ?_
          refine XT.q rfl rfl (Q.ld rfl rfl) ?_
          refine XT.call rfl rfl Try.call45 rfl rfl rfl (copyTruths _ _ _ (by omega)) (fun v38 s38 R38 => ?_) ?_
          · skip
            obtain ⟨h38, rfl, O38⟩ := R38
            dsimp only [List.cons_append, List.nil_append]
            refine ⟨inferInstance, ?_⟩
            refine XT.q rfl rfl (Q.build [_, _, _, _, _] (.c 0 1 rfl rfl rfl (.c 1 1 rfl rfl rfl (.c 2 1 rfl rfl rfl (.c 4 1 rfl rfl rfl (.n _)))))) ?_
            refine XT.alloc rfl rfl (fun b7 => ⟨inferInstance, ?_⟩) XT.stop
            refine XT.st rfl rfl rfl rfl rfl ⟨inferInstance, ?_⟩ XT.stop
            refine XT.done ?_
            exact mtr8 ((b7, v38, h38)) _ _ O38 (.c rfl (.base 12 rfl rfl)) inferInstance
          · skip
            refine XT.alloc rfl rfl (fun b7 => ⟨inferInstance, ?_⟩) XT.stop
            refine XT.call rfl rfl Try.call45 rfl rfl rfl (copyTruths _ _ _ (by omega)) (fun v38 s38 R38 => ?_) XT.stop
            obtain ⟨h38, rfl, O38⟩ := R38
            dsimp only [List.cons_append, List.nil_append]
            refine ⟨inferInstance, ?_⟩
            refine XT.q rfl rfl (Q.build [_, _, _, _, _] (.c 0 1 rfl rfl rfl (.c 1 1 rfl rfl rfl (.c 2 1 rfl rfl rfl (.c 4 1 rfl rfl rfl (.n _)))))) ?_
            refine XT.st rfl rfl rfl rfl rfl ⟨inferInstance, ?_⟩ XT.stop
            refine XT.done ?_
            exact mtr8 ((b7, v38, h38)) _ _ O38 (.c rfl (.base 12 rfl rfl)) inferInstance
end Go.X

set_option linter.unusedSimpArgs false
set_option linter.unusedVariables false
namespace Go.X
open Go.Proofs
structure GV where
  g : G
  vn : Value
  vg : Value
instance : Inhabited G := ⟨zeroG⟩
instance : Inhabited GV := ⟨⟨zeroG, undef, undef⟩⟩
def encGV (x : GV) : List Value := [.int .i64 x.g.S, .int .i64 x.g.C, .int .i64 x.g.K, x.vn, x.vg]
theorem product_bad {a b : G} {va vb wa wb : Value} {i : Nat} (hi : i < 2) (h0 : 0 < i → gcheck a = 0) (h : ¬ gcheck (([⟨a, va, vb⟩, ⟨b, wa, wb⟩] : List GV).getD i default).g = 0) :
    product a b = (zeroG, gcheck (([⟨a, va, vb⟩, ⟨b, wa, wb⟩] : List GV).getD i default).g) := by
  match i, hi with
  | 0, _ => change ¬ gcheck a = 0 at h; rw [product, if_pos h]; rfl
  | 1, _ => change ¬ gcheck b = 0 at h; rw [product, if_neg (by simpa using h0 (by omega)), if_pos h]; rfl

theorem product1 (Sa Ca Ka : Nat) (an : List Int) (ag : List Bool) (oka : Ok Sa Ca Ka an ag) (Sb Cb Kb : Nat) (bn : List Int) (bg : List Bool) (okb : Ok Sb Cb Kb bn bg) (vn vg wn wg : Value) (hn kn : PHeap) [sn : Arr vn encI 1 hn an] [tn : Arr wn encI 1 kn bn] (b2 b3 s u w : Nat) (hs : s < Sa * Sb) (hu : u < Ca * Cb) (hw : w < Ka * Kb) :
    Spec Try.prog 39 #[.int .i64 (s : Nat), .int .i64 (u : Nat), .int .i64 (w : Nat), ptr b2 0, ptr b3 0] [] [blk b2 [.int .i64 (Sa : Nat), .int .i64 (Ca : Nat), .int .i64 (Ka : Nat), vn, vg] 25, blk b3 [.int .i64 (Sb : Nat), .int .i64 (Cb : Nat), .int .i64 (Kb : Nat), wn, wg] 25, hn, kn]
    (fun v hs => v = .int .i64 (pcell an bn Ca Ka Sb Cb Kb s u w) ∧ hs = []) := by
  obtain ⟨hs1, hs2⟩ := div_lt' hs
  obtain ⟨hu1, hu2⟩ := div_lt' hu
  obtain ⟨hw1, hw2⟩ := div_lt' hw
  have hsb := okb.s1
  have hz1 : (0 : Int) ≤ (w : Int) / (Kb : Int) := Int.ediv_nonneg (by omega) (by omega)
  have hz2 : (0 : Int) ≤ (w : Int) % (Kb : Int) := Int.emod_nonneg _ (by have := okb.k1; omega)
  have hcb := okb.c1
  have hkb := okb.k1
  have hsa2 := oka.s2
  have hsb2 := okb.s2
  have hs3 : Sa * Sb ≤ 400 * 400 := Nat.mul_le_mul oka.s2 okb.s2
  have hu3 : Ca * Cb ≤ 16 * 16 := Nat.mul_le_mul oka.c2 okb.c2
  have hw3 : Ka * Kb ≤ 16 * 16 := Nat.mul_le_mul oka.k2 okb.k2
  have hla := lead_le (K := Ka) hs1 hu1
  have hlb := lead_le (K := Kb) hs2 hu2
  have hlna := leads_length (next := an) (C := Ca) (K := Ka) (s := s / Sb) (v := u / Cb) (by have := oka.len; omega)
  have hlnb := leads_length (next := bn) (C := Cb) (K := Kb) (s := s % Sb) (v := u % Cb) (by have := okb.len; omega)
  have hxa := oka.get ((s / Sb * Ca + u / Cb) * Ka + w / Kb)
  have hxb := okb.get ((s % Sb * Cb + u % Cb) * Kb + w % Kb)
  have hea : (leads an Ca Ka (s / Sb) (u / Cb)).getD (w / Kb) default = pxa an Ca Ka Sb Cb Kb s u w := leads_getD hw1
  have heb : (leads bn Cb Kb (s % Sb) (u % Cb)).getD (w % Kb) default = pxb bn Sb Cb Kb s u w := leads_getD hw2
  change -1 ≤ pxa an Ca Ka Sb Cb Kb s u w ∧ pxa an Ca Ka Sb Cb Kb s u w < Sa at hxa
  change -1 ≤ pxb bn Sb Cb Kb s u w ∧ pxb bn Sb Cb Kb s u w < Sb at hxb
  have hmul : 0 ≤ pxa an Ca Ka Sb Cb Kb s u w → 0 ≤ pxa an Ca Ka Sb Cb Kb s u w * Sb ∧ pxa an Ca Ka Sb Cb Kb s u w * Sb ≤ 400 * 400 := fun h => ⟨Int.mul_nonneg h (by omega), Int.mul_le_mul (by omega) (by omega) (by omega) (by omega)⟩
  refine Spec.intro (fn := Try.f39) (N := 55) Try.func39 rfl Try.ntmps39 rfl fun B => ?_
  refine XK.seq ?_
  refine XK.region rfl ?_
  refine XO.q (Q.assign rfl) ?_
  refine XO.done ?_
  refine XK.seq ?_
  refine XK.drawn [0, 1, 2, 3, 4, 5, 6, 7, 8, 10, 11, 12, 13, 14, 15, 16] [] [] (.q 0 (.q 1 (.q 2 (.q 3 (.q 4 (.q 5 (.q 6 (.q 7 (.q 8 (.q 10 (.q 11 (.q 12 (.q 13 (.br 9 true (.q 14 (.q 15 (.q 16 .done))) .stop)))))))))))))) Try.mixed rfl (by kernel_rfl) ?_
  refine XT.q rfl rfl (Q.ldA [_, _, _, _, _] rfl rfl rfl) ?_
  refine XT.q rfl rfl (Q.move rfl) ?_
  refine XT.q rfl rfl (Q.fieldAddr rfl) ?_
  refine XT.q rfl rfl (Q.ld rfl rfl) ?_
  refine XT.q rfl rfl (Q.quo rfl rfl (by omega) (by omega) (by omega)) ?_
  rw [show (((s : Nat) : Int) / ((Sb : Nat) : Int)) = ((s / Sb : Nat) : Int) from rfl]
  refine XT.q rfl rfl (Q.move rfl) ?_
  refine XT.q rfl rfl (Q.fieldAddr rfl) ?_
  refine XT.q rfl rfl (Q.ld rfl rfl) ?_
  refine XT.q rfl rfl (Q.quo rfl rfl (by omega) (by omega) (by omega)) ?_
  rw [show (((u : Nat) : Int) / ((Cb : Nat) : Int)) = ((u / Cb : Nat) : Int) from rfl]
  refine XT.q rfl rfl (Q.move rfl) ?_
  refine XT.q rfl rfl (Q.fieldAddr rfl) ?_
  refine XT.q rfl rfl (Q.ld rfl rfl) ?_
  refine XT.q rfl rfl (Q.quo rfl rfl (by omega) (by omega) (by omega)) ?_
  rw [show (((w : Nat) : Int) / ((Kb : Nat) : Int)) = ((w / Kb : Nat) : Int) from rfl]
  refine XT.call rfl rfl Try.call40 rfl rfl rfl (leads_spec Sa Ca Ka an ag oka vn vg hn (s / Sb) (u / Cb) hs1 hu1) (fun v20 s20 R20 => ?_) XT.stop
  obtain ⟨rfl, A20⟩ := R20
  dsimp only [List.cons_append, List.nil_append]
  refine ⟨inferInstance, ?_⟩
  refine XT.ix rfl rfl rfl rfl (by omega) (by omega) fun i25 => ?_
  refine XT.q rfl rfl (Q.ldE rfl (by first | assumption | omega) rfl) ?_
  rw [hea]
  refine XT.q rfl rfl (Q.assign rfl) ?_
  refine XT.done ?_
  refine XK.seq ?_
  refine XK.drawn [0, 1, 2, 3, 4, 5, 6, 7, 8, 10, 11, 12, 13, 14, 15, 16] [] [] (.q 0 (.q 1 (.q 2 (.q 3 (.q 4 (.q 5 (.q 6 (.q 7 (.q 8 (.q 10 (.q 11 (.q 12 (.q 13 (.br 9 true (.q 14 (.q 15 (.q 16 .done))) .stop)))))))))))))) Try.mixed rfl (by kernel_rfl) ?_
  refine XT.q rfl rfl (Q.ldA [_, _, _, _, _] rfl rfl rfl) ?_
  refine XT.q rfl rfl (Q.move rfl) ?_
  refine XT.q rfl rfl (Q.fieldAddr rfl) ?_
  refine XT.q rfl rfl (Q.ld rfl rfl) ?_
  refine XT.q rfl rfl (Q.rem rfl rfl (by omega) (by omega)) ?_
  rw [show (((s : Nat) : Int) % ((Sb : Nat) : Int)) = ((s % Sb : Nat) : Int) from rfl]
  refine XT.q rfl rfl (Q.move rfl) ?_
  refine XT.q rfl rfl (Q.fieldAddr rfl) ?_
  refine XT.q rfl rfl (Q.ld rfl rfl) ?_
  refine XT.q rfl rfl (Q.rem rfl rfl (by omega) (by omega)) ?_
  rw [show (((u : Nat) : Int) % ((Cb : Nat) : Int)) = ((u % Cb : Nat) : Int) from rfl]
  refine XT.q rfl rfl (Q.move rfl) ?_
  refine XT.q rfl rfl (Q.fieldAddr rfl) ?_
  refine XT.q rfl rfl (Q.ld rfl rfl) ?_
  refine XT.q rfl rfl (Q.rem rfl rfl (by omega) (by omega)) ?_
  rw [show (((w : Nat) : Int) % ((Kb : Nat) : Int)) = ((w % Kb : Nat) : Int) from rfl]
  refine XT.call rfl rfl Try.call40 rfl rfl rfl (leads_spec Sb Cb Kb bn bg okb wn wg kn (s % Sb) (u % Cb) hs2 hu2) (fun v36 s36 R36 => ?_) XT.stop
  obtain ⟨rfl, A36⟩ := R36
  dsimp only [List.cons_append, List.nil_append]
  refine ⟨inferInstance, ?_⟩
  refine XT.ix rfl rfl rfl rfl (by omega) (by omega) fun i41 => ?_
  refine XT.q rfl rfl (Q.ldE rfl (by first | assumption | omega) rfl) ?_
  rw [heb]
  refine XT.q rfl rfl (Q.assign rfl) ?_
  refine XT.done ?_
  refine XK.seq ?_
  refine XK.seq ?_
  refine XK.region rfl ?_
  refine XO.q (Q.move rfl) ?_
  refine XO.q (Q.lss rfl rfl) ?_
  refine XO.q (Q.move rfl) ?_
  refine XO.q (Quiet.guardF rfl rfl fun g46 p46 => Q.move rfl) ?_
  refine XO.q (Quiet.guardF rfl rfl fun g47 p47 => Q.lss (lzv g47 rfl) rfl) ?_
  refine XO.q (Q.or rfl (fun hp => lzv hp rfl)) ?_
  refine XO.done ?_
  refine XK.if rfl (fun c0 => ?_) (fun c0 => ?_)
  · have _t0 := True.intro
    refine XK.seq ?_
    refine XK.region rfl ?_
    refine XO.q (Q.assign rfl) ?_
    refine XO.done ?_
    refine XK.rt [] Try.func39 Try.results39 (.t rfl .n) ?_
    exact ⟨by rw [pcell, if_pos c0], rfl⟩
  · have _t0 := True.intro
    refine XK.skip ?_
    refine XK.seq ?_
    refine XK.region rfl ?_
    refine XO.q (Q.move rfl) ?_
    refine XO.q (Q.fieldAddr rfl) ?_
    refine XO.q (Q.ld rfl rfl) ?_
    refine XO.q (Q.mul rfl rfl ⟨by omega, by omega⟩) ?_
    refine XO.q (Q.move rfl) ?_
    refine XO.q (Q.add rfl rfl ⟨by omega, by omega⟩) ?_
    refine XO.q (Q.assign rfl) ?_
    refine XO.done ?_
    refine XK.rt [] Try.func39 Try.results39 (.t rfl .n) ?_
    exact ⟨by rw [pcell, if_neg c0], rfl⟩
theorem Spec.more {P : Program} {f : FuncId} {args : Array Value} {Hm Hr Hr' : List PHeap} {R : Value → List PHeap → Prop} (h : Spec P f args Hm Hr R) (hh : ∀ x ∈ Hr, x ∈ Hr') : Spec P f args Hm Hr' R :=
  fun o r w hs hr => h o r w hs (fun x hx => hr x (hh x hx))
theorem checkTwo (a b : G) (vn vg wn wg : Value) (hn hg kn kg : PHeap) [sn : Arr vn encI 1 hn a.next] [sg : Arr vg encB 1 hg a.good] [tn : Arr wn encI 1 kn b.next] [tg : Arr wg encB 1 kg b.good] (i : Nat) (hi : i < 2) : Spec Try.prog 38 #[.agg #[.int .i64 (([⟨a, vn, vg⟩, ⟨b, wn, wg⟩] : List GV).getD i default).g.S, .int .i64 (([⟨a, vn, vg⟩, ⟨b, wn, wg⟩] : List GV).getD i default).g.C, .int .i64 (([⟨a, vn, vg⟩, ⟨b, wn, wg⟩] : List GV).getD i default).g.K, (([⟨a, vn, vg⟩, ⟨b, wn, wg⟩] : List GV).getD i default).vn, (([⟨a, vn, vg⟩, ⟨b, wn, wg⟩] : List GV).getD i default).vg]] [] [hn, hg, kn, kg]
    (fun v hs => v = .int .i64 (gcheck (([⟨a, vn, vg⟩, ⟨b, wn, wg⟩] : List GV).getD i default).g) ∧ hs = []) := by
  match i, hi with
  | 0, _ => exact (check a vn vg hn hg).more (fun x hx => by simp at hx; rcases hx with rfl | rfl <;> simp)
  | 1, _ => exact (check b wn wg kn kg).more (fun x hx => by simp at hx; rcases hx with rfl | rfl <;> simp)
theorem product_spec (a b : G) (vn vg wn wg : Value) (hn hg kn kg : PHeap) [sn : Arr vn encI 1 hn a.next] [sg : Arr vg encB 1 hg a.good] [tn : Arr wn encI 1 kn b.next] [tg : Arr wg encB 1 kg b.good] : Spec Try.prog 13 #[.agg #[.int .i64 a.S, .int .i64 a.C, .int .i64 a.K, vn, vg], .agg #[.int .i64 b.S, .int .i64 b.C, .int .i64 b.K, wn, wg]] [] [hn, hg, kn, kg] (fun v hs => ∃ v1 v2 k1 k2, v = .tuple #[.agg #[.int .i64 (product a b).1.S, .int .i64 (product a b).1.C, .int .i64 (product a b).1.K, v1, v2], .int .i64 (product a b).2] ∧ hs = [k1, k2] ∧
      OArr v1 encI 1 3 k1 (product a b).1.next ∧ OArr v2 encB 1 4 k2 (product a b).1.good) := by
  refine Spec.intro (fn := Try.f13) (N := 112) Try.func13 rfl Try.ntmps13 rfl fun B => ?_
  have hnil : OArr (.slice none 0 0) encI 1 3 emp ([] : List Int) := OArr.nil (fun _ => rfl)
  have hnilB : OArr (.slice none 0 0) encB 1 4 emp ([] : List Bool) := OArr.nil (fun _ => rfl)
  refine XK.seq ?_
  refine XK.region rfl ?_
  refine XO.box rfl fun b2 => ?_
  refine XO.box rfl fun b3 => ?_
  refine XO.alloc fun b4 => ?_
  refine XO.q (Q.assign rfl) ?_
  refine XO.done ?_
  refine XK.seq ?_
  refine XK.seq ?_
  refine XK.region rfl ?_
  refine XO.q (Q.ldA [_, _, _, _, _] rfl rfl rfl) ?_
  refine XO.q (Q.ldA [_, _, _, _, _] rfl rfl rfl) ?_
  refine XO.lit [_, _, _, _, _, _, _, _, _, _] [_, _, _, _, _, _, _, _, _, _] [⟨a, vn, vg⟩, ⟨b, wn, wg⟩] encGV (by rfl) (by rfl) rfl (by rfl) (by exact .c 0 5 rfl rfl rfl (.c 5 5 rfl rfl rfl (.n _))) (fun _ => rfl) (by rfl) rfl (by infer_instance) rfl fun v16 h16 O16 => ?_
  refine XO.len rfl fun l17 => ?_
  refine XO.q (Q.move rfl) ?_
  refine XO.done ?_
  refine XK.block ?_
  refine XK.while (X := Nat) [5, 7, 8, 18, 19, 20, 21, 22, 23, 24, 25, 26, 27, 28] (fun i => [(18, some (.int .i64 (i : Nat)))]) (fun i => []) (fun i => i ≤ 2 ∧ (0 < i → gcheck a = 0) ∧ (1 < i → gcheck b = 0)) (fun i => 2 - i) (0) [] rfl ⟨by omega, by omega, by omega⟩ (.c rfl (.base 0 rfl rfl)) ?_
  rintro i ⟨hi, h0, h1⟩ ih0
  dsimp only [List.cons_append, List.nil_append] at ih0 ⊢
  refine XK.seq ?_
  refine XK.region rfl ?_
  refine XO.q (Q.lss rfl rfl) ?_
  refine XO.done ?_
  refine XK.seq ?_
  refine XK.if rfl (fun c0 => ?_) (fun c0 => ?_)
  · have _t0 := True.intro
    have hl2 : ([⟨a, vn, vg⟩, ⟨b, wn, wg⟩] : List GV).length = 2 := rfl
    have hi2 : i < 2 := by omega
    refine XK.skip ?_
    refine XK.seq ?_
    refine XK.block ?_
    refine XK.seq ?_
    refine XK.region rfl ?_
    refine XO.ix rfl rfl (by omega) (by omega) fun i20 => ?_
    refine XO.q (Q.ldEA [_, _, _, _, _] rfl (by first | assumption | omega) rfl rfl) ?_
    refine XO.alloc fun b7 => ?_
    have I1 : One (([⟨a, vn, vg⟩, ⟨b, wn, wg⟩] : List GV).getD i default).vn := by
      match i, hi2 with
      | 0, _ => exact (inferInstance : One vn)
      | 1, _ => exact (inferInstance : One wn)
    have I2 : One (([⟨a, vn, vg⟩, ⟨b, wn, wg⟩] : List GV).getD i default).vg := by
      match i, hi2 with
      | 0, _ => exact (inferInstance : One vg)
      | 1, _ => exact (inferInstance : One wg)
    refine XO.st rfl rfl rfl ?_
    refine XO.done ?_
    refine XK.seq ?_
    refine XK.region rfl ?_
    refine XO.q (Q.ldA [_, _, _, _, _] rfl rfl rfl) ?_
    refine XO.call Try.call38 rfl rfl rfl (checkTwo a b vn vg wn wg hn hg kn kg i (by omega)) fun v23 s23 R23 => ?_
    obtain ⟨rfl, rfl⟩ := R23
    dsimp only [List.cons_append, List.nil_append]
    refine XO.q (Q.assign rfl) ?_
    refine XO.done ?_
    refine XK.seq ?_
    refine XK.region rfl ?_
    refine XO.q (Q.move rfl) ?_
    refine XO.q (Q.neq rfl rfl) ?_
    refine XO.done ?_
    refine XK.if rfl (fun c1 => ?_) (fun c1 => ?_)
    · have _t1 := True.intro
      refine XK.seq ?_
      refine XK.region rfl ?_
      refine XO.q (Q.build [_, _, _, _, _] (.n _)) ?_
      refine XO.q (Q.move rfl) ?_
      refine XO.st rfl rfl rfl ?_
      refine XO.q (Q.assign rfl) ?_
      refine XO.done ?_
      refine XK.rt [emp, emp] Try.func13 Try.results13 (.cell [_, _, _, _, _] rfl rfl rfl (.t rfl .n)) ?_
      have hw := product_bad (va := vn) (vb := vg) (wa := wn) (wb := wg) (i := i) (by omega) h0 c1
      rw [hw]
      exact ⟨.slice none 0 0, .slice none 0 0, emp, emp, rfl, rfl, OArr.nil (fun _ => rfl), OArr.nil (fun _ => rfl)⟩
    · have _t1 := True.intro
      refine XK.skip ?_
      refine XK.inBlock ?_
      refine XK.region rfl ?_
      refine XO.q (Q.add rfl rfl ⟨by omega, by omega⟩) ?_
      refine XO.q (Q.move rfl) ?_
      refine XO.done ?_
      have c1' := Decidable.of_not_not c1
      exact ih0 (i + 1) _ _ (by match i, (by omega : i < 2) with
          | 0, _ => exact ⟨by omega, fun _ => c1', by omega⟩
          | 1, _ => exact ⟨by omega, fun _ => h0 (by omega), fun _ => c1'⟩) (by first | omega | (dsimp only; omega)) (.c rfl (.base 26 rfl rfl)) inferInstance
  · have _t0 := True.intro
    have hl2 : ([⟨a, vn, vg⟩, ⟨b, wn, wg⟩] : List GV).length = 2 := rfl
    have ea := h0 (by omega)
    have eb := h1 (by omega)
    obtain ⟨Sa, Ca, Ka, hSa, hCa, hKa, oka⟩ := gcheck_ok ea
    obtain ⟨gSa, gCa, gKa, an, ag⟩ := a
    dsimp only at *
    subst hSa hCa hKa
    obtain ⟨Sb, Cb, Kb, hSb, hCb, hKb, okb⟩ := gcheck_ok eb
    obtain ⟨gSb, gCb, gKb, bn, bg⟩ := b
    dsimp only at *
    subst hSb hCb hKb
    have hs3 : Sa * Sb ≤ 400 * 400 := Nat.mul_le_mul oka.s2 okb.s2
    have hu3 : Ca * Cb ≤ 16 * 16 := Nat.mul_le_mul oka.c2 okb.c2
    have hw3 : Ka * Kb ≤ 16 * 16 := Nat.mul_le_mul oka.k2 okb.k2
    obtain ⟨S, hS⟩ : ∃ S, S = Sa * Sb := ⟨_, rfl⟩
    obtain ⟨C, hC⟩ : ∃ C, C = Ca * Cb := ⟨_, rfl⟩
    obtain ⟨K, hK⟩ : ∃ K, K = Ka * Kb := ⟨_, rfl⟩
    have hSi : (Sa : Int) * (Sb : Int) = (S : Int) := by rw [hS]; simp
    have hCi : (Ca : Int) * (Cb : Int) = (C : Int) := by rw [hC]; simp
    have hKi : (Ka : Int) * (Kb : Int) = (K : Int) := by rw [hK]; simp
    have hsb := okb.s1
    have oklb := okb.len
    have okla := oka.len
    have okga := oka.glen
    have okgb := okb.glen
    refine XK.exit rfl ?_
    refine XK.seq ?_
    refine XK.region rfl ?_
    refine XO.q (Q.fieldAddr rfl) ?_
    refine XO.q (Q.ld rfl rfl) ?_
    refine XO.q (Q.fieldAddr rfl) ?_
    refine XO.q (Q.ld rfl rfl) ?_
    refine XO.q (Q.mul rfl rfl ⟨by omega, by omega⟩) ?_
    refine XO.q (Q.fieldAddr rfl) ?_
    refine XO.q (Q.ld rfl rfl) ?_
    refine XO.q (Q.fieldAddr rfl) ?_
    refine XO.q (Q.ld rfl rfl) ?_
    refine XO.q (Q.mul rfl rfl ⟨by omega, by omega⟩) ?_
    refine XO.q (Q.fieldAddr rfl) ?_
    refine XO.q (Q.ld rfl rfl) ?_
    refine XO.q (Q.fieldAddr rfl) ?_
    refine XO.q (Q.ld rfl rfl) ?_
    refine XO.q (Q.mul rfl rfl ⟨by omega, by omega⟩) ?_
    refine XO.q (Q.build [_, _, _, _, _] (.c 0 1 rfl rfl rfl (.c 1 1 rfl rfl rfl (.c 2 1 rfl rfl rfl (.n _))))) ?_
    refine XO.alloc fun b9 => ?_
    refine XO.st rfl rfl rfl ?_
    rw [hSi, hCi, hKi]
    refine XO.done ?_
    refine XK.seq ?_
    refine XK.seq ?_
    refine XK.region rfl ?_
    refine XO.q (Q.fieldAddr rfl) ?_
    refine XO.q (Q.ld rfl rfl) ?_
    refine XO.q (Q.gtr rfl rfl) ?_
    refine XO.q (Q.move rfl) ?_
    refine XO.q (Quiet.guardF rfl rfl fun g49 p49 => Q.fieldAddr rfl) ?_
    refine XO.q (Quiet.guardF rfl rfl fun g50 p50 => Q.ld (lzv g50 rfl) rfl) ?_
    refine XO.q (Quiet.guardF rfl rfl fun g51 p51 => Q.gtr (lzv g51 rfl) rfl) ?_
    refine XO.q (Q.or rfl (fun hp => lzv hp rfl)) ?_
    refine XO.q (Q.move rfl) ?_
    refine XO.q (Quiet.guardF rfl rfl fun g54 p54 => Q.fieldAddr rfl) ?_
    refine XO.q (Quiet.guardF rfl rfl fun g55 p55 => Q.ld (lzv g55 rfl) rfl) ?_
    refine XO.q (Quiet.guardF rfl rfl fun g56 p56 => Q.gtr (lzv g56 rfl) rfl) ?_
    refine XO.q (Q.or rfl (fun hp => lzv hp rfl)) ?_
    refine XO.done ?_
    refine XK.if rfl (fun c2 => ?_) (fun c2 => ?_)
    · have _t2 := True.intro
      refine XK.seq ?_
      refine XK.region rfl ?_
      refine XO.q (Q.build [_, _, _, _, _] (.n _)) ?_
      refine XO.st rfl rfl rfl ?_
      refine XO.q (Q.assign rfl) ?_
      refine XO.done ?_
      refine XK.rt [emp, emp] Try.func13 Try.results13 (.cell [_, _, _, _, _] rfl rfl rfl (.t rfl .n)) ?_
      have hw := (show product ⟨Sa, Ca, Ka, an, ag⟩ ⟨Sb, Cb, Kb, bn, bg⟩ = (zeroG, 2) by rw [product, if_neg (by simpa using ea), if_neg (by simpa using eb), if_pos (by dsimp only; omega)])
      rw [hw]
      exact ⟨.slice none 0 0, .slice none 0 0, emp, emp, rfl, rfl, OArr.nil (fun _ => rfl), OArr.nil (fun _ => rfl)⟩
    · have _t2 := True.intro
      have hS4 : S * C ≤ 400 * 16 := Nat.mul_le_mul (by omega) (by omega)
      have hS5 : S * C * K ≤ 6400 * 16 := Nat.mul_le_mul (by omega) (by omega)
      refine XK.skip ?_
      refine XK.seq ?_
      refine XK.region rfl ?_
      refine XO.q (Q.func (fun _ he => rfl) (fun _ he => evs_rel he rfl)) ?_
      refine XO.q (Q.assign rfl) ?_
      refine XO.done ?_
      refine XK.seq ?_
      refine XK.seq ?_
      refine XK.region rfl ?_
      refine XO.q (Q.fieldAddr rfl) ?_
      refine XO.q (Q.ld rfl rfl) ?_
      refine XO.q (Q.move rfl) ?_
      refine XO.done ?_
      refine XK.block ?_
      refine XK.while (X := Nat × Value × PHeap × Value × PHeap) [11, 12, 13, 62, 63, 64, 65, 66, 67, 68, 69, 70, 71, 72, 73, 74, 75, 76, 77, 78, 79, 80, 81, 82, 83, 84, 85, 86, 87, 88, 89, 90, 91, 92, 93, 94, 95, 96, 97, 98, 99, 100, 101, 102, 103, 104, 105, 106, 107, 108, 109, 110] (fun ⟨s, vN, hN, vG, hG⟩ => [(62, some (.int .i64 (s : Nat)))]) (fun ⟨s, vN, hN, vG, hG⟩ => [blk b9 [.int .i64 (S : Nat), .int .i64 (C : Nat), .int .i64 (K : Nat), vN, vG] 25, hN, hG]) (fun ⟨s, vN, hN, vG, hG⟩ => s ≤ S ∧ OArr vN encI 1 3 hN ((List.range (s * C * K)).map (pnext an bn Ca Ka Sb Cb Kb C K)) ∧ OArr vG encB 1 4 hG ((List.range s).map (pgood ag bg Sb))) (fun ⟨s, vN, hN, vG, hG⟩ => S - s) (0, .slice none 0 0, emp, .slice none 0 0, emp) [blk b9 [.int .i64 (S : Nat), .int .i64 (C : Nat), .int .i64 (K : Nat), .slice none 0 0, .slice none 0 0] 25, emp, emp] rfl ⟨by omega, by simpa using hnil, by simpa using hnilB⟩ (.c rfl (.base 0 rfl rfl)) ?_
      rintro ⟨s, vN, hN, vG, hG⟩ ⟨hs, ON, OG⟩ ih1
      dsimp only [List.cons_append, List.nil_append] at ih1 ⊢
      refine XK.seq ?_
      refine XK.region rfl ?_
      refine XO.q (Q.lss rfl rfl) ?_
      refine XO.done ?_
      refine XK.seq ?_
      refine XK.if rfl (fun c3 => ?_) (fun c3 => ?_)
      · have _t3 := True.intro
        obtain ⟨hs1, hs2⟩ := div_lt' (s := s) (Sa := Sa) (Sb := Sb) (by omega)
        have hz1 : (0 : Int) ≤ (s : Int) / (Sb : Int) := Int.ediv_nonneg (by omega) (by omega)
        have hz2 : (0 : Int) ≤ (s : Int) % (Sb : Int) := Int.emod_nonneg _ (by omega)
        refine XK.skip ?_
        refine XK.seq ?_
        refine XK.block ?_
        refine XK.seq ?_
        refine XK.region rfl ?_
        refine XO.q (Q.move rfl) ?_
        refine XO.q (Q.assign rfl) ?_
        refine XO.done ?_
        refine XK.seq ?_
        refine XK.drawn [0, 1, 2, 3, 4, 5, 6, 7, 8, 9, 10, 11, 12, 13, 14, 15, 16, 17, 18, 19, 22] [b9, b2, b3] [] (.q 0 (.q 1 (.q 2 (.q 3 (.q 4 (.q 5 (.q 6 (.q 7 (.q 8 (.q 9 (.q 10 (.q 11 (.q 12 (.q 13 (.q 14 (.q 15 (.q 16 (.q 17 (.q 18 (.q 19 (.br 20 true (.br 21 true (.q 22 (.br 23 false .done .stop)) .stop) .stop))))))))))))))))))))) Try.mixed rfl (by kernel_rfl) ?_
        refine XT.q rfl rfl (Q.fieldAddr rfl) ?_
        refine XT.q rfl rfl (Q.ld rfl rfl) ?_
        refine XT.q rfl rfl (Q.fieldAddr rfl) ?_
        refine XT.q rfl rfl (Q.ld rfl rfl) ?_
        refine XT.q rfl rfl (Q.move rfl) ?_
        refine XT.q rfl rfl (Q.fieldAddr rfl) ?_
        refine XT.q rfl rfl (Q.ld rfl rfl) ?_
        refine XT.q rfl rfl (Q.quo rfl rfl (by omega) (by omega) (by omega)) ?_
        rw [show (((s : Nat) : Int) / ((Sb : Nat) : Int)) = ((s / Sb : Nat) : Int) from rfl]
        refine XT.ix rfl rfl rfl rfl (by omega) (by omega) fun i73 => ?_
        refine XT.q rfl rfl (Q.ldE rfl (by first | assumption | omega) rfl) ?_
        refine XT.q rfl rfl (Q.move rfl) ?_
        refine XT.q rfl rfl (Quiet.guardT rfl rfl fun g76 p76 => Q.fieldAddr rfl) ?_
        refine XT.q rfl rfl (Quiet.guardT rfl rfl fun g77 p77 => Q.ld (lzv g77 rfl) rfl) ?_
        refine XT.q rfl rfl (Quiet.guardT rfl rfl fun g78 p78 => Q.move rfl) ?_
        refine XT.q rfl rfl (Quiet.guardT rfl rfl fun g79 p79 => Q.fieldAddr rfl) ?_
        refine XT.q rfl rfl (Quiet.guardT rfl rfl fun g80 p80 => Q.ld (lzv g80 rfl) rfl) ?_
        refine XT.q rfl rfl (Quiet.guardT rfl rfl fun g81 p81 => Q.rem (lzv g81 rfl) (lzv g81 rfl) (by omega) (by omega)) ?_
        rw [show (((s : Nat) : Int) % ((Sb : Nat) : Int)) = ((s % Sb : Nat) : Int) from rfl]
        refine XT.q rfl rfl (Quiet.guardT rfl rfl fun g82 p82 => Q.ix (lzv g82 rfl) (lzv g82 rfl) (by omega) (by omega)) ?_
        refine XT.q rfl rfl (Quiet.guardT rfl rfl fun g83 p83 => Q.ldE (lzv g83 rfl) (by first | assumption | omega) rfl) ?_
        refine XT.q rfl rfl (Q.and rfl (fun hp => lzv hp rfl)) ?_
        refine XT.lit [_] [_] [_] encB rfl rfl (by rfl) (by rfl) rfl (by rfl) (by exact .c 0 1 rfl rfl rfl (.n _)) (fun _ => rfl) (by rfl) rfl (by infer_instance) rfl (fun v85 h85 O85 => ⟨inferInstance, ?_⟩) XT.stop
        refine XT.append rfl rfl rfl rfl rfl rfl (by simp only [List.length_map, List.length_range, List.length_cons, List.length_nil]; omega) (fun v86 h86 O86 => ⟨inferInstance, ?_⟩) XT.stop
        have O86' : OArr v86 encB 1 4 h86 ((List.range (s + 1)).map (pgood ag bg Sb)) := by
          rw [range_map_succ]; exact O86
        refine XT.q rfl rfl (Q.fieldAddr rfl) ?_
        refine XT.st rfl rfl rfl rfl rfl ⟨inferInstance, ?_⟩ XT.stop
        refine XT.done ?_
        refine XK.seq ?_
        refine XK.region rfl ?_
        refine XO.q (Q.fieldAddr rfl) ?_
        refine XO.q (Q.ld rfl rfl) ?_
        refine XO.q (Q.move rfl) ?_
        refine XO.done ?_
        refine XK.block ?_
        refine XK.while (X := Nat × Value × PHeap) [12, 13, 90, 91, 92, 93, 94, 95, 96, 97, 98, 99, 100, 101, 102, 103, 104, 105, 106, 107, 108, 109] (fun ⟨u, vM, hM⟩ => [(90, some (.int .i64 (u : Nat)))]) (fun ⟨u, vM, hM⟩ => [blk b9 [.int .i64 (S : Nat), .int .i64 (C : Nat), .int .i64 (K : Nat), vM, v86] 25, hM]) (fun ⟨u, vM, hM⟩ => u ≤ C ∧ OArr vM encI 1 3 hM ((List.range ((s * C + u) * K)).map (pnext an bn Ca Ka Sb Cb Kb C K))) (fun ⟨u, vM, hM⟩ => C - u) (0, vN, hN) [blk b9 [.int .i64 (S : Nat), .int .i64 (C : Nat), .int .i64 (K : Nat), vN, v86] 25, hN] rfl ⟨by omega, by simpa using ON⟩ (.c rfl (.base 0 rfl rfl)) ?_
        rintro ⟨u, vM, hM⟩ ⟨hu, OM⟩ ih2
        dsimp only [List.cons_append, List.nil_append] at ih2 ⊢
        refine XK.seq ?_
        refine XK.region rfl ?_
        refine XO.q (Q.lss rfl rfl) ?_
        refine XO.done ?_
        refine XK.seq ?_
        refine XK.if rfl (fun c4 => ?_) (fun c4 => ?_)
        · have _t4 := True.intro
          have hlk := lead_le (K := K) (C := C) (S := S) (s := s) (u := u) (by omega) (by omega)
          refine XK.skip ?_
          refine XK.seq ?_
          refine XK.block ?_
          refine XK.seq ?_
          refine XK.region rfl ?_
          refine XO.q (Q.move rfl) ?_
          refine XO.q (Q.assign rfl) ?_
          refine XO.done ?_
          refine XK.seq ?_
          refine XK.region rfl ?_
          refine XO.q (Q.fieldAddr rfl) ?_
          refine XO.q (Q.ld rfl rfl) ?_
          refine XO.q (Q.move rfl) ?_
          refine XO.done ?_
          refine XK.block ?_
          refine XK.while (X := Nat × Value × PHeap) [13, 95, 96, 97, 98, 99, 100, 101, 102, 103, 104, 105, 106, 107, 108] (fun ⟨w, vL, hL⟩ => [(95, some (.int .i64 (w : Nat)))]) (fun ⟨w, vL, hL⟩ => [blk b9 [.int .i64 (S : Nat), .int .i64 (C : Nat), .int .i64 (K : Nat), vL, v86] 25, hL]) (fun ⟨w, vL, hL⟩ => w ≤ K ∧ OArr vL encI 1 3 hL ((List.range ((s * C + u) * K + w)).map (pnext an bn Ca Ka Sb Cb Kb C K))) (fun ⟨w, vL, hL⟩ => K - w) (0, vM, hM) [blk b9 [.int .i64 (S : Nat), .int .i64 (C : Nat), .int .i64 (K : Nat), vM, v86] 25, hM] rfl ⟨by omega, by simpa using OM⟩ (.c rfl (.base 0 rfl rfl)) ?_
          rintro ⟨w, vL, hL⟩ ⟨hw, OL⟩ ih3
          dsimp only [List.cons_append, List.nil_append] at ih3 ⊢
          refine XK.seq ?_
          refine XK.region rfl ?_
          refine XO.q (Q.lss rfl rfl) ?_
          refine XO.done ?_
          refine XK.seq ?_
          refine XK.if rfl (fun c5 => ?_) (fun c5 => ?_)
          · have _t5 := True.intro
            refine XK.skip ?_
            refine XK.seq ?_
            refine XK.block ?_
            refine XK.seq ?_
            refine XK.region rfl ?_
            refine XO.q (Q.move rfl) ?_
            refine XO.q (Q.assign rfl) ?_
            refine XO.done ?_
            refine XK.drawn [0, 1, 2, 3, 4, 5, 9] [b9] [] (.q 0 (.q 1 (.q 2 (.q 3 (.q 4 (.q 5 (.br 6 true (.br 7 true (.br 8 true (.q 9 (.br 10 false .done .stop)) .stop) .stop) .stop))))))) Try.mixed rfl (by kernel_rfl) ?_
            refine XT.q rfl rfl (Q.fieldAddr rfl) ?_
            refine XT.q rfl rfl (Q.ld rfl rfl) ?_
            refine XT.q rfl rfl (Q.move rfl) ?_
            refine XT.q rfl rfl (Q.move rfl) ?_
            refine XT.q rfl rfl (Q.move rfl) ?_
            refine XT.q rfl rfl (Q.move rfl) ?_
            refine XT.call rfl rfl Try.call39 rfl rfl rfl (product1 Sa Ca Ka an ag oka Sb Cb Kb bn bg okb vn vg wn wg hn kn b2 b3 s u w (by omega) (by omega) (by omega)) (fun v104 s104 R104 => ?_) XT.stop
            obtain ⟨rfl, rfl⟩ := R104
            dsimp only [List.cons_append, List.nil_append]
            refine ⟨inferInstance, ?_⟩
            refine XT.lit [_] [_] [_] encI rfl rfl (by rfl) (by rfl) rfl (by rfl) (by exact .c 0 1 rfl rfl rfl (.n _)) (fun _ => rfl) (by rfl) rfl (by infer_instance) rfl (fun v105 h105 O105 => ⟨inferInstance, ?_⟩) XT.stop
            refine XT.append rfl rfl rfl rfl rfl rfl (by simp only [List.length_map, List.length_range, List.length_cons, List.length_nil]; omega) (fun v106 h106 O106 => ⟨inferInstance, ?_⟩) XT.stop
            refine XT.q rfl rfl (Q.fieldAddr rfl) ?_
            refine XT.st rfl rfl rfl rfl rfl ⟨inferInstance, ?_⟩ XT.stop
            refine XT.done ?_
            refine XK.inBlock ?_
            refine XK.region rfl ?_
            refine XO.q (Q.add rfl rfl ⟨by omega, by omega⟩) ?_
            refine XO.q (Q.move rfl) ?_
            refine XO.done ?_
            exact ih3 (w + 1, v106, h106) _ _ ⟨by omega, by rw [← Nat.add_assoc, range_map_succ, pnext_at (by omega) (by omega)]; exact O106⟩ (by first | omega | (dsimp only; omega)) (.c rfl (.base 31 rfl rfl)) inferInstance
          · have _t5 := True.intro
            refine XK.exit rfl ?_
            refine XK.inBlock ?_
            refine XK.region rfl ?_
            refine XO.q (Q.add rfl rfl ⟨by omega, by omega⟩) ?_
            refine XO.q (Q.move rfl) ?_
            refine XO.done ?_
            exact ih2 (u + 1, vL, hL) _ _ ⟨by omega, by rw [← Nat.add_assoc, Nat.add_mul (s * C + u) 1 K, Nat.one_mul]; simpa [show w = K by omega] using OL⟩ (by first | omega | (dsimp only; omega)) (.c rfl (.base 48 rfl rfl)) inferInstance
        · have _t4 := True.intro
          refine XK.exit rfl ?_
          refine XK.inBlock ?_
          refine XK.region rfl ?_
          refine XO.q (Q.add rfl rfl ⟨by omega, by omega⟩) ?_
          refine XO.q (Q.move rfl) ?_
          refine XO.done ?_
          exact ih1 (s + 1, vM, hM, v86, h86) _ _ ⟨by omega, by rw [Nat.add_mul s 1 C, Nat.one_mul]; simpa [show u = C by omega] using OM, O86'⟩ (by first | omega | (dsimp only; omega)) (.c rfl (.base 108 rfl rfl)) inferInstance
      · have _t3 := True.intro
        refine XK.exit rfl ?_
        refine XK.seq ?_
        refine XK.region rfl ?_
        refine XO.q (Q.ldA [_, _, _, _, _] rfl rfl rfl) ?_
        refine XO.st rfl rfl rfl ?_
        refine XO.q (Q.assign rfl) ?_
        refine XO.done ?_
        refine XK.rt [hN, hG] Try.func13 Try.results13 (.cell [_, _, _, _, _] rfl rfl rfl (.t rfl .n)) ?_
        have hw : product ⟨Sa, Ca, Ka, an, ag⟩ ⟨Sb, Cb, Kb, bn, bg⟩ = (⟨S, C, K, (List.range (S * C * K)).map (pnext an bn Ca Ka Sb Cb Kb C K), (List.range S).map (pgood ag bg Sb)⟩, 0) := by
          rw [product, if_neg (by simpa using ea), if_neg (by simpa using eb), if_neg (by dsimp only; omega)]; dsimp only; rw [hSi, hCi, hKi]; simp only [Int.toNat_natCast]
        rw [hw]
        have hsS : s = S := by omega
        subst hsS
        exact ⟨vN, vG, hN, hG, rfl, rfl, ON, OG⟩
end Go.X

set_option linter.unusedSimpArgs false
set_option linter.unusedVariables false
set_option maxRecDepth 20000
namespace Go.X
open Go.Proofs
theorem refProduct (a b : G) (vn vg wn wg : Value) (hn hg kn kg : PHeap) [sn : Arr vn encI 1 hn a.next] [sg : Arr vg encB 1 hg a.good] [tn : Arr wn encI 1 kn b.next] [tg : Arr wg encB 1 kg b.good] : Spec Try.prog 14 #[.agg #[.int .i64 a.S, .int .i64 a.C, .int .i64 a.K, vn, vg], .agg #[.int .i64 b.S, .int .i64 b.C, .int .i64 b.K, wn, wg]] [] [hn, hg, kn, kg] (fun v hs => ∃ v1 v2 k1 k2, v = .tuple #[.agg #[.int .i64 (product a b).1.S, .int .i64 (product a b).1.C, .int .i64 (product a b).1.K, v1, v2], .int .i64 (product a b).2] ∧ hs = [k1, k2] ∧
      OArr v1 encI 1 3 k1 (product a b).1.next ∧ OArr v2 encB 1 4 k2 (product a b).1.good) := by
  refine Spec.intro (fn := Try.f14) (N := 181) Try.func14 rfl Try.ntmps14 rfl fun B => ?_
  refine XK.seq ?_
  refine XK.region rfl ?_
  refine XO.box rfl fun b2 => ?_
  refine XO.box rfl fun b3 => ?_
  refine XO.alloc fun b4 => ?_
  refine XO.q (Q.assign rfl) ?_
  refine XO.done ?_
  refine XK.seq ?_
  refine XK.seq ?_
  refine XK.region rfl ?_
  refine XO.q (Q.ldA [_, _, _, _, _] rfl rfl rfl) ?_
  refine XO.call Try.call41 rfl rfl rfl (refCheck _ _ _ _ _) fun v20 s20 R20 => ?_
  obtain ⟨rfl, rfl⟩ := R20
  dsimp only [List.cons_append, List.nil_append]
  refine XO.q (Q.assign rfl) ?_
  refine XO.done ?_
  refine XK.seq ?_
  refine XK.region rfl ?_
  refine XO.q (Q.move rfl) ?_
  refine XO.q (Q.neq rfl rfl) ?_
  refine XO.done ?_
  refine XK.if rfl (fun c0 => ?_) (fun c0 => ?_)
  · have _t0 := True.intro
    refine XK.seq ?_
    refine XK.region rfl ?_
    refine XO.q (Q.build [_, _, _, _, _] (.n _)) ?_
    refine XO.q (Q.move rfl) ?_
    refine XO.st rfl rfl rfl ?_
    refine XO.q (Q.assign rfl) ?_
    refine XO.done ?_
    refine XK.rt [emp, emp] Try.func14 Try.results14 (.cell [_, _, _, _, _] rfl rfl rfl (.t rfl .n)) ?_
    have hw := (show product a b = (zeroG, gcheck a) by rw [product, if_pos c0])
    rw [hw]
    exact ⟨.slice none 0 0, .slice none 0 0, emp, emp, rfl, rfl, OArr.nil (fun _ => rfl), OArr.nil (fun _ => rfl)⟩
  · have _t0 := True.intro
    have ea := Decidable.of_not_not c0
    refine XK.skip ?_
    refine XK.seq ?_
    refine XK.seq ?_
    refine XK.region rfl ?_
    refine XO.q (Q.ldA [_, _, _, _, _] rfl rfl rfl) ?_
    refine XO.call Try.call41 rfl rfl rfl (refCheck _ _ _ _ _) fun v26 s26 R26 => ?_
    obtain ⟨rfl, rfl⟩ := R26
    dsimp only [List.cons_append, List.nil_append]
    refine XO.q (Q.assign rfl) ?_
    refine XO.done ?_
    refine XK.seq ?_
    refine XK.region rfl ?_
    refine XO.q (Q.move rfl) ?_
    refine XO.q (Q.neq rfl rfl) ?_
    refine XO.done ?_
    refine XK.if rfl (fun c1 => ?_) (fun c1 => ?_)
    · have _t1 := True.intro
      refine XK.seq ?_
      refine XK.region rfl ?_
      refine XO.q (Q.build [_, _, _, _, _] (.n _)) ?_
      refine XO.q (Q.move rfl) ?_
      refine XO.st rfl rfl rfl ?_
      refine XO.q (Q.assign rfl) ?_
      refine XO.done ?_
      refine XK.rt [emp, emp] Try.func14 Try.results14 (.cell [_, _, _, _, _] rfl rfl rfl (.t rfl .n)) ?_
      have hw := (show product a b = (zeroG, gcheck b) by rw [product, if_neg c0, if_pos c1])
      rw [hw]
      exact ⟨.slice none 0 0, .slice none 0 0, emp, emp, rfl, rfl, OArr.nil (fun _ => rfl), OArr.nil (fun _ => rfl)⟩
    · have _t1 := True.intro
      have eb := Decidable.of_not_not c1
      obtain ⟨Sa, Ca, Ka, hSa, hCa, hKa, oka⟩ := gcheck_ok ea
      obtain ⟨gSa, gCa, gKa, an, ag⟩ := a
      dsimp only at *
      subst hSa hCa hKa
      obtain ⟨Sb, Cb, Kb, hSb, hCb, hKb, okb⟩ := gcheck_ok eb
      obtain ⟨gSb, gCb, gKb, bn, bg⟩ := b
      dsimp only at *
      subst hSb hCb hKb
      have hs3 : Sa * Sb ≤ 400 * 400 := Nat.mul_le_mul oka.s2 okb.s2
      have hu3 : Ca * Cb ≤ 16 * 16 := Nat.mul_le_mul oka.c2 okb.c2
      have hw3 : Ka * Kb ≤ 16 * 16 := Nat.mul_le_mul oka.k2 okb.k2
      obtain ⟨S, hS⟩ : ∃ S, S = Sa * Sb := ⟨_, rfl⟩
      obtain ⟨C, hC⟩ : ∃ C, C = Ca * Cb := ⟨_, rfl⟩
      obtain ⟨K, hK⟩ : ∃ K, K = Ka * Kb := ⟨_, rfl⟩
      have hSi : (Sa : Int) * (Sb : Int) = (S : Int) := by rw [hS]; simp
      have hCi : (Ca : Int) * (Cb : Int) = (C : Int) := by rw [hC]; simp
      have hKi : (Ka : Int) * (Kb : Int) = (K : Int) := by rw [hK]; simp
      have hsb := okb.s1
      have q1 := oka.s2
      have q2 := okb.s2
      have q3 := oka.c2
      have q4 := okb.c2
      have q5 := oka.k2
      have q6 := okb.k2
      have oklb := okb.len
      have okla := oka.len
      have okga := oka.glen
      have okgb := okb.glen
      refine XK.skip ?_
      refine XK.seq ?_
      refine XK.region rfl ?_
      refine XO.q (Q.fieldAddr rfl) ?_
      refine XO.q (Q.ld rfl rfl) ?_
      refine XO.q (Q.fieldAddr rfl) ?_
      refine XO.q (Q.ld rfl rfl) ?_
      refine XO.q (Q.mul rfl rfl ⟨by omega, by omega⟩) ?_
      refine XO.q (Q.fieldAddr rfl) ?_
      refine XO.q (Q.ld rfl rfl) ?_
      refine XO.q (Q.fieldAddr rfl) ?_
      refine XO.q (Q.ld rfl rfl) ?_
      refine XO.q (Q.mul rfl rfl ⟨by omega, by omega⟩) ?_
      refine XO.q (Q.fieldAddr rfl) ?_
      refine XO.q (Q.ld rfl rfl) ?_
      refine XO.q (Q.fieldAddr rfl) ?_
      refine XO.q (Q.ld rfl rfl) ?_
      refine XO.q (Q.mul rfl rfl ⟨by omega, by omega⟩) ?_
      refine XO.q (Q.build [_, _, _, _, _] (.c 0 1 rfl rfl rfl (.c 1 1 rfl rfl rfl (.c 2 1 rfl rfl rfl (.n _))))) ?_
      refine XO.alloc fun b8 => ?_
      refine XO.st rfl rfl rfl ?_
      rw [hSi, hCi, hKi]
      refine XO.done ?_
      refine XK.seq ?_
      refine XK.seq ?_
      refine XK.region rfl ?_
      refine XO.q (Q.fieldAddr rfl) ?_
      refine XO.q (Q.ld rfl rfl) ?_
      refine XO.q (Q.gtr rfl rfl) ?_
      refine XO.q (Q.move rfl) ?_
      refine XO.q (Quiet.guardF rfl rfl fun g51 p51 => Q.fieldAddr rfl) ?_
      refine XO.q (Quiet.guardF rfl rfl fun g52 p52 => Q.ld (lzv g52 rfl) rfl) ?_
      refine XO.q (Quiet.guardF rfl rfl fun g53 p53 => Q.gtr (lzv g53 rfl) rfl) ?_
      refine XO.q (Q.or rfl (fun hp => lzv hp rfl)) ?_
      refine XO.q (Q.move rfl) ?_
      refine XO.q (Quiet.guardF rfl rfl fun g56 p56 => Q.fieldAddr rfl) ?_
      refine XO.q (Quiet.guardF rfl rfl fun g57 p57 => Q.ld (lzv g57 rfl) rfl) ?_
      refine XO.q (Quiet.guardF rfl rfl fun g58 p58 => Q.gtr (lzv g58 rfl) rfl) ?_
      refine XO.q (Q.or rfl (fun hp => lzv hp rfl)) ?_
      refine XO.done ?_
      refine XK.if rfl (fun c2 => ?_) (fun c2 => ?_)
      · have _t2 := True.intro
        refine XK.seq ?_
        refine XK.region rfl ?_
        refine XO.q (Q.build [_, _, _, _, _] (.n _)) ?_
        refine XO.st rfl rfl rfl ?_
        refine XO.q (Q.assign rfl) ?_
        refine XO.done ?_
        refine XK.rt [emp, emp] Try.func14 Try.results14 (.cell [_, _, _, _, _] rfl rfl rfl (.t rfl .n)) ?_
        have hw := (show product ⟨Sa, Ca, Ka, an, ag⟩ ⟨Sb, Cb, Kb, bn, bg⟩ = (zeroG, 2) by rw [product, if_neg (by simpa using ea), if_neg (by simpa using eb), if_pos (by dsimp only; omega)])
        rw [hw]
        exact ⟨.slice none 0 0, .slice none 0 0, emp, emp, rfl, rfl, OArr.nil (fun _ => rfl), OArr.nil (fun _ => rfl)⟩
      · have _t2 := True.intro
        have hS4 : S * C ≤ 400 * 16 := Nat.mul_le_mul (by omega) (by omega)
        have hS5 : S * C * K ≤ 6400 * 16 := Nat.mul_le_mul (by omega) (by omega)
        refine XK.skip ?_
        refine XK.seq ?_
        refine XK.region rfl ?_
        refine XO.q (Q.fieldAddr rfl) ?_
        refine XO.q (Q.ld rfl rfl) ?_
        refine XO.q (Q.fieldAddr rfl) ?_
        refine XO.q (Q.ld rfl rfl) ?_
        refine XO.q (Q.mul rfl rfl ⟨by omega, by omega⟩) ?_
        rw [show ((S : Int) * (C : Int) : Int) = ((S * C : Nat) : Int) from by simp]
        refine XO.q (Q.fieldAddr rfl) ?_
        refine XO.q (Q.ld rfl rfl) ?_
        refine XO.q (Q.mul rfl rfl ⟨by omega, by omega⟩) ?_
        rw [show (((S * C : Nat) : Int) * (K : Int) : Int) = ((S * C * K : Nat) : Int) from by simp]
        refine XO.make encI (0) rfl rfl rfl (by omega) (by omega) (fun _ => rfl) rfl rfl rfl (by dsimp only [encI]; infer_instance) fun v69 h69 O69 => ?_
        refine XO.q (Q.fieldAddr rfl) ?_
        refine XO.st rfl rfl rfl ?_
        refine XO.done ?_
        refine XK.seq ?_
        refine XK.region rfl ?_
        refine XO.q (Q.fieldAddr rfl) ?_
        refine XO.q (Q.ld rfl rfl) ?_
        refine XO.make encB (false) rfl rfl rfl (by omega) (by omega) (fun _ => rfl) rfl rfl rfl (by dsimp only [encB]; infer_instance) fun v73 h73 O73 => ?_
        refine XO.q (Q.fieldAddr rfl) ?_
        refine XO.st rfl rfl rfl ?_
        refine XO.done ?_
        refine XK.seq ?_
        refine XK.seq ?_
        refine XK.region rfl ?_
        refine XO.q (Q.assign rfl) ?_
        refine XO.done ?_
        refine XK.block ?_
        refine XK.while (X := Nat × PHeap × PHeap) [9, 10, 11, 12, 13, 14, 15, 16, 17, 18, 75, 76, 77, 78, 79, 80, 81, 82, 83, 84, 85, 86, 87, 88, 89, 90, 91, 92, 93, 94, 95, 96, 97, 98, 99, 100, 101, 102, 103, 104, 105, 106, 107, 108, 109, 110, 111, 112, 113, 114, 115, 116, 117, 118, 119, 120, 121, 122, 123, 124, 125, 126, 127, 128, 129, 130, 131, 132, 133, 134, 135, 136, 137, 138, 139, 140, 141, 142, 143, 144, 145, 146, 147, 148, 149, 150, 151, 152, 153, 154, 155, 156, 157, 158, 159, 160, 161, 162, 163, 164, 165, 166, 167, 168, 169, 170, 171, 172, 173, 174, 175, 176, 177, 178, 179] (fun ⟨s, hN, hG⟩ => [(9, some (.int .i64 (s : Nat)))]) (fun ⟨s, hN, hG⟩ => [hN, hG]) (fun ⟨s, hN, hG⟩ => s ≤ Sa ∧ OArr v69 encI 1 3 hN (fillTo 0 (pnext an bn Ca Ka Sb Cb Kb C K) (S * C * K) (s * Sb * C * K)) ∧ OArr v73 encB 1 4 hG (fillTo false (pgood ag bg Sb) S (s * Sb))) (fun ⟨s, hN, hG⟩ => Sa - s) (0, h69, h73) [h69, h73] rfl ⟨by omega, by rw [Nat.zero_mul, Nat.zero_mul, Nat.zero_mul, fillTo_zero]; exact O69, by rw [Nat.zero_mul, fillTo_zero]; exact O73⟩ (.c rfl (.base 0 rfl rfl)) ?_
        rintro ⟨s, hN, hG⟩ ⟨hs, ON, OG⟩ ih0
        dsimp only [List.cons_append, List.nil_append] at ih0 ⊢
        refine XK.seq ?_
        refine XK.seq ?_
        refine XK.region rfl ?_
        refine XO.q (Q.move rfl) ?_
        refine XO.q (Q.fieldAddr rfl) ?_
        refine XO.q (Q.ld rfl rfl) ?_
        refine XO.q (Q.lss rfl rfl) ?_
        refine XO.done ?_
        refine XK.if rfl (fun c3 => ?_) (fun c3 => ?_)
        · have _t3 := True.intro
          refine XK.skip ?_
          refine XK.seq ?_
          refine XK.block ?_
          refine XK.seq ?_
          refine XK.region rfl ?_
          refine XO.q (Q.assign rfl) ?_
          refine XO.done ?_
          refine XK.block ?_
          refine XK.while (X := Nat × PHeap × PHeap) [10, 11, 12, 13, 14, 15, 16, 17, 18, 81, 82, 83, 84, 85, 86, 87, 88, 89, 90, 91, 92, 93, 94, 95, 96, 97, 98, 99, 100, 101, 102, 103, 104, 105, 106, 107, 108, 109, 110, 111, 112, 113, 114, 115, 116, 117, 118, 119, 120, 121, 122, 123, 124, 125, 126, 127, 128, 129, 130, 131, 132, 133, 134, 135, 136, 137, 138, 139, 140, 141, 142, 143, 144, 145, 146, 147, 148, 149, 150, 151, 152, 153, 154, 155, 156, 157, 158, 159, 160, 161, 162, 163, 164, 165, 166, 167, 168, 169, 170, 171, 172, 173, 174, 175, 176, 177, 178, 179] (fun ⟨t, hM, hH⟩ => [(10, some (.int .i64 (t : Nat)))]) (fun ⟨t, hM, hH⟩ => [hM, hH]) (fun ⟨t, hM, hH⟩ => t ≤ Sb ∧ OArr v69 encI 1 3 hM (fillTo 0 (pnext an bn Ca Ka Sb Cb Kb C K) (S * C * K) ((s * Sb + t) * C * K)) ∧ OArr v73 encB 1 4 hH (fillTo false (pgood ag bg Sb) S (s * Sb + t))) (fun ⟨t, hM, hH⟩ => Sb - t) (0, hN, hG) [hN, hG] rfl ⟨by omega, by simpa using ON, by simpa using OG⟩ (.c rfl (.base 0 rfl rfl)) ?_
          rintro ⟨t, hM, hH⟩ ⟨ht, OM, OH⟩ ih1
          dsimp only [List.cons_append, List.nil_append] at ih1 ⊢
          refine XK.seq ?_
          refine XK.seq ?_
          refine XK.region rfl ?_
          refine XO.q (Q.move rfl) ?_
          refine XO.q (Q.fieldAddr rfl) ?_
          refine XO.q (Q.ld rfl rfl) ?_
          refine XO.q (Q.lss rfl rfl) ?_
          refine XO.done ?_
          refine XK.if rfl (fun c4 => ?_) (fun c4 => ?_)
          · have _t4 := True.intro
            have hst := pair_lt (s := s) (Sa := Sa) (t := t) (Sb := Sb) (by omega) (by omega)
            obtain ⟨st, est⟩ : ∃ st, st = s * Sb + t := ⟨_, rfl⟩
            have esti : (s : Int) * (Sb : Int) + (t : Int) = (st : Int) := by rw [est]; simp
            have hsm : s * Sb ≤ Sa * Sb := Nat.mul_le_mul_right _ (by omega)
            rw [← est] at hst
            refine XK.skip ?_
            refine XK.seq ?_
            refine XK.block ?_
            refine XK.seq ?_
            refine XK.region rfl ?_
            refine XO.q (Q.move rfl) ?_
            refine XO.q (Q.fieldAddr rfl) ?_
            refine XO.q (Q.ld rfl rfl) ?_
            refine XO.q (Q.mul rfl rfl ⟨by omega, by omega⟩) ?_
            refine XO.q (Q.move rfl) ?_
            refine XO.q (Q.add rfl rfl ⟨by omega, by omega⟩) ?_
            rw [esti]
            refine XO.q (Q.assign rfl) ?_
            refine XO.done ?_
            refine XK.seq ?_
            refine XK.drawn [0, 1, 2, 3, 4, 5, 6, 7, 8, 9, 10, 11, 12, 13, 14, 15] [b8, b2, b3] [] (.q 0 (.q 1 (.q 2 (.q 3 (.q 4 (.q 5 (.q 6 (.q 7 (.q 8 (.q 9 (.q 10 (.q 11 (.q 12 (.q 13 (.q 14 (.q 15 (.br 16 false .done .stop))))))))))))))))) Try.mixed rfl (by kernel_rfl) ?_
            refine XT.q rfl rfl (Q.fieldAddr rfl) ?_
            refine XT.q rfl rfl (Q.ld rfl rfl) ?_
            refine XT.q rfl rfl (Q.move rfl) ?_
            refine XT.q rfl rfl (Q.fieldAddr rfl) ?_
            refine XT.q rfl rfl (Q.ld rfl rfl) ?_
            refine XT.q rfl rfl (Q.move rfl) ?_
            refine XT.ix rfl rfl rfl rfl (by omega) (by omega) fun i99 => ?_
            refine XT.q rfl rfl (Q.ldE rfl (by first | assumption | omega) rfl) ?_
            refine XT.q rfl rfl (Q.move rfl) ?_
            refine XT.q rfl rfl (Quiet.guardT rfl rfl fun g102 p102 => Q.fieldAddr rfl) ?_
            refine XT.q rfl rfl (Quiet.guardT rfl rfl fun g103 p103 => Q.ld (lzv g103 rfl) rfl) ?_
            refine XT.q rfl rfl (Quiet.guardT rfl rfl fun g104 p104 => Q.move rfl) ?_
            refine XT.q rfl rfl (Quiet.guardT rfl rfl fun g105 p105 => Q.ix (lzv g105 rfl) (lzv g105 rfl) (by omega) (by omega)) ?_
            refine XT.q rfl rfl (Quiet.guardT rfl rfl fun g106 p106 => Q.ldE (lzv g106 rfl) (by first | assumption | omega) rfl) ?_
            refine XT.q rfl rfl (Q.and rfl (fun hp => lzv hp rfl)) ?_
            refine XT.ix rfl rfl rfl rfl (by omega) (by rw [fillTo_len]; omega) fun i108 => ?_
            refine XT.stE _ rfl rfl rfl rfl rfl (by assumption) rfl rfl (fun h19_16 O19_16 => ⟨inferInstance, ?_⟩) XT.stop
            have O19 : OArr v73 encB 1 4 h19_16 (fillTo false (pgood ag bg Sb) S (st + 1)) := by
              rw [← fillTo_set, est, pgood_at (by omega)]; rw [est] at O19_16; exact O19_16
            refine XT.done ?_
            refine XK.seq ?_
            refine XK.region rfl ?_
            refine XO.q (Q.assign rfl) ?_
            refine XO.done ?_
            refine XK.block ?_
            refine XK.while (X := Nat × PHeap) [12, 13, 14, 15, 16, 17, 18, 109, 110, 111, 112, 113, 114, 115, 116, 117, 118, 119, 120, 121, 122, 123, 124, 125, 126, 127, 128, 129, 130, 131, 132, 133, 134, 135, 136, 137, 138, 139, 140, 141, 142, 143, 144, 145, 146, 147, 148, 149, 150, 151, 152, 153, 154, 155, 156, 157, 158, 159, 160, 161, 162, 163, 164, 165, 166, 167, 168, 169, 170, 171, 172, 173, 174, 175, 176, 177, 178, 179] (fun ⟨u, hP⟩ => [(12, some (.int .i64 (u : Nat)))]) (fun ⟨u, hP⟩ => [hP]) (fun ⟨u, hP⟩ => u ≤ Ca ∧ OArr v69 encI 1 3 hP (fillTo 0 (pnext an bn Ca Ka Sb Cb Kb C K) (S * C * K) ((st * C + u * Cb) * K))) (fun ⟨u, hP⟩ => Ca - u) (0, hM) [hM] rfl ⟨by omega, by rw [est]; simpa using OM⟩ (.c rfl (.base 0 rfl rfl)) ?_
            rintro ⟨u, hP⟩ ⟨hu, OP⟩ ih2
            dsimp only [List.cons_append, List.nil_append] at ih2 ⊢
            refine XK.seq ?_
            refine XK.seq ?_
            refine XK.region rfl ?_
            refine XO.q (Q.move rfl) ?_
            refine XO.q (Q.fieldAddr rfl) ?_
            refine XO.q (Q.ld rfl rfl) ?_
            refine XO.q (Q.lss rfl rfl) ?_
            refine XO.done ?_
            refine XK.if rfl (fun c5 => ?_) (fun c5 => ?_)
            · have _t5 := True.intro
              refine XK.skip ?_
              refine XK.seq ?_
              refine XK.block ?_
              refine XK.seq ?_
              refine XK.region rfl ?_
              refine XO.q (Q.assign rfl) ?_
              refine XO.done ?_
              refine XK.block ?_
              refine XK.while (X := Nat × PHeap) [13, 14, 15, 16, 17, 18, 115, 116, 117, 118, 119, 120, 121, 122, 123, 124, 125, 126, 127, 128, 129, 130, 131, 132, 133, 134, 135, 136, 137, 138, 139, 140, 141, 142, 143, 144, 145, 146, 147, 148, 149, 150, 151, 152, 153, 154, 155, 156, 157, 158, 159, 160, 161, 162, 163, 164, 165, 166, 167, 168, 169, 170, 171, 172, 173, 174, 175, 176, 177, 178, 179] (fun ⟨v, hQ⟩ => [(13, some (.int .i64 (v : Nat)))]) (fun ⟨v, hQ⟩ => [hQ]) (fun ⟨v, hQ⟩ => v ≤ Cb ∧ OArr v69 encI 1 3 hQ (fillTo 0 (pnext an bn Ca Ka Sb Cb Kb C K) (S * C * K) ((st * C + (u * Cb + v)) * K))) (fun ⟨v, hQ⟩ => Cb - v) (0, hP) [hP] rfl ⟨by omega, by simpa using OP⟩ (.c rfl (.base 0 rfl rfl)) ?_
              rintro ⟨v, hQ⟩ ⟨hv, OQ⟩ ih3
              dsimp only [List.cons_append, List.nil_append] at ih3 ⊢
              refine XK.seq ?_
              refine XK.seq ?_
              refine XK.region rfl ?_
              refine XO.q (Q.move rfl) ?_
              refine XO.q (Q.fieldAddr rfl) ?_
              refine XO.q (Q.ld rfl rfl) ?_
              refine XO.q (Q.lss rfl rfl) ?_
              refine XO.done ?_
              refine XK.if rfl (fun c6 => ?_) (fun c6 => ?_)
              · have _t6 := True.intro
                refine XK.skip ?_
                refine XK.seq ?_
                refine XK.block ?_
                refine XK.seq ?_
                refine XK.region rfl ?_
                refine XO.q (Q.assign rfl) ?_
                refine XO.done ?_
                refine XK.block ?_
                refine XK.while (X := Nat × PHeap) [14, 15, 16, 17, 18, 121, 122, 123, 124, 125, 126, 127, 128, 129, 130, 131, 132, 133, 134, 135, 136, 137, 138, 139, 140, 141, 142, 143, 144, 145, 146, 147, 148, 149, 150, 151, 152, 153, 154, 155, 156, 157, 158, 159, 160, 161, 162, 163, 164, 165, 166, 167, 168, 169, 170, 171, 172, 173, 174, 175, 176, 177, 178, 179] (fun ⟨w, hR⟩ => [(14, some (.int .i64 (w : Nat)))]) (fun ⟨w, hR⟩ => [hR]) (fun ⟨w, hR⟩ => w ≤ Ka ∧ OArr v69 encI 1 3 hR (fillTo 0 (pnext an bn Ca Ka Sb Cb Kb C K) (S * C * K) ((st * C + (u * Cb + v)) * K + w * Kb))) (fun ⟨w, hR⟩ => Ka - w) (0, hQ) [hQ] rfl ⟨by omega, by simpa using OQ⟩ (.c rfl (.base 0 rfl rfl)) ?_
                rintro ⟨w, hR⟩ ⟨hw, OR⟩ ih4
                dsimp only [List.cons_append, List.nil_append] at ih4 ⊢
                refine XK.seq ?_
                refine XK.seq ?_
                refine XK.region rfl ?_
                refine XO.q (Q.move rfl) ?_
                refine XO.q (Q.fieldAddr rfl) ?_
                refine XO.q (Q.ld rfl rfl) ?_
                refine XO.q (Q.lss rfl rfl) ?_
                refine XO.done ?_
                refine XK.if rfl (fun c7 => ?_) (fun c7 => ?_)
                · have _t7 := True.intro
                  refine XK.skip ?_
                  refine XK.seq ?_
                  refine XK.block ?_
                  refine XK.seq ?_
                  refine XK.region rfl ?_
                  refine XO.q (Q.assign rfl) ?_
                  refine XO.done ?_
                  refine XK.block ?_
                  refine XK.while (X := Nat × PHeap) [15, 16, 17, 18, 127, 128, 129, 130, 131, 132, 133, 134, 135, 136, 137, 138, 139, 140, 141, 142, 143, 144, 145, 146, 147, 148, 149, 150, 151, 152, 153, 154, 155, 156, 157, 158, 159, 160, 161, 162, 163, 164, 165, 166, 167, 168, 169, 170, 171, 172, 173, 174, 175, 176, 177, 178, 179] (fun ⟨x, hT⟩ => [(15, some (.int .i64 (x : Nat)))]) (fun ⟨x, hT⟩ => [hT]) (fun ⟨x, hT⟩ => x ≤ Kb ∧ OArr v69 encI 1 3 hT (fillTo 0 (pnext an bn Ca Ka Sb Cb Kb C K) (S * C * K) ((st * C + (u * Cb + v)) * K + (w * Kb + x)))) (fun ⟨x, hT⟩ => Kb - x) (0, hR) [hR] rfl ⟨by omega, by simpa using OR⟩ (.c rfl (.base 0 rfl rfl)) ?_
                  rintro ⟨x, hT⟩ ⟨hx, OT⟩ ih5
                  dsimp only [List.cons_append, List.nil_append] at ih5 ⊢
                  refine XK.seq ?_
                  refine XK.seq ?_
                  refine XK.region rfl ?_
                  refine XO.q (Q.move rfl) ?_
                  refine XO.q (Q.fieldAddr rfl) ?_
                  refine XO.q (Q.ld rfl rfl) ?_
                  refine XO.q (Q.lss rfl rfl) ?_
                  refine XO.done ?_
                  refine XK.if rfl (fun c8 => ?_) (fun c8 => ?_)
                  · have _t8 := True.intro
                    have huv := pair_lt (s := u) (Sa := Ca) (t := v) (Sb := Cb) (by omega) (by omega)
                    obtain ⟨uv, euv⟩ : ∃ uv, uv = u * Cb + v := ⟨_, rfl⟩
                    have hwx := pair_lt (s := w) (Sa := Ka) (t := x) (Sb := Kb) (by omega) (by omega)
                    obtain ⟨wx, ewx⟩ : ∃ wx, wx = w * Kb + x := ⟨_, rfl⟩
                    rw [← euv, ← hC] at huv
                    rw [← ewx, ← hK] at hwx
                    have hlk := lead_le (K := K) (C := C) (S := S) (s := st) (u := uv) (by omega) huv
                    obtain ⟨n, en⟩ : ∃ n, n = (st * C + uv) * K + wx := ⟨_, rfl⟩
                    have hxa := oka.get ((s * Ca + u) * Ka + w)
                    have hxb := okb.get ((t * Cb + v) * Kb + x)
                    have hmb := mul_bd2 hxa.1 hxa.2 oka.s2 okb.s2
                    have hsb2 := okb.s2
                    have hcb := okb.c2
                    have m1 : st * C ≤ 400 * 16 := Nat.mul_le_mul (by omega) (by omega)
                    have m2 : u * Cb ≤ 16 * 16 := Nat.mul_le_mul (by have := oka.c2; omega) (by omega)
                    have m4 : w * Kb ≤ 16 * 16 := Nat.mul_le_mul (by have := oka.k2; omega) (by have := okb.k2; omega)
                    have m3 : ((st : Int) * (C : Int) + (u : Int) * (Cb : Int) + (v : Int)) * (K : Int) = (((st * C + uv) * K : Nat) : Int) := by rw [euv]; simp [Int.add_assoc]
                    have m5 : ((st : Int) * (C : Int) + (u : Int) * (Cb : Int) + (v : Int)) * (K : Int) + (w : Int) * (Kb : Int) + (x : Int) = (n : Int) := by rw [m3, en, ewx]; simp [Int.add_assoc]
                    have hpc : pnext an bn Ca Ka Sb Cb Kb C K n = if an.getD ((s * Ca + u) * Ka + w) 0 < 0 ∨ bn.getD ((t * Cb + v) * Kb + x) 0 < 0 then -1 else an.getD ((s * Ca + u) * Ka + w) 0 * Sb + bn.getD ((t * Cb + v) * Kb + x) 0 := by
                      rw [en, pnext_at huv hwx, est, euv, ewx]; exact pcell_at (by omega) (by omega) (by omega)
                    refine XK.skip ?_
                    refine XK.seq ?_
                    refine XK.block ?_
                    refine XK.seq ?_
                    refine XK.drawn [0, 1, 2, 3, 5, 6, 7, 8, 10, 11] [b2, b3] [] (.q 0 (.q 1 (.q 2 (.q 3 (.q 5 (.q 6 (.q 7 (.q 8 (.br 4 true (.br 9 true (.q 10 (.q 11 .done)) .stop) .stop))))))))) Try.mixed rfl (by kernel_rfl) ?_
                    refine XT.q rfl rfl (Q.ldA [_, _, _, _, _] rfl rfl rfl) ?_
                    refine XT.q rfl rfl (Q.move rfl) ?_
                    refine XT.q rfl rfl (Q.move rfl) ?_
                    refine XT.q rfl rfl (Q.move rfl) ?_
                    refine XT.q rfl rfl (Q.ldA [_, _, _, _, _] rfl rfl rfl) ?_
                    refine XT.q rfl rfl (Q.move rfl) ?_
                    refine XT.q rfl rfl (Q.move rfl) ?_
                    refine XT.q rfl rfl (Q.move rfl) ?_
                    refine XT.call rfl rfl Try.call42 rfl rfl rfl (refLeads Sa Ca Ka an ag oka vn vg hn s u w (by omega) (by omega) (by omega)) (fun v137 s137 R137 => ?_) XT.stop
                    obtain ⟨rfl, rfl⟩ := R137
                    dsimp only [List.cons_append, List.nil_append]
                    refine ⟨inferInstance, ?_⟩
                    refine XT.call rfl rfl Try.call42 rfl rfl rfl (refLeads Sb Cb Kb bn bg okb wn wg kn t v x (by omega) (by omega) (by omega)) (fun v142 s142 R142 => ?_) XT.stop
                    obtain ⟨rfl, rfl⟩ := R142
                    dsimp only [List.cons_append, List.nil_append]
                    refine ⟨inferInstance, ?_⟩
                    refine XT.q rfl rfl (Q.assign rfl) ?_
                    refine XT.q rfl rfl (Q.assign rfl) ?_
                    refine XT.done ?_
                    refine XK.seq ?_
                    refine XK.region rfl ?_
                    refine XO.q (Q.move rfl) ?_
                    refine XO.q (Q.fieldAddr rfl) ?_
                    refine XO.q (Q.ld rfl rfl) ?_
                    refine XO.q (Q.mul rfl rfl ⟨by omega, by omega⟩) ?_
                    refine XO.q (Q.move rfl) ?_
                    refine XO.q (Q.add rfl rfl ⟨by omega, by omega⟩) ?_
                    refine XO.q (Q.assign rfl) ?_
                    refine XO.done ?_
                    refine XK.seq ?_
                    refine XK.seq ?_
                    refine XK.region rfl ?_
                    refine XO.q (Q.move rfl) ?_
                    refine XO.q (Q.lss rfl rfl) ?_
                    refine XO.q (Q.move rfl) ?_
                    refine XO.q (Quiet.guardF rfl rfl fun g152 p152 => Q.move rfl) ?_
                    refine XO.q (Quiet.guardF rfl rfl fun g153 p153 => Q.lss (lzv g153 rfl) rfl) ?_
                    refine XO.q (Q.or rfl (fun hp => lzv hp rfl)) ?_
                    refine XO.done ?_
                    refine XK.meet (X := Int) [18] (fun y => [(18, some (.int .i64 y))]) (fun y => []) (fun y => y = (pnext an bn Ca Ka Sb Cb Kb C K) n) [] ?_ ?_
                    · rintro y ey
                      dsimp only [List.cons_append, List.nil_append]
                      subst ey
                      rw [← euv, ← ewx, ← en] at OT
                      refine XK.region rfl ?_
                      refine XO.q (Q.fieldAddr rfl) ?_
                      refine XO.q (Q.ld rfl rfl) ?_
                      refine XO.q (Q.move rfl) ?_
                      refine XO.q (Q.fieldAddr rfl) ?_
                      refine XO.q (Q.ld rfl rfl) ?_
                      refine XO.q (Q.mul rfl rfl ⟨by omega, by omega⟩) ?_
                      refine XO.q (Q.move rfl) ?_
                      refine XO.q (Q.fieldAddr rfl) ?_
                      refine XO.q (Q.ld rfl rfl) ?_
                      refine XO.q (Q.mul rfl rfl ⟨by omega, by omega⟩) ?_
                      refine XO.q (Q.add rfl rfl ⟨by omega, by omega⟩) ?_
                      refine XO.q (Q.move rfl) ?_
                      refine XO.q (Q.add rfl rfl ⟨by omega, by omega⟩) ?_
                      refine XO.q (Q.fieldAddr rfl) ?_
                      refine XO.q (Q.ld rfl rfl) ?_
                      refine XO.q (Q.mul rfl rfl ⟨by omega, by omega⟩) ?_
                      refine XO.q (Q.move rfl) ?_
                      refine XO.q (Q.fieldAddr rfl) ?_
                      refine XO.q (Q.ld rfl rfl) ?_
                      refine XO.q (Q.mul rfl rfl ⟨by omega, by omega⟩) ?_
                      refine XO.q (Q.add rfl rfl ⟨by omega, by omega⟩) ?_
                      refine XO.q (Q.move rfl) ?_
                      refine XO.q (Q.add rfl rfl ⟨by omega, by omega⟩) ?_
                      rw [m5]
                      refine XO.q (Q.move rfl) ?_
                      refine XO.ix rfl rfl (by omega) (by rw [fillTo_len]; omega) fun i179 => ?_
                      refine XO.stE _ rfl rfl rfl (by assumption) rfl rfl fun h36_25 O36_25 => ?_
                      have O36 : OArr v69 encI 1 3 h36_25 (fillTo 0 (pnext an bn Ca Ka Sb Cb Kb C K) (S * C * K) (n + 1)) := by
                        rw [← fillTo_set]; exact O36_25
                      refine XO.done ?_
                      refine XK.inBlock ?_
                      refine XK.region rfl ?_
                      refine XO.q (Q.move rfl) ?_
                      refine XO.q (Q.add rfl rfl ⟨by omega, by omega⟩) ?_
                      refine XO.q (Q.assign rfl) ?_
                      refine XO.done ?_
                      exact ih5 (x + 1, h36_25) _ _ ⟨by omega, by rw [← Nat.add_assoc (w * Kb), ← Nat.add_assoc, ← euv, ← ewx, ← en]; exact O36⟩ (by first | omega | (dsimp only; omega)) (.c rfl (.base 117 rfl rfl)) inferInstance
                    · intro mt9
                      dsimp only [List.cons_append, List.nil_append] at mt9
                      refine XK.if rfl (fun c9 => ?_) (fun c9 => ?_)
                      · have _t9 := True.intro
                        refine XK.region rfl ?_
                        refine XO.q (Q.assign rfl) ?_
                        refine XO.done ?_
                        exact mt9 (-1) _ _ (by rw [hpc, if_pos c9]) (.c rfl (.base 1 rfl rfl)) inferInstance
                      · have _t9 := True.intro
                        refine XK.skip ?_
                        exact mt9 (an.getD ((s * Ca + u) * Ka + w) 0 * Sb + bn.getD ((t * Cb + v) * Kb + x) 0) _ _ (by rw [hpc, if_neg c9]) (.c rfl (.base 0 rfl rfl)) inferInstance
                  · have _t8 := True.intro
                    refine XK.exit rfl ?_
                    refine XK.inBlock ?_
                    refine XK.region rfl ?_
                    refine XO.q (Q.move rfl) ?_
                    refine XO.q (Q.add rfl rfl ⟨by omega, by omega⟩) ?_
                    refine XO.q (Q.assign rfl) ?_
                    refine XO.done ?_
                    exact ih4 (w + 1, hT) _ _ ⟨by omega, by rw [Nat.add_mul w 1 Kb, Nat.one_mul]; simpa [show x = Kb by omega] using OT⟩ (by first | omega | (dsimp only; omega)) (.c rfl (.base 135 rfl rfl)) inferInstance
                · have _t7 := True.intro
                  refine XK.exit rfl ?_
                  refine XK.inBlock ?_
                  refine XK.region rfl ?_
                  refine XO.q (Q.move rfl) ?_
                  refine XO.q (Q.add rfl rfl ⟨by omega, by omega⟩) ?_
                  refine XO.q (Q.assign rfl) ?_
                  refine XO.done ?_
                  exact ih3 (v + 1, hR) _ _ ⟨by omega, by rw [← Nat.add_assoc (u * Cb), ← Nat.add_assoc (st * C), Nat.add_mul _ 1 K, Nat.one_mul]; simpa [show w = Ka by omega, ← hK] using OR⟩ (by first | omega | (dsimp only; omega)) (.c rfl (.base 149 rfl rfl)) inferInstance
              · have _t6 := True.intro
                refine XK.exit rfl ?_
                refine XK.inBlock ?_
                refine XK.region rfl ?_
                refine XO.q (Q.move rfl) ?_
                refine XO.q (Q.add rfl rfl ⟨by omega, by omega⟩) ?_
                refine XO.q (Q.assign rfl) ?_
                refine XO.done ?_
                exact ih2 (u + 1, hQ) _ _ ⟨by omega, by rw [Nat.add_mul u 1 Cb, Nat.one_mul, show Cb = v by omega]; rw [show v = Cb by omega] at OQ ⊢; exact OQ⟩ (by first | omega | (dsimp only; omega)) (.c rfl (.base 163 rfl rfl)) inferInstance
            · have _t5 := True.intro
              refine XK.exit rfl ?_
              refine XK.inBlock ?_
              refine XK.region rfl ?_
              refine XO.q (Q.move rfl) ?_
              refine XO.q (Q.add rfl rfl ⟨by omega, by omega⟩) ?_
              refine XO.q (Q.assign rfl) ?_
              refine XO.done ?_
              exact ih1 (t + 1, hP, h19_16) _ _ ⟨by omega, by rw [← Nat.add_assoc, ← est, Nat.add_mul st 1 C, Nat.one_mul]; simpa [show u = Ca by omega, ← hC] using OP, by rw [← Nat.add_assoc, ← est]; exact O19⟩ (by first | omega | (dsimp only; omega)) (.c rfl (.base 223 rfl rfl)) inferInstance
          · have _t4 := True.intro
            refine XK.exit rfl ?_
            refine XK.inBlock ?_
            refine XK.region rfl ?_
            refine XO.q (Q.move rfl) ?_
            refine XO.q (Q.add rfl rfl ⟨by omega, by omega⟩) ?_
            refine XO.q (Q.assign rfl) ?_
            refine XO.done ?_
            exact ih0 (s + 1, hM, hH) _ _ ⟨by omega, by rw [Nat.add_mul s 1 Sb, Nat.one_mul]; simpa [show t = Sb by omega] using OM, by rw [Nat.add_mul s 1 Sb, Nat.one_mul]; simpa [show t = Sb by omega] using OH⟩ (by first | omega | (dsimp only; omega)) (.c rfl (.base 237 rfl rfl)) inferInstance
        · have _t3 := True.intro
          refine XK.exit rfl ?_
          refine XK.seq ?_
          refine XK.region rfl ?_
          refine XO.q (Q.ldA [_, _, _, _, _] rfl rfl rfl) ?_
          refine XO.st rfl rfl rfl ?_
          refine XO.q (Q.assign rfl) ?_
          refine XO.done ?_
          refine XK.rt [hN, hG] Try.func14 Try.results14 (.cell [_, _, _, _, _] rfl rfl rfl (.t rfl .n)) ?_
          have hw : product ⟨Sa, Ca, Ka, an, ag⟩ ⟨Sb, Cb, Kb, bn, bg⟩ = (⟨S, C, K, (List.range (S * C * K)).map (pnext an bn Ca Ka Sb Cb Kb C K), (List.range S).map (pgood ag bg Sb)⟩, 0) := by
            rw [product, if_neg (by simpa using ea), if_neg (by simpa using eb), if_neg (by dsimp only; omega)]; dsimp only; rw [hSi, hCi, hKi]; simp only [Int.toNat_natCast]
          rw [hw]
          have hsS : s * Sb = S := by rw [show s = Sa by omega, hS]
          rw [hsS, fillTo_full (Nat.le_refl _)] at ON OG
          exact ⟨v69, v73, hN, hG, rfl, rfl, ON, OG⟩
end Go.X

set_option linter.unusedSimpArgs false
set_option linter.unusedVariables false
set_option maxRecDepth 3000
namespace Go.X
open Go.Proofs
theorem keeps1 (b : Nat) (vi vc vr : Value) (hi : PHeap) (ins : List Bool) [si : Arr vi encB 1 hi ins] (x : Int) (hx : x < ins.length) : Spec Try.prog 68 #[.int .i64 x, ptr b 0] [] [blk b [vi, vc, vr] 44, hi]
    (fun v hs => v = .bool (bad ins x) ∧ hs = []) := by
  refine Spec.intro (fn := Try.f68) (N := 14) Try.func68 rfl Try.ntmps68 rfl fun B => ?_
  refine XK.seq ?_
  refine XK.region rfl ?_
  refine XO.q (Q.assign rfl) ?_
  refine XO.done ?_
  refine XK.seq ?_
  refine XK.region rfl ?_
  refine XO.q (Q.move rfl) ?_
  refine XO.q (Q.lss rfl rfl) ?_
  refine XO.q (Q.move rfl) ?_
  refine XO.q (Quiet.guardF rfl rfl fun g7 p7 => Q.fieldAddr rfl) ?_
  refine XO.q (Quiet.guardF rfl rfl fun g8 p8 => Q.ld (lzv g8 rfl) rfl) ?_
  refine XO.q (Quiet.guardF rfl rfl fun g9 p9 => Q.move rfl) ?_
  refine XO.q (Quiet.guardF rfl rfl fun g10 p10 => Q.ix (lzv g10 rfl) (lzv g10 rfl) (by omega) (by omega)) ?_
  refine XO.q (Quiet.guardF rfl rfl fun g11 p11 => Q.ldE (lzv g11 rfl) (by first | assumption | omega) rfl) ?_
  refine XO.q (Quiet.guardF rfl rfl fun g12 p12 => Q.not (lzv g12 rfl)) ?_
  refine XO.q (Q.or rfl (fun hp => lzv hp rfl)) ?_
  refine XO.q (Q.assign rfl) ?_
  refine XO.done ?_
  refine XK.rt [] Try.func68 Try.results68 (.t rfl .n) ?_
  exact ⟨rfl, rfl⟩
theorem keeps_spec (S C K : Nat) (next : List Int) (good : List Bool) (ok : Ok S C K next good) (vn vg : Value) (hn : PHeap) [sn : Arr vn encI 1 hn next] (vi vc vr : Value) (hi : PHeap) (ins : List Bool) [si : Arr vi encB 1 hi ins] [oc : One vc] [orr : One vr] (hlen : ins.length = S) (s u : Nat) (hs : s < S) (hu : u < C) :
    Spec Try.prog 47 #[.agg #[vi, vc, vr], .agg #[.int .i64 (S : Nat), .int .i64 (C : Nat), .int .i64 (K : Nat), vn, vg], .int .i64 (s : Nat), .int .i64 (u : Nat)] [] [hn, hi] (fun v hs => v = .bool (keepsP next C K ins s u) ∧ hs = []) := by
  have hmem : ∀ x ∈ leads next C K s u, x < ins.length := fun x hx => by
    have := ok.inr x (List.mem_of_mem_drop (List.mem_of_mem_take hx))
    omega
  refine Spec.intro (fn := Try.f47) (N := 16) Try.func47 rfl Try.ntmps47 rfl fun B => ?_
  refine XK.seq ?_
  refine XK.region rfl ?_
  refine XO.box rfl fun b4 => ?_
  refine XO.box rfl fun b5 => ?_
  refine XO.q (Q.assign rfl) ?_
  refine XO.done ?_
  refine XK.seq ?_
  refine XK.region rfl ?_
  refine XO.q (Q.ldA [_, _, _, _, _] rfl rfl rfl) ?_
  refine XO.q (Q.move rfl) ?_
  refine XO.q (Q.move rfl) ?_
  refine XO.call Try.call40 rfl rfl rfl (leads_spec S C K next good ok vn vg hn s u hs hu) fun v12 s12 R12 => ?_
  obtain ⟨rfl, A12⟩ := R12
  dsimp only [List.cons_append, List.nil_append]
  refine XO.q (Q.func (fun _ he => rfl) (fun _ he => evs_rel he rfl)) ?_
  refine XO.call Try.call63 rfl rfl rfl (containsFuncI v12 hn (leads next C K s u) 68 [ptr b4 0] [blk b4 [vi, vc, vr] 44, hi] _ Try.call68 (fun x hx => keeps1 b4 vi vc vr hi ins x (hmem x hx))) fun v14 s14 R14 => ?_
  obtain ⟨rfl, rfl⟩ := R14
  dsimp only [List.cons_append, List.nil_append]
  refine XO.q (Q.not rfl) ?_
  refine XO.q (Q.assign rfl) ?_
  refine XO.done ?_
  refine XK.rt [] Try.func47 Try.results47 (.t rfl .n) ?_
  exact ⟨rfl, rfl⟩
theorem safe1 (b : Nat) (vi vc vr : Value) (hi : PHeap) (ins : List Bool) [si : Arr vi encB 1 hi ins] :
    It Try.prog (.func (.func 92) #[] #[ptr b 0]) ((insL ins).map fun s => [.int .i64 (s : Nat)]) [blk b [vi, vc, vr] 44, hi] := by
  intro f Hr QQ X hy q hq
  have hcl : ∀ args w, (callFunc 92 args).run Try.prog w = .ok (.enter 92 args) w := Try.call92
  have hap : [] ++ [f] ++ [ptr b 0] = [f, ptr b 0] := rfl
  refine VSpec.fn (P := Try.prog) (g := 92) (fst := []) (vs := [f]) (cap := [ptr b 0]) (A := [f, ptr b 0]) (Hm := [q]) hcl hap ?_
  dsimp only [List.cons_append, List.nil_append]
  have hle := si.le
  rw [List.length_map] at *
  have hcall : ∀ s, s < ins.length → ins.getD s default = true → ∀ q, QQ ((List.range s).filter fun s => ins.getD s false).length q →
      VSpec Try.prog f [.int .i64 (s : Nat)] [q] Hr (fun v hs => ∃ bb q', v = .bool bb ∧ hs = [q'] ∧ (bb = true → QQ (((List.range s).filter fun s => ins.getD s false).length + 1) q') ∧ (bb = false → X q')) := by
    intro s hs hp q hq
    obtain ⟨h1, h2⟩ := filter_at (p := fun s => ins.getD s false) hs hp
    have := hy _ (by exact h1) q hq
    rw [List.getD_eq_getElem?_getD, List.getElem?_map] at this
    unfold insL at this
    rw [h2] at this
    exact this
  refine Spec.intro (fn := Try.f92) (N := 21) Try.func92 rfl Try.ntmps92 rfl fun B => ?_
  refine XK.seq ?_
  refine XK.region rfl ?_
  refine XO.q (Q.fieldAddr rfl) ?_
  refine XO.q (Q.ld rfl rfl) ?_
  refine XO.len rfl fun l7 => ?_
  refine XO.q (Q.move rfl) ?_
  refine XO.done ?_
  refine XK.block ?_
  refine XK.while (X := Nat × PHeap) [3, 4, 8, 9, 10, 11, 12, 13, 14, 15, 16, 17, 18, 19, 20] (fun ⟨s, q1⟩ => [(8, some (.int .i64 (s : Nat)))]) (fun ⟨s, q1⟩ => [q1]) (fun ⟨s, q1⟩ => s ≤ ins.length ∧ QQ ((List.range s).filter fun s => ins.getD s false).length q1) (fun ⟨s, q1⟩ => ins.length - s) (0, q) [q] rfl ⟨by omega, hq⟩ (.c rfl (.base 0 rfl rfl)) ?_
  rintro ⟨s, q1⟩ ⟨hs, hQ⟩ ih0
  dsimp only [List.cons_append, List.nil_append] at ih0 ⊢
  refine XK.seq ?_
  refine XK.region rfl ?_
  refine XO.q (Q.lss rfl rfl) ?_
  refine XO.done ?_
  refine XK.seq ?_
  refine XK.if rfl (fun c0 => ?_) (fun c0 => ?_)
  · have _t0 := True.intro
    refine XK.skip ?_
    refine XK.seq ?_
    refine XK.block ?_
    refine XK.seq ?_
    refine XK.region rfl ?_
    refine XO.q (Q.move rfl) ?_
    refine XO.ix rfl rfl (by omega) (by omega) fun i11 => ?_
    refine XO.q (Q.ldE rfl (by first | assumption | omega) rfl) ?_
    refine XO.q (Q.assign rfl) ?_
    refine XO.q (Q.assign rfl) ?_
    refine XO.done ?_
    refine XK.seq ?_
    refine XK.region rfl ?_
    refine XO.q (Q.move rfl) ?_
    refine XO.q (Q.move rfl) ?_
    refine XO.q (Quiet.guardT rfl rfl fun g15 p15 => Q.move rfl) ?_
    refine XO.q (Quiet.guardT rfl rfl fun g16 p16 => Q.move rfl) ?_
    refine XO.gvcall rfl rfl (fun g17 => lzv g17 rfl) (fun g17 => .c (lzv g17 rfl) .n) (fun g17 => hcall s (by omega) g17 q1 hQ) (fun g17 v17 s17 R17 => ?_) (fun g17 => ?_)
    · have _tb := True.intro
      obtain ⟨bb, q2, rfl, rfl, hT, hF⟩ := R17
      dsimp only [List.cons_append, List.nil_append]
      refine XO.q (Quiet.guardT rfl rfl fun g18 p18 => Q.not rfl) ?_
      refine XO.q (Q.and rfl (fun hp => lzv hp rfl)) ?_
      refine XO.done ?_
      refine XK.if rfl (fun c1 => ?_) (fun c1 => ?_)
      · have _t1 := True.intro
        refine XK.rt [q2] Try.func92 Try.results92 (.n) ?_
        exact ⟨q2, rfl, .inr (hF (by cases bb <;> simp_all))⟩
      · have _t1 := True.intro
        refine XK.skip ?_
        refine XK.inBlock ?_
        refine XK.region rfl ?_
        refine XO.q (Q.add rfl rfl ⟨by omega, by omega⟩) ?_
        refine XO.q (Q.move rfl) ?_
        refine XO.done ?_
        exact ih0 (s + 1, q2) _ _ (by refine ⟨by dsimp only; omega, ?_⟩; dsimp only; rw [filter_succ, if_pos (show ins.getD s false = true from g17)]; refine hT ?_; cases bb <;> simp_all) (by first | omega | (dsimp only; omega)) (.c rfl (.base 31 rfl rfl)) inferInstance
    · have _tb := True.intro
      refine XO.q (Quiet.guardT (v := .bool false) rfl rfl fun g18 p18 => absurd g18 g17) ?_
      refine XO.q (Q.and rfl (fun hp => lzv hp rfl)) ?_
      refine XO.done ?_
      refine XK.if rfl (fun c2 => ?_) (fun c2 => ?_)
      · have _t2 := True.intro
        refine XK.rt [q1] Try.func92 Try.results92 (.n) ?_
        exact absurd c2.1 g17
      · have _t2 := True.intro
        refine XK.skip ?_
        refine XK.inBlock ?_
        refine XK.region rfl ?_
        refine XO.q (Q.add rfl rfl ⟨by omega, by omega⟩) ?_
        refine XO.q (Q.move rfl) ?_
        refine XO.done ?_
        exact ih0 (s + 1, q1) _ _ (by refine ⟨by dsimp only; omega, ?_⟩; dsimp only; rw [filter_succ, if_neg (show ¬ ins.getD s false = true from g17)]; exact hQ) (by first | omega | (dsimp only; omega)) (.c rfl (.base 31 rfl rfl)) inferInstance
  · have _t0 := True.intro
    refine XK.exit rfl ?_
    refine XK.fn [q1] Try.func92 Try.results92 (.n) ?_
    have hss : s = ins.length := by omega
    subst hss
    exact ⟨q1, rfl, .inl hQ⟩
theorem safe_spec (vi vc vr : Value) [oi : One vi] [oc : One vc] [orr : One vr] : Spec Try.prog 67 #[.agg #[vi, vc, vr]] [] [] (fun v hs => ∃ b, v = .func (.func 92) #[] #[ptr b 0] ∧ hs = [blk b [vi, vc, vr] 44]) := by
  refine Spec.intro (fn := Try.f67) (N := 4) Try.func67 rfl Try.ntmps67 rfl fun B => ?_
  refine XK.seq ?_
  refine XK.region rfl ?_
  refine XO.box rfl fun b1 => ?_
  refine XO.q (Q.assign rfl) ?_
  refine XO.done ?_
  refine XK.seq ?_
  refine XK.region rfl ?_
  refine XO.q (Q.func (fun _ he => rfl) (fun _ he => evs_rel he rfl)) ?_
  refine XO.q (Q.assign rfl) ?_
  refine XO.done ?_
  refine XK.rt [blk b1 [vi, vc, vr] 44] Try.func67 Try.results67 (.t rfl .n) ?_
  exact ⟨b1, rfl, rfl⟩
end Go.X

set_option linter.unusedSimpArgs false
set_option linter.unusedVariables false
set_option maxRecDepth 20000
namespace Go.X
open Go.Proofs
theorem solve_spec (S C K : Nat) (next : List Int) (good : List Bool) (ok : Ok S C K next good) (vn vg : Value) (hn : PHeap) [sn : Arr vn encI 1 hn next] (hg : PHeap) [sg : Arr vg encB 1 hg good] : Spec Try.prog 46 #[.agg #[.int .i64 (S : Nat), .int .i64 (C : Nat), .int .i64 (K : Nat), vn, vg]] [] [hn, hg]
    (fun v hs => ∃ v1 v2 v3 k1 k2 k3, v = .agg #[v1, v2, v3] ∧ hs = [k1, k2, k3] ∧ OArr v1 encB 1 4 k1 (solved S C K next good).1 ∧ OArr v2 encI 1 3 k2 (solved S C K next good).2.1 ∧ OArr v3 encI 1 3 k3 (solved S C K next good).2.2) := by
  refine Spec.intro (fn := Try.f46) (N := 87) Try.func46 rfl Try.ntmps46 rfl fun B => ?_
  have hnil : OArr (.slice none 0 0) encI 1 3 emp ([] : List Int) := OArr.nil (fun _ => rfl)
  have okg := ok.glen
  have oks := ok.s2
  have hcg := List.count_le_length (a := true) (l := good)
  have okc2 := ok.c2
  refine XK.seq ?_
  refine XK.region rfl ?_
  refine XO.box rfl fun b1 => ?_
  refine XO.alloc fun b2 => ?_
  refine XO.done ?_
  refine XK.scope ?_
  refine XK.seq ?_
  refine XK.meet (X := Nat × Value × PHeap × Value × PHeap × Value × PHeap) [3, 12, 13, 14, 15, 16, 17, 18, 19, 20, 21, 22] (fun ⟨b3, v14, h14, v18, h18, v21, h21⟩ => [(3, some (ptr b3 0))]) (fun ⟨b3, v14, h14, v18, h18, v21, h21⟩ => [blk b3 [v14, v18, v21] 44, h14, h18, h21]) (fun ⟨b3, v14, h14, v18, h18, v21, h21⟩ => OArr v14 encB 1 4 h14 good ∧ OArr v18 encI 1 3 h18 (List.replicate S (-1)) ∧ OArr v21 encI 1 3 h21 (List.replicate S 0)) [] ?_ ?_
  · rintro ⟨b3, v14, h14, v18, h18, v21, h21⟩ ⟨O14, O18, O21⟩
    dsimp only [List.cons_append, List.nil_append]
    refine XK.seq ?_
    refine XK.region rfl ?_
    refine XO.q (Q.ldA [_, _, _] rfl rfl rfl) ?_
    refine XO.q (Q.func (fun _ he => evs_rel he rfl) (fun _ he => rfl)) ?_
    refine XO.alloc fun b4 => ?_
    refine XO.st rfl rfl rfl ?_
    refine XO.done ?_
    refine XK.seq ?_
    refine XK.label ?_
    refine XK.seq ?_
    refine XK.seq ?_
    refine XK.region rfl ?_
    refine XO.q (Q.assign rfl) ?_
    refine XO.done ?_
    refine XK.block ?_
    refine XK.while (X := Int × List Bool × PHeap × List Int × PHeap × List Int × PHeap) [5, 6, 7, 8, 10, 25, 26, 27, 28, 30, 31, 32, 33, 34, 35, 36, 37, 38, 39, 40, 41, 42, 43, 44, 45, 46, 47, 48, 49, 50, 51, 52, 53, 54, 55, 56, 57, 58, 59, 60, 61, 62, 63, 64, 65, 66, 67, 68, 69, 70, 71, 72, 73, 74, 75, 76, 77, 78] (fun ⟨rank, ins, hI, ctl, hC, rnk, hR⟩ => [(5, some (.int .i64 rank))]) (fun ⟨rank, ins, hI, ctl, hC, rnk, hR⟩ => [hI, hC, hR]) (fun ⟨rank, ins, hI, ctl, hC, rnk, hR⟩ => 1 ≤ rank ∧ rank + ins.count true ≤ 401 ∧ ins.length = S ∧ ctl.length = S ∧ rnk.length = S ∧ (∃ f, ins.count true < f ∧ rounds next C K f rank ins ctl rnk = rounds next C K (S + 1) 1 good (List.replicate S (-1)) (List.replicate S 0)) ∧ OArr v14 encB 1 4 hI ins ∧ OArr v18 encI 1 3 hC ctl ∧ OArr v21 encI 1 3 hR rnk) (fun ⟨rank, ins, hI, ctl, hC, rnk, hR⟩ => ins.count true) (1, good, h14, List.replicate S (-1), h18, List.replicate S 0, h21) [h14, h18, h21] rfl ⟨by omega, by omega, okg, by simp, by simp, ⟨S + 1, by omega, rfl⟩, O14, O18, O21⟩ (.c rfl (.base 0 rfl rfl)) ?_
    rintro ⟨rank, ins, hI, ctl, hC, rnk, hR⟩ ⟨hr1, hr2, hli, hlc, hlr, ⟨fu, hfu, hro⟩, OI, OC, OR⟩ ih0
    dsimp only [List.cons_append, List.nil_append] at ih0 ⊢
    refine XK.seq ?_
    refine XK.block ?_
    refine XK.seq ?_
    refine XK.region rfl ?_
    refine XO.alloc fun b6 => ?_
    refine XO.done ?_
    refine XK.seq ?_
    refine XK.seq ?_
    refine XK.region rfl ?_
    refine XO.q (Q.ldA [_, _, _] rfl rfl rfl) ?_
    refine XO.call Try.call67 rfl rfl rfl (safe_spec _ _ _) fun v28 s28 R28 => ?_
    obtain ⟨b28, rfl, rfl⟩ := R28
    dsimp only [List.cons_append, List.nil_append]
    refine XO.done ?_
    refine XK.block ?_
    refine XK.range (X := List Int × PHeap × Value × PHeap) (ps := [29]) ((insL ins).map fun s => [Value.int .i64 ((s : Nat) : Int)]) (fun ⟨ctl2, hC2, vo, hO⟩ => [hC2, blk b6 [vo] 22, hO]) (fun i ⟨ctl2, hC2, vo, hO⟩ => ctl2 = ctlAt next C K ins ctl ((insL ins).take i) ∧ OArr v18 encI 1 3 hC2 ctl2 ∧ OArr vo encI 1 3 hO ((outsAt next C K ins ((insL ins).take i)).map fun s : Nat => (s : Int))) (fun _ _ => False) (ctl, hC, .slice none 0 0, emp) [hC, blk b6 [.slice none 0 0] 22, emp] rfl ⟨by simp [ctlAt], OC, by simpa [outsAt] using hnil⟩ rfl (safe1 b28 v14 v18 v21 hI ins) rfl (by intro i hi; rw [List.getD_eq_getElem?_getD, List.getElem?_eq_getElem hi]; simp) ?_ ?_ (fun _ _ hJ => hJ.elim)
    · rintro l rec B' i ⟨ctl2, hC2, vo, hO⟩ hi ⟨e2, OC2, OO⟩
      dsimp only [List.cons_append, List.nil_append]
      have hi2 : i < (insL ins).length := by rw [List.length_map] at hi; exact hi
      obtain ⟨s, hsL⟩ : ∃ s, (insL ins)[i]? = some s := ⟨_, List.getElem?_eq_getElem hi2⟩
      have hit : ((insL ins).map fun s => [Value.int .i64 ((s : Nat) : Int)]).getD i [] = [.int .i64 (s : Nat)] := by rw [List.getD_eq_getElem?_getD, List.getElem?_map, hsL]; rfl
      rw [hit]
      dsimp only [pars]
      obtain ⟨hsS, hsI⟩ := insL_mem hsL
      rw [hli] at hsS
      have hlc2 : ctl2.length = S := by rw [e2, ctlAt_len]; exact hlc
      have hol := outs_le (next := next) (C := C) (K := K) (ins := ins) (i := i)
      refine XK.region rfl ?_
      refine XO.q (Q.assign rfl) ?_
      refine XO.done ?_
      refine XK.beginRound ?_
      refine XK.block ?_
      refine XK.seq ?_
      refine XK.region rfl ?_
      refine XO.q (Q.fieldAddr rfl) ?_
      refine XO.q (Q.ld rfl rfl) ?_
      refine XO.q (Q.move rfl) ?_
      refine XO.ix rfl rfl (by omega) (by omega) fun i33 => ?_
      refine XO.stE _ rfl rfl rfl (by assumption) rfl rfl fun h8_4 O8_4 => ?_
      refine XO.done ?_
      refine XK.seq ?_
      refine XK.seq ?_
      refine XK.region rfl ?_
      refine XO.q (Q.fieldAddr rfl) ?_
      refine XO.q (Q.ld rfl rfl) ?_
      refine XO.q (Q.move rfl) ?_
      refine XO.done ?_
      refine XK.block ?_
      refine XK.while (X := Nat) [8, 36, 37, 38, 39, 40, 41, 42, 43, 44, 45, 46, 47, 48, 49] (fun u => [(36, some (.int .i64 (u : Nat)))]) (fun u => []) (fun u => u ≤ C ∧ ∀ u2 < u, keepsP next C K ins s u2 = false) (fun u => C - u) (0) [] rfl ⟨by omega, fun _ h => by omega⟩ (.c rfl (.base 0 rfl rfl)) ?_
      rintro u ⟨hu, hno⟩ ih1
      dsimp only [List.cons_append, List.nil_append] at ih1 ⊢
      refine XK.seq ?_
      refine XK.region rfl ?_
      refine XO.q (Q.lss rfl rfl) ?_
      refine XO.done ?_
      refine XK.seq ?_
      refine XK.if rfl (fun c0 => ?_) (fun c0 => ?_)
      · have _t0 := True.intro
        refine XK.skip ?_
        refine XK.seq ?_
        refine XK.block ?_
        refine XK.seq ?_
        refine XK.region rfl ?_
        refine XO.q (Q.move rfl) ?_
        refine XO.q (Q.assign rfl) ?_
        refine XO.done ?_
        refine XK.seq ?_
        refine XK.region rfl ?_
        refine XO.q (Q.ld rfl rfl) ?_
        refine XO.q (Q.ldA [_, _, _, _, _] rfl rfl rfl) ?_
        refine XO.q (Q.move rfl) ?_
        refine XO.q (Q.move rfl) ?_
        refine XO.call Try.call47 rfl rfl rfl (keeps_spec S C K next good ok vn vg hn v14 v18 v21 hI ins hli s u (by omega) (by omega)) fun v43 s43 R43 => ?_
        obtain ⟨rfl, rfl⟩ := R43
        dsimp only [List.cons_append, List.nil_append]
        refine XO.done ?_
        refine XK.if rfl (fun c1 => ?_) (fun c1 => ?_)
        · have _t1 := True.intro
          refine XK.seq ?_
          refine XK.region rfl ?_
          refine XO.q (Q.fieldAddr rfl) ?_
          refine XO.q (Q.ld rfl rfl) ?_
          refine XO.q (Q.move rfl) ?_
          refine XO.q (Q.move rfl) ?_
          refine XO.ix rfl rfl (by omega) (by simp only [List.length_set]; omega) fun i48 => ?_
          refine XO.stE _ rfl rfl rfl (by assumption) rfl rfl fun h13_5 O13_5 => ?_
          refine XO.done ?_
          refine XK.exit rfl ?_
          refine XK.seq ?_
          refine XK.region rfl ?_
          refine XO.q (Q.fieldAddr rfl) ?_
          refine XO.q (Q.ld rfl rfl) ?_
          refine XO.q (Q.move rfl) ?_
          refine XO.ix rfl rfl (by omega) (by simp only [List.length_set]; omega) fun i53 => ?_
          refine XO.q (Q.ldE rfl (by first | assumption | omega) rfl) ?_
          refine XO.q (Q.lss rfl rfl) ?_
          refine XO.done ?_
          refine XK.if rfl (fun c2 => ?_) (fun c2 => ?_)
          · have _t2 := True.intro
            have hg : ((ctl2.set s (-1)).set s (u : Int)).getD s default = (u : Int) := by rw [List.getD_eq_getElem?_getD]; simp [hlc2, hsS]
            exact absurd c2 (by rw [hg]; omega)
          · have _t2 := True.intro
            refine XK.skip ?_
            refine XK.inBlock ?_
            have hct := ctlOf_at (by omega) c1 hno
            exact XK.leave (j := none) [h13_5, blk b6 [vo] 22, hO] trivial ⟨((ctl2.set s (-1)).set s (u : Int), h13_5, vo, hO), ⟨by rw [take_snoc hsL, ctlAt_snoc, hct, ← e2, List.set_set], O13_5, by rw [take_snoc hsL, outs_no (by rw [hct]; omega)]; exact OO⟩, rfl⟩
        · have _t1 := True.intro
          refine XK.skip ?_
          refine XK.inBlock ?_
          refine XK.region rfl ?_
          refine XO.q (Q.add rfl rfl ⟨by omega, by omega⟩) ?_
          refine XO.q (Q.move rfl) ?_
          refine XO.done ?_
          exact ih1 (u + 1) _ _ ⟨by omega, fun u2 h2 => by rcases Nat.lt_or_ge u2 u with h3 | h3; exact hno u2 h3; rw [show u2 = u by omega]; simpa using c1⟩ (by first | omega | (dsimp only; omega)) (.c rfl (.base 26 rfl rfl)) inferInstance
      · have _t0 := True.intro
        refine XK.exit rfl ?_
        refine XK.seq ?_
        refine XK.region rfl ?_
        refine XO.q (Q.fieldAddr rfl) ?_
        refine XO.q (Q.ld rfl rfl) ?_
        refine XO.q (Q.move rfl) ?_
        refine XO.ix rfl rfl (by omega) (by simp only [List.length_set]; omega) fun i53 => ?_
        refine XO.q (Q.ldE rfl (by first | assumption | omega) rfl) ?_
        refine XO.q (Q.lss rfl rfl) ?_
        refine XO.done ?_
        refine XK.if rfl (fun c3 => ?_) (fun c3 => ?_)
        · have _t3 := True.intro
          refine XK.region rfl ?_
          refine XO.q (Q.ld rfl rfl) ?_
          refine XO.q (Q.move rfl) ?_
          refine XO.lit [_] [_] [_] encI (by rfl) (by rfl) rfl (by rfl) (by exact .c 0 1 rfl rfl rfl (.n _)) (fun _ => rfl) (by rfl) rfl (by infer_instance) rfl fun v58 h58 O58 => ?_
          refine XO.append rfl rfl rfl rfl (by simp only [List.length_map, List.length_cons, List.length_nil]; omega) fun v59 h59 O59 => ?_
          refine XO.st rfl rfl rfl ?_
          refine XO.done ?_
          refine XK.inBlock ?_
          have hct := ctlOf_none (fun u2 h2 => hno u2 (by omega))
          exact XK.leave (j := none) [h8_4, blk b6 [v59] 22, h59] trivial ⟨(ctl2.set s (-1), h8_4, v59, h59), ⟨by rw [take_snoc hsL, ctlAt_snoc, hct, ← e2], O8_4, by rw [take_snoc hsL, outs_yes (by rw [hct]; omega), List.map_append]; exact O59⟩, rfl⟩
        · have _t3 := True.intro
          have hg : (ctl2.set s (-1)).getD s default = -1 := by rw [List.getD_eq_getElem?_getD]; simp [hlc2, hsS]
          exact absurd (by rw [hg]; omega) c3
    · rintro ⟨ctl2, hC2, vo, hO⟩ ⟨e2, OC2, OO⟩
      dsimp only [List.cons_append, List.nil_append]
      rw [List.length_map, List.take_length] at e2 OO
      refine XK.inBlock ?_
      refine XK.seq ?_
      refine XK.seq ?_
      refine XK.region rfl ?_
      refine XO.q (Q.ld rfl rfl) ?_
      refine XO.len rfl fun l61 => ?_
      refine XO.q (Q.eql rfl rfl) ?_
      refine XO.done ?_
      refine XK.if rfl (fun c4 => ?_) (fun c4 => ?_)
      · have _t4 := True.intro
        have h0 : (outsAt next C K ins (insL ins)).length = 0 := by rw [List.length_map] at c4; omega
        have hout := List.length_eq_zero_iff.1 h0
        obtain ⟨f2, rfl⟩ : ∃ f2, fu = f2 + 1 := ⟨fu - 1, by omega⟩
        rw [rounds, if_pos hout, ← e2] at hro
        refine XK.exit rfl ?_
        refine XK.seq ?_
        refine XK.seq ?_
        refine XK.region rfl ?_
        refine XO.q (Q.ldA [_, _, _] rfl rfl rfl) ?_
        refine XO.call Try.call67 rfl rfl rfl (safe_spec _ _ _) fun v80 s80 R80 => ?_
        obtain ⟨b80, rfl, rfl⟩ := R80
        dsimp only [List.cons_append, List.nil_append]
        refine XO.done ?_
        refine XK.block ?_
        refine XK.range (X := List Int × PHeap) (ps := [81]) ((insL ins).map fun s => [Value.int .i64 ((s : Nat) : Int)]) (fun ⟨rn2, hR2⟩ => [hR2]) (fun i ⟨rn2, hR2⟩ => rn2 = setAll rnk ((insL ins).take i) (-1) ∧ OArr v21 encI 1 3 hR2 rn2) (fun _ _ => False) (rnk, hR) [hR] rfl ⟨by simp [setAll], OR⟩ rfl (safe1 b80 v14 v18 v21 hI ins) rfl (by intro i hi; rw [List.getD_eq_getElem?_getD, List.getElem?_eq_getElem hi]; simp) ?_ ?_ (fun _ _ hJ => hJ.elim)
        · rintro l rec B' i ⟨rn2, hR2⟩ hi ⟨e3, OR2⟩
          dsimp only [List.cons_append, List.nil_append]
          have hi2 : i < (insL ins).length := by rw [List.length_map] at hi; exact hi
          obtain ⟨s, hsL⟩ : ∃ s, (insL ins)[i]? = some s := ⟨_, List.getElem?_eq_getElem hi2⟩
          have hit : ((insL ins).map fun s => [Value.int .i64 ((s : Nat) : Int)]).getD i [] = [.int .i64 (s : Nat)] := by rw [List.getD_eq_getElem?_getD, List.getElem?_map, hsL]; rfl
          rw [hit]
          dsimp only [pars]
          obtain ⟨hsS, hsI⟩ := insL_mem hsL
          rw [hli] at hsS
          have hlr2 : rn2.length = S := by rw [e3, setAll_len]; exact hlr
          refine XK.region rfl ?_
          refine XO.q (Q.assign rfl) ?_
          refine XO.done ?_
          refine XK.beginRound ?_
          refine XK.block ?_
          refine XK.region rfl ?_
          refine XO.q (Q.fieldAddr rfl) ?_
          refine XO.q (Q.ld rfl rfl) ?_
          refine XO.q (Q.move rfl) ?_
          refine XO.ix rfl rfl (by omega) (by omega) fun i85 => ?_
          refine XO.stE _ rfl rfl rfl (by assumption) rfl rfl fun h25_4 O25_4 => ?_
          refine XO.done ?_
          refine XK.inBlock ?_
          exact XK.leave (j := none) [h25_4] trivial ⟨(rn2.set s (-1), h25_4), ⟨by rw [take_snoc hsL, setAll_snoc, ← e3], O25_4⟩, rfl⟩
        · rintro ⟨rn2, hR2⟩ ⟨e3, OR2⟩
          dsimp only [List.cons_append, List.nil_append]
          rw [List.length_map, List.take_length] at e3
          refine XK.inBlock ?_
          refine XK.seq ?_
          refine XK.region rfl ?_
          refine XO.q (Q.ldA [_, _, _] rfl rfl rfl) ?_
          refine XO.st rfl rfl rfl ?_
          refine XO.done ?_
          refine XK.rt [hI, hC2, hR2] Try.func46 Try.results46 (.cell [_, _, _] rfl rfl rfl (.n)) ?_
          have hsol : solved S C K next good = (ins, ctl2, setAll rnk (insL ins) (-1)) := by unfold solved; rw [← hro]
          rw [hsol]
          exact ⟨v14, v18, v21, hI, hC2, hR2, rfl, rfl, OI, OC2, by rw [← e3]; exact OR2⟩
      · have _t4 := True.intro
        have hne : outsAt next C K ins (insL ins) ≠ [] := by intro h0; rw [h0] at c4; exact c4 rfl
        obtain ⟨f2, rfl⟩ : ∃ f2, fu = f2 + 1 := ⟨fu - 1, by omega⟩
        have hlc2 : ctl2.length = S := by rw [e2, ctlAt_len]; exact hlc
        rw [rounds, if_neg hne, ← e2] at hro
        have hmem : ∀ s ∈ outsAt next C K ins (insL ins), s < ins.length ∧ ins.getD s false = true := fun s hs => by
          have h1 := List.mem_filter.1 (List.mem_filter.1 hs).1
          exact ⟨List.mem_range.1 h1.1, h1.2⟩
        have hlt := count_setAll_lt hne hmem
        obtain ⟨outs, hou⟩ : ∃ outs, outs = outsAt next C K ins (insL ins) := ⟨_, rfl⟩
        rw [← hou] at hro hlt OO hne hmem
        refine XK.skip ?_
        refine XK.seq ?_
        refine XK.region rfl ?_
        refine XO.q (Q.ld rfl rfl) ?_
        refine XO.len rfl fun l64 => ?_
        refine XO.q (Q.move rfl) ?_
        refine XO.done ?_
        refine XK.block ?_
        refine XK.while (X := Nat × PHeap × PHeap) [10, 65, 66, 67, 68, 69, 70, 71, 72, 73, 74, 75, 76, 77, 78] (fun ⟨j, hI2, hR2⟩ => [(65, some (.int .i64 (j : Nat)))]) (fun ⟨j, hI2, hR2⟩ => [hI2, hR2]) (fun ⟨j, hI2, hR2⟩ => j ≤ outs.length ∧ OArr v14 encB 1 4 hI2 (setAll ins (outs.take j) false) ∧ OArr v21 encI 1 3 hR2 (setAll rnk (outs.take j) rank)) (fun ⟨j, hI2, hR2⟩ => outs.length - j) (0, hI, hR) [hI, hR] rfl ⟨by omega, by simpa [setAll] using OI, by simpa [setAll] using OR⟩ (.c rfl (.base 0 rfl rfl)) ?_
        rintro ⟨j, hI2, hR2⟩ ⟨hj, OI2, OR2⟩ ih2
        dsimp only [List.cons_append, List.nil_append] at ih2 ⊢
        refine XK.seq ?_
        refine XK.region rfl ?_
        refine XO.q (Q.lss rfl rfl) ?_
        refine XO.done ?_
        refine XK.seq ?_
        refine XK.if rfl (fun c5 => ?_) (fun c5 => ?_)
        · have _t5 := True.intro
          have hj2 : j < outs.length := by simp only [List.length_map] at c5; omega
          obtain ⟨s, hsO⟩ : ∃ s, outs[j]? = some s := ⟨_, List.getElem?_eq_getElem hj2⟩
          have hsm := (hmem s (List.mem_of_getElem? hsO)).1
          rw [hli] at hsm
          have hgs : (outs.map fun s : Nat => (s : Int)).getD j default = (s : Int) := by rw [List.getD_eq_getElem?_getD, List.getElem?_map, hsO]; rfl
          refine XK.skip ?_
          refine XK.seq ?_
          refine XK.block ?_
          refine XK.seq ?_
          refine XK.region rfl ?_
          refine XO.ix rfl rfl (by omega) (by omega) fun i67 => ?_
          refine XO.q (Q.ldE rfl (by first | assumption | omega) rfl) ?_
          rw [hgs]
          refine XO.q (Q.assign rfl) ?_
          refine XO.done ?_
          refine XK.drawn [0, 1, 2, 3, 4, 5, 6, 7, 9] [b3] [] (.q 0 (.q 1 (.q 2 (.q 3 (.q 4 (.q 5 (.q 6 (.q 7 (.br 8 true (.q 9 (.br 10 false .done .stop)) .stop))))))))) Try.mixed rfl (by kernel_rfl) ?_
          refine XT.q rfl rfl (Q.fieldAddr rfl) ?_
          refine XT.q rfl rfl (Q.ld rfl rfl) ?_
          refine XT.q rfl rfl (Q.move rfl) ?_
          refine XT.q rfl rfl (Q.fieldAddr rfl) ?_
          refine XT.q rfl rfl (Q.ld rfl rfl) ?_
          refine XT.q rfl rfl (Q.move rfl) ?_
          refine XT.q rfl rfl (Q.move rfl) ?_
          refine XT.ix rfl rfl rfl rfl (by omega) (by rw [setAll_len]; omega) fun i76 => ?_
          refine XT.stE _ rfl rfl rfl rfl rfl (by assumption) rfl rfl (fun h21_8 O21_8 => ⟨inferInstance, ?_⟩) XT.stop
          refine XT.ix rfl rfl rfl rfl (by omega) (by rw [setAll_len]; omega) fun i77 => ?_
          refine XT.stE _ rfl rfl rfl rfl rfl (by assumption) rfl rfl (fun h21_10 O21_10 => ⟨inferInstance, ?_⟩) XT.stop
          refine XT.done ?_
          refine XK.inBlock ?_
          refine XK.region rfl ?_
          refine XO.q (Q.add rfl rfl ⟨by omega, by omega⟩) ?_
          refine XO.q (Q.move rfl) ?_
          refine XO.done ?_
          exact ih2 (j + 1, h21_8, h21_10) _ _ ⟨by dsimp only; omega, by dsimp only; rw [take_snoc hsO, setAll_snoc]; exact O21_8, by dsimp only; rw [take_snoc hsO, setAll_snoc]; exact O21_10⟩ (by first | omega | (dsimp only; omega)) (.c rfl (.base 31 rfl rfl)) inferInstance
        · have _t5 := True.intro
          simp only [List.length_map] at c5
          refine XK.exit rfl ?_
          refine XK.inBlock ?_
          refine XK.region rfl ?_
          refine XO.q (Q.move rfl) ?_
          refine XO.q (Q.add rfl rfl ⟨by omega, by omega⟩) ?_
          refine XO.q (Q.assign rfl) ?_
          refine XO.done ?_
          have hj2 : outs.take j = outs := List.take_of_length_le (by omega)
          rw [hj2] at OI2 OR2
          exact ih0 (rank + 1, setAll ins outs false, hI2, ctl2, hC2, setAll rnk outs rank, hR2) _ _ ⟨by dsimp only; omega, by dsimp only; omega, by dsimp only; rw [setAll_len]; exact hli, hlc2, by dsimp only; rw [setAll_len]; exact hlr, ⟨f2, by dsimp only; omega, hro⟩, OI2, OC2, OR2⟩ hlt (.c rfl (.base 88 rfl rfl)) inferInstance
  · intro mtr1
    dsimp only [List.cons_append, List.nil_append] at mtr1
    refine XK.drawn [0, 1, 4, 5, 7, 8, 10] [b1] [] (.q 0 (.q 1 (.q 4 (.q 5 (.q 7 (.q 8 (.br 2 true (.br 3 true (.br 6 true (.br 9 true (.q 10 (.br 11 true (.br 12 false .done .stop) .stop)) (.br 11 true (.br 9 true (.q 10 (.br 12 false .done .stop)) .stop) .stop)) (.br 9 true (.br 6 true (.q 10 (.br 11 true (.br 12 false .done .stop) .stop)) (.br 11 true (.br 6 true (.q 10 (.br 12 false .done .stop)) .stop) .stop)) (.br 11 true (.br 6 true (.br 9 true (.q 10 (.br 12 false .done .stop)) .stop) (.br 9 true (.br 6 true (.q 10 (.br 12 false .done .stop)) .stop) .stop)) .stop))) (.br 9 true (.br 3 true (.br 6 true (.q 10 (.br 11 true (.br 12 false .done .stop) .stop)) (.br 11 true (.br 6 true (.q 10 (.br 12 false .done .stop)) .stop) .stop)) (.br 11 true (.br 3 true (.br 6 true (.q 10 (.br 12 false .done .stop)) .stop) .stop) .stop)) (.br 11 true (.br 3 true (.br 6 true (.br 9 true (.q 10 (.br 12 false .done .stop)) .stop) (.br 9 true (.br 6 true (.q 10 (.br 12 false .done .stop)) .stop) .stop)) (.br 9 true (.br 3 true (.br 6 true (.q 10 (.br 12 false .done .stop)) .stop) .stop) .stop)) .stop))) (.br 3 true (.br 2 true (.br 6 true (.br 9 true (.q 10 (.br 11 true (.br 12 false .done .stop) .stop)) (.br 11 true (.br 9 true (.q 10 (.br 12 false .done .stop)) .stop) .stop)) (.br 9 true (.br 6 true (.q 10 (.br 11 true (.br 12 false .done .stop) .stop)) (.br 11 true (.br 6 true (.q 10 (.br 12 false .done .stop)) .stop) .stop)) (.br 11 true (.br 6 true (.br 9 true (.q 10 (.br 12 false .done .stop)) .stop) (.br 9 true (.br 6 true (.q 10 (.br 12 false .done .stop)) .stop) .stop)) .stop))) (.br 9 true (.br 2 true (.br 6 true (.q 10 (.br 11 true (.br 12 false .done .stop) .stop)) (.br 11 true (.br 6 true (.q 10 (.br 12 false .done .stop)) .stop) .stop)) (.br 11 true (.br 2 true (.br 6 true (.q 10 (.br 12 false .done .stop)) .stop) .stop) .stop)) (.br 11 true (.br 2 true (.br 6 true (.br 9 true (.q 10 (.br 12 false .done .stop)) .stop) (.br 9 true (.br 6 true (.q 10 (.br 12 false .done .stop)) .stop) .stop)) (.br 9 true (.br 2 true (.br 6 true (.q 10 (.br 12 false .done .stop)) .stop) .stop) .stop)) .stop))) (.br 9 true (.br 2 true (.br 3 true (.br 6 true (.q 10 (.br 11 true (.br 12 false .done .stop) .stop)) (.br 11 true (.br 6 true (.q 10 (.br 12 false .done .stop)) .stop) .stop)) (.br 11 true (.br 3 true (.br 6 true (.q 10 (.br 12 false .done .stop)) .stop) .stop) .stop)) (.br 3 true (.br 2 true (.br 6 true (.q 10 (.br 11 true (.br 12 false .done .stop) .stop)) (.br 11 true (.br 6 true (.q 10 (.br 12 false .done .stop)) .stop) .stop)) (.br 11 true (.br 2 true (.br 6 true (.q 10 (.br 12 false .done .stop)) .stop) .stop) .stop)) (.br 11 true (.br 2 true (.br 3 true (.br 6 true (.q 10 (.br 12 false .done .stop)) .stop) .stop) (.br 3 true (.br 2 true (.br 6 true (.q 10 (.br 12 false .done .stop)) .stop) .stop) .stop)) .stop))) (.br 11 true (.br 2 true (.br 3 true (.br 6 true (.br 9 true (.q 10 (.br 12 false .done .stop)) .stop) (.br 9 true (.br 6 true (.q 10 (.br 12 false .done .stop)) .stop) .stop)) (.br 9 true (.br 3 true (.br 6 true (.q 10 (.br 12 false .done .stop)) .stop) .stop) .stop)) (.br 3 true (.br 2 true (.br 6 true (.br 9 true (.q 10 (.br 12 false .done .stop)) .stop) (.br 9 true (.br 6 true (.q 10 (.br 12 false .done .stop)) .stop) .stop)) (.br 9 true (.br 2 true (.br 6 true (.q 10 (.br 12 false .done .stop)) .stop) .stop) .stop)) (.br 9 true (.br 2 true (.br 3 true (.br 6 true (.q 10 (.br 12 false .done .stop)) .stop) .stop) (.br 3 true (.br 2 true (.br 6 true (.q 10 (.br 12 false .done .stop)) .stop) .stop) .stop)) .stop))) .stop)))))))))) Try.mixed rfl (by kernel_rfl) ?_
    refine XT.q rfl rfl (Q.fieldAddr rfl) ?_
    refine XT.q rfl rfl (Q.ld rfl rfl) ?_
    refine XT.q rfl rfl (Q.fieldAddr rfl) ?_
    refine XT.q rfl rfl (Q.ld rfl rfl) ?_
    refine XT.q rfl rfl (Q.fieldAddr rfl) ?_
    refine XT.q rfl rfl (Q.ld rfl rfl) ?_
    refine XT.call rfl rfl Try.call24 rfl rfl rfl (cloneB _ _ _ (by omega)) (fun v14 s14 R14 => ?_) ?_
    · skip
      obtain ⟨h14, rfl, O14⟩ := R14
      dsimp only [List.cons_append, List.nil_append]
      refine ⟨inferInstance, ?_⟩
      refine XT.lit [_] [_] [-1] encI rfl rfl (by rfl) (by rfl) rfl (by rfl) (by exact .c 0 1 rfl rfl rfl (.n _)) (fun _ => rfl) (by rfl) rfl (by infer_instance) rfl (fun v15 h15 O15 => ⟨inferInstance, ?_⟩) ?_
      · skip
        refine XT.call rfl rfl Try.call66 rfl rfl rfl (repeatI _ _ _ S (by omega)) (fun v18 s18 R18 => ?_) ?_
        · skip
          obtain ⟨h18, rfl, O18⟩ := R18
          dsimp only [List.cons_append, List.nil_append]
          refine ⟨inferInstance, ?_⟩
          refine XT.make encI (0) rfl rfl rfl rfl rfl (by omega) (by omega) (fun _ => rfl) rfl rfl rfl (by dsimp only [encI]; infer_instance) (fun v21 h21 O21 => ⟨inferInstance, ?_⟩) ?_
          · skip
            refine XT.q rfl rfl (Q.build [_, _, _] (.c 0 1 rfl rfl rfl (.c 1 1 rfl rfl rfl (.c 2 1 rfl rfl rfl (.n _))))) ?_
            refine XT.alloc rfl rfl (fun b3 => ⟨inferInstance, ?_⟩) XT.stop
            refine XT.st rfl rfl rfl rfl rfl ⟨inferInstance, ?_⟩ XT.stop
            refine XT.done ?_
            exact mtr1 ((b3, v14, h14, v18, h18, v21, h21)) _ _ ⟨O14, O18, O21⟩ (.c rfl (.base 12 rfl rfl)) inferInstance
          · skip
            refine XT.alloc rfl rfl (fun b3 => ⟨inferInstance, ?_⟩) XT.stop
            refine XT.make encI (0) rfl rfl rfl rfl rfl (by omega) (by omega) (fun _ => rfl) rfl rfl rfl (by dsimp only [encI]; infer_instance) (fun v21 h21 O21 => ⟨inferInstance, ?_⟩) XT.stop
            refine XT.q rfl rfl (Q.build [_, _, _] (.c 0 1 rfl rfl rfl (.c 1 1 rfl rfl rfl (.c 2 1 rfl rfl rfl (.n _))))) ?_
            refine XT.st rfl rfl rfl rfl rfl ⟨inferInstance, ?_⟩ XT.stop
            refine XT.done ?_
            exact mtr1 ((b3, v14, h14, v18, h18, v21, h21)) _ _ ⟨O14, O18, O21⟩ (.c rfl (.base 12 rfl rfl)) inferInstance
        · skip
          refine XT.make encI (0) rfl rfl rfl rfl rfl (by omega) (by omega) (fun _ => rfl) rfl rfl rfl (by dsimp only [encI]; infer_instance) (fun v21 h21 O21 => ⟨inferInstance, ?_⟩) ?_
          · skip
            refine XT.call rfl rfl Try.call66 rfl rfl rfl (repeatI _ _ _ S (by omega)) (fun v18 s18 R18 => ?_) ?_
            · skip
              obtain ⟨h18, rfl, O18⟩ := R18
              dsimp only [List.cons_append, List.nil_append]
              refine ⟨inferInstance, ?_⟩
              refine XT.q rfl rfl (Q.build [_, _, _] (.c 0 1 rfl rfl rfl (.c 1 1 rfl rfl rfl (.c 2 1 rfl rfl rfl (.n _))))) ?_
              refine XT.alloc rfl rfl (fun b3 => ⟨inferInstance, ?_⟩) XT.stop
              refine XT.st rfl rfl rfl rfl rfl ⟨inferInstance, ?_⟩ XT.stop
              refine XT.done ?_
              exact mtr1 ((b3, v14, h14, v18, h18, v21, h21)) _ _ ⟨O14, O18, O21⟩ (.c rfl (.base 12 rfl rfl)) inferInstance
            · skip
              refine XT.alloc rfl rfl (fun b3 => ⟨inferInstance, ?_⟩) XT.stop
              refine XT.call rfl rfl Try.call66 rfl rfl rfl (repeatI _ _ _ S (by omega)) (fun v18 s18 R18 => ?_) XT.stop
              obtain ⟨h18, rfl, O18⟩ := R18
              dsimp only [List.cons_append, List.nil_append]
              refine ⟨inferInstance, ?_⟩
              refine XT.q rfl rfl (Q.build [_, _, _] (.c 0 1 rfl rfl rfl (.c 1 1 rfl rfl rfl (.c 2 1 rfl rfl rfl (.n _))))) ?_
              refine XT.st rfl rfl rfl rfl rfl ⟨inferInstance, ?_⟩ XT.stop
              refine XT.done ?_
              exact mtr1 ((b3, v14, h14, v18, h18, v21, h21)) _ _ ⟨O14, O18, O21⟩ (.c rfl (.base 12 rfl rfl)) inferInstance
          · skip
            refine XT.alloc rfl rfl (fun b3 => ⟨inferInstance, ?_⟩) XT.stop
            refine XT.call rfl rfl Try.call66 rfl rfl rfl (repeatI _ _ _ S (by omega)) (fun v18 s18 R18 => ?_) ?_
            · skip
              obtain ⟨h18, rfl, O18⟩ := R18
              dsimp only [List.cons_append, List.nil_append]
              refine ⟨inferInstance, ?_⟩
              refine XT.make encI (0) rfl rfl rfl rfl rfl (by omega) (by omega) (fun _ => rfl) rfl rfl rfl (by dsimp only [encI]; infer_instance) (fun v21 h21 O21 => ⟨inferInstance, ?_⟩) XT.stop
              refine XT.q rfl rfl (Q.build [_, _, _] (.c 0 1 rfl rfl rfl (.c 1 1 rfl rfl rfl (.c 2 1 rfl rfl rfl (.n _))))) ?_
              refine XT.st rfl rfl rfl rfl rfl ⟨inferInstance, ?_⟩ XT.stop
              refine XT.done ?_
              exact mtr1 ((b3, v14, h14, v18, h18, v21, h21)) _ _ ⟨O14, O18, O21⟩ (.c rfl (.base 12 rfl rfl)) inferInstance
            · skip
              refine XT.make encI (0) rfl rfl rfl rfl rfl (by omega) (by omega) (fun _ => rfl) rfl rfl rfl (by dsimp only [encI]; infer_instance) (fun v21 h21 O21 => ⟨inferInstance, ?_⟩) XT.stop
              refine XT.call rfl rfl Try.call66 rfl rfl rfl (repeatI _ _ _ S (by omega)) (fun v18 s18 R18 => ?_) XT.stop
              obtain ⟨h18, rfl, O18⟩ := R18
              dsimp only [List.cons_append, List.nil_append]
              refine ⟨inferInstance, ?_⟩
              refine XT.q rfl rfl (Q.build [_, _, _] (.c 0 1 rfl rfl rfl (.c 1 1 rfl rfl rfl (.c 2 1 rfl rfl rfl (.n _))))) ?_
              refine XT.st rfl rfl rfl rfl rfl ⟨inferInstance, ?_⟩ XT.stop
              refine XT.done ?_
              exact mtr1 ((b3, v14, h14, v18, h18, v21, h21)) _ _ ⟨O14, O18, O21⟩ (.c rfl (.base 12 rfl rfl)) inferInstance
      · skip
        refine XT.make encI (0) rfl rfl rfl rfl rfl (by omega) (by omega) (fun _ => rfl) rfl rfl rfl (by dsimp only [encI]; infer_instance) (fun v21 h21 O21 => ⟨inferInstance, ?_⟩) ?_
        · skip
          refine XT.lit [_] [_] [-1] encI rfl rfl (by rfl) (by rfl) rfl (by rfl) (by exact .c 0 1 rfl rfl rfl (.n _)) (fun _ => rfl) (by rfl) rfl (by infer_instance) rfl (fun v15 h15 O15 => ⟨inferInstance, ?_⟩) ?_
          · skip
            refine XT.call rfl rfl Try.call66 rfl rfl rfl (repeatI _ _ _ S (by omega)) (fun v18 s18 R18 => ?_) ?_
            · skip
              obtain ⟨h18, rfl, O18⟩ := R18
              dsimp only [List.cons_append, List.nil_append]
              refine ⟨inferInstance, ?_⟩
              refine XT.q rfl rfl (Q.build [_, _, _] (.c 0 1 rfl rfl rfl (.c 1 1 rfl rfl rfl (.c 2 1 rfl rfl rfl (.n _))))) ?_
              refine XT.alloc rfl rfl (fun b3 => ⟨inferInstance, ?_⟩) XT.stop
              refine XT.st rfl rfl rfl rfl rfl ⟨inferInstance, ?_⟩ XT.stop
              refine XT.done ?_
              exact mtr1 ((b3, v14, h14, v18, h18, v21, h21)) _ _ ⟨O14, O18, O21⟩ (.c rfl (.base 12 rfl rfl)) inferInstance
            · skip
              refine XT.alloc rfl rfl (fun b3 => ⟨inferInstance, ?_⟩) XT.stop
              refine XT.call rfl rfl Try.call66 rfl rfl rfl (repeatI _ _ _ S (by omega)) (fun v18 s18 R18 => ?_) XT.stop
              obtain ⟨h18, rfl, O18⟩ := R18
              dsimp only [List.cons_append, List.nil_append]
              refine ⟨inferInstance, ?_⟩
              refine XT.q rfl rfl (Q.build [_, _, _] (.c 0 1 rfl rfl rfl (.c 1 1 rfl rfl rfl (.c 2 1 rfl rfl rfl (.n _))))) ?_
              refine XT.st rfl rfl rfl rfl rfl ⟨inferInstance, ?_⟩ XT.stop
              refine XT.done ?_
              exact mtr1 ((b3, v14, h14, v18, h18, v21, h21)) _ _ ⟨O14, O18, O21⟩ (.c rfl (.base 12 rfl rfl)) inferInstance
          · skip
            refine XT.alloc rfl rfl (fun b3 => ⟨inferInstance, ?_⟩) XT.stop
            refine XT.lit [_] [_] [-1] encI rfl rfl (by rfl) (by rfl) rfl (by rfl) (by exact .c 0 1 rfl rfl rfl (.n _)) (fun _ => rfl) (by rfl) rfl (by infer_instance) rfl (fun v15 h15 O15 => ⟨inferInstance, ?_⟩) XT.stop
            refine XT.call rfl rfl Try.call66 rfl rfl rfl (repeatI _ _ _ S (by omega)) (fun v18 s18 R18 => ?_) XT.stop
            obtain ⟨h18, rfl, O18⟩ := R18
            dsimp only [List.cons_append, List.nil_append]
            refine ⟨inferInstance, ?_⟩
            refine XT.q rfl rfl (Q.build [_, _, _] (.c 0 1 rfl rfl rfl (.c 1 1 rfl rfl rfl (.c 2 1 rfl rfl rfl (.n _))))) ?_
            refine XT.st rfl rfl rfl rfl rfl ⟨inferInstance, ?_⟩ XT.stop
            refine XT.done ?_
            exact mtr1 ((b3, v14, h14, v18, h18, v21, h21)) _ _ ⟨O14, O18, O21⟩ (.c rfl (.base 12 rfl rfl)) inferInstance
        · skip
          refine XT.alloc rfl rfl (fun b3 => ⟨inferInstance, ?_⟩) XT.stop
          refine XT.lit [_] [_] [-1] encI rfl rfl (by rfl) (by rfl) rfl (by rfl) (by exact .c 0 1 rfl rfl rfl (.n _)) (fun _ => rfl) (by rfl) rfl (by infer_instance) rfl (fun v15 h15 O15 => ⟨inferInstance, ?_⟩) ?_
          · skip
            refine XT.call rfl rfl Try.call66 rfl rfl rfl (repeatI _ _ _ S (by omega)) (fun v18 s18 R18 => ?_) ?_
            · skip
              obtain ⟨h18, rfl, O18⟩ := R18
              dsimp only [List.cons_append, List.nil_append]
              refine ⟨inferInstance, ?_⟩
              refine XT.make encI (0) rfl rfl rfl rfl rfl (by omega) (by omega) (fun _ => rfl) rfl rfl rfl (by dsimp only [encI]; infer_instance) (fun v21 h21 O21 => ⟨inferInstance, ?_⟩) XT.stop
              refine XT.q rfl rfl (Q.build [_, _, _] (.c 0 1 rfl rfl rfl (.c 1 1 rfl rfl rfl (.c 2 1 rfl rfl rfl (.n _))))) ?_
              refine XT.st rfl rfl rfl rfl rfl ⟨inferInstance, ?_⟩ XT.stop
              refine XT.done ?_
              exact mtr1 ((b3, v14, h14, v18, h18, v21, h21)) _ _ ⟨O14, O18, O21⟩ (.c rfl (.base 12 rfl rfl)) inferInstance
            · skip
              refine XT.make encI (0) rfl rfl rfl rfl rfl (by omega) (by omega) (fun _ => rfl) rfl rfl rfl (by dsimp only [encI]; infer_instance) (fun v21 h21 O21 => ⟨inferInstance, ?_⟩) XT.stop
              refine XT.call rfl rfl Try.call66 rfl rfl rfl (repeatI _ _ _ S (by omega)) (fun v18 s18 R18 => ?_) XT.stop
              obtain ⟨h18, rfl, O18⟩ := R18
              dsimp only [List.cons_append, List.nil_append]
              refine ⟨inferInstance, ?_⟩
              refine XT.q rfl rfl (Q.build [_, _, _] (.c 0 1 rfl rfl rfl (.c 1 1 rfl rfl rfl (.c 2 1 rfl rfl rfl (.n _))))) ?_
              refine XT.st rfl rfl rfl rfl rfl ⟨inferInstance, ?_⟩ XT.stop
              refine XT.done ?_
              exact mtr1 ((b3, v14, h14, v18, h18, v21, h21)) _ _ ⟨O14, O18, O21⟩ (.c rfl (.base 12 rfl rfl)) inferInstance
          · skip
            refine XT.make encI (0) rfl rfl rfl rfl rfl (by omega) (by omega) (fun _ => rfl) rfl rfl rfl (by dsimp only [encI]; infer_instance) (fun v21 h21 O21 => ⟨inferInstance, ?_⟩) XT.stop
            refine XT.lit [_] [_] [-1] encI rfl rfl (by rfl) (by rfl) rfl (by rfl) (by exact .c 0 1 rfl rfl rfl (.n _)) (fun _ => rfl) (by rfl) rfl (by infer_instance) rfl (fun v15 h15 O15 => ⟨inferInstance, ?_⟩) XT.stop
            refine XT.call rfl rfl Try.call66 rfl rfl rfl (repeatI _ _ _ S (by omega)) (fun v18 s18 R18 => ?_) XT.stop
            obtain ⟨h18, rfl, O18⟩ := R18
            dsimp only [List.cons_append, List.nil_append]
            refine ⟨inferInstance, ?_⟩
            refine XT.q rfl rfl (Q.build [_, _, _] (.c 0 1 rfl rfl rfl (.c 1 1 rfl rfl rfl (.c 2 1 rfl rfl rfl (.n _))))) ?_
            refine XT.st rfl rfl rfl rfl rfl ⟨inferInstance, ?_⟩ XT.stop
            refine XT.done ?_
            exact mtr1 ((b3, v14, h14, v18, h18, v21, h21)) _ _ ⟨O14, O18, O21⟩ (.c rfl (.base 12 rfl rfl)) inferInstance
    · skip
      refine XT.lit [_] [_] [-1] encI rfl rfl (by rfl) (by rfl) rfl (by rfl) (by exact .c 0 1 rfl rfl rfl (.n _)) (fun _ => rfl) (by rfl) rfl (by infer_instance) rfl (fun v15 h15 O15 => ⟨inferInstance, ?_⟩) ?_
      · skip
        refine XT.call rfl rfl Try.call24 rfl rfl rfl (cloneB _ _ _ (by omega)) (fun v14 s14 R14 => ?_) ?_
        · skip
          obtain ⟨h14, rfl, O14⟩ := R14
          dsimp only [List.cons_append, List.nil_append]
          refine ⟨inferInstance, ?_⟩
          refine XT.call rfl rfl Try.call66 rfl rfl rfl (repeatI _ _ _ S (by omega)) (fun v18 s18 R18 => ?_) ?_
          · skip
            obtain ⟨h18, rfl, O18⟩ := R18
            dsimp only [List.cons_append, List.nil_append]
            refine ⟨inferInstance, ?_⟩
            refine XT.make encI (0) rfl rfl rfl rfl rfl (by omega) (by omega) (fun _ => rfl) rfl rfl rfl (by dsimp only [encI]; infer_instance) (fun v21 h21 O21 => ⟨inferInstance, ?_⟩) ?_
            · skip
              refine XT.q rfl rfl (Q.build [_, _, _] (.c 0 1 rfl rfl rfl (.c 1 1 rfl rfl rfl (.c 2 1 rfl rfl rfl (.n _))))) ?_
              refine XT.alloc rfl rfl (fun b3 => ⟨inferInstance, ?_⟩) XT.stop
              refine XT.st rfl rfl rfl rfl rfl ⟨inferInstance, ?_⟩ XT.stop
              refine XT.done ?_
              exact mtr1 ((b3, v14, h14, v18, h18, v21, h21)) _ _ ⟨O14, O18, O21⟩ (.c rfl (.base 12 rfl rfl)) inferInstance
            · skip
              refine XT.alloc rfl rfl (fun b3 => ⟨inferInstance, ?_⟩) XT.stop
              refine XT.make encI (0) rfl rfl rfl rfl rfl (by omega) (by omega) (fun _ => rfl) rfl rfl rfl (by dsimp only [encI]; infer_instance) (fun v21 h21 O21 => ⟨inferInstance, ?_⟩) XT.stop
              refine XT.q rfl rfl (Q.build [_, _, _] (.c 0 1 rfl rfl rfl (.c 1 1 rfl rfl rfl (.c 2 1 rfl rfl rfl (.n _))))) ?_
              refine XT.st rfl rfl rfl rfl rfl ⟨inferInstance, ?_⟩ XT.stop
              refine XT.done ?_
              exact mtr1 ((b3, v14, h14, v18, h18, v21, h21)) _ _ ⟨O14, O18, O21⟩ (.c rfl (.base 12 rfl rfl)) inferInstance
          · skip
            refine XT.make encI (0) rfl rfl rfl rfl rfl (by omega) (by omega) (fun _ => rfl) rfl rfl rfl (by dsimp only [encI]; infer_instance) (fun v21 h21 O21 => ⟨inferInstance, ?_⟩) ?_
            · skip
              refine XT.call rfl rfl Try.call66 rfl rfl rfl (repeatI _ _ _ S (by omega)) (fun v18 s18 R18 => ?_) ?_
              · skip
                obtain ⟨h18, rfl, O18⟩ := R18
                dsimp only [List.cons_append, List.nil_append]
                refine ⟨inferInstance, ?_⟩
                refine XT.q rfl rfl (Q.build [_, _, _] (.c 0 1 rfl rfl rfl (.c 1 1 rfl rfl rfl (.c 2 1 rfl rfl rfl (.n _))))) ?_
                refine XT.alloc rfl rfl (fun b3 => ⟨inferInstance, ?_⟩) XT.stop
                refine XT.st rfl rfl rfl rfl rfl ⟨inferInstance, ?_⟩ XT.stop
                refine XT.done ?_
                exact mtr1 ((b3, v14, h14, v18, h18, v21, h21)) _ _ ⟨O14, O18, O21⟩ (.c rfl (.base 12 rfl rfl)) inferInstance
              · skip
                refine XT.alloc rfl rfl (fun b3 => ⟨inferInstance, ?_⟩) XT.stop
                refine XT.call rfl rfl Try.call66 rfl rfl rfl (repeatI _ _ _ S (by omega)) (fun v18 s18 R18 => ?_) XT.stop
                obtain ⟨h18, rfl, O18⟩ := R18
                dsimp only [List.cons_append, List.nil_append]
                refine ⟨inferInstance, ?_⟩
                refine XT.q rfl rfl (Q.build [_, _, _] (.c 0 1 rfl rfl rfl (.c 1 1 rfl rfl rfl (.c 2 1 rfl rfl rfl (.n _))))) ?_
                refine XT.st rfl rfl rfl rfl rfl ⟨inferInstance, ?_⟩ XT.stop
                refine XT.done ?_
                exact mtr1 ((b3, v14, h14, v18, h18, v21, h21)) _ _ ⟨O14, O18, O21⟩ (.c rfl (.base 12 rfl rfl)) inferInstance
            · skip
              refine XT.alloc rfl rfl (fun b3 => ⟨inferInstance, ?_⟩) XT.stop
              refine XT.call rfl rfl Try.call66 rfl rfl rfl (repeatI _ _ _ S (by omega)) (fun v18 s18 R18 => ?_) ?_
              · skip
                obtain ⟨h18, rfl, O18⟩ := R18
                dsimp only [List.cons_append, List.nil_append]
                refine ⟨inferInstance, ?_⟩
                refine XT.make encI (0) rfl rfl rfl rfl rfl (by omega) (by omega) (fun _ => rfl) rfl rfl rfl (by dsimp only [encI]; infer_instance) (fun v21 h21 O21 => ⟨inferInstance, ?_⟩) XT.stop
                refine XT.q rfl rfl (Q.build [_, _, _] (.c 0 1 rfl rfl rfl (.c 1 1 rfl rfl rfl (.c 2 1 rfl rfl rfl (.n _))))) ?_
                refine XT.st rfl rfl rfl rfl rfl ⟨inferInstance, ?_⟩ XT.stop
                refine XT.done ?_
                exact mtr1 ((b3, v14, h14, v18, h18, v21, h21)) _ _ ⟨O14, O18, O21⟩ (.c rfl (.base 12 rfl rfl)) inferInstance
              · skip
                refine XT.make encI (0) rfl rfl rfl rfl rfl (by omega) (by omega) (fun _ => rfl) rfl rfl rfl (by dsimp only [encI]; infer_instance) (fun v21 h21 O21 => ⟨inferInstance, ?_⟩) XT.stop
                refine XT.call rfl rfl Try.call66 rfl rfl rfl (repeatI _ _ _ S (by omega)) (fun v18 s18 R18 => ?_) XT.stop
                obtain ⟨h18, rfl, O18⟩ := R18
                dsimp only [List.cons_append, List.nil_append]
                refine ⟨inferInstance, ?_⟩
                refine XT.q rfl rfl (Q.build [_, _, _] (.c 0 1 rfl rfl rfl (.c 1 1 rfl rfl rfl (.c 2 1 rfl rfl rfl (.n _))))) ?_
                refine XT.st rfl rfl rfl rfl rfl ⟨inferInstance, ?_⟩ XT.stop
                refine XT.done ?_
                exact mtr1 ((b3, v14, h14, v18, h18, v21, h21)) _ _ ⟨O14, O18, O21⟩ (.c rfl (.base 12 rfl rfl)) inferInstance
        · skip
          refine XT.make encI (0) rfl rfl rfl rfl rfl (by omega) (by omega) (fun _ => rfl) rfl rfl rfl (by dsimp only [encI]; infer_instance) (fun v21 h21 O21 => ⟨inferInstance, ?_⟩) ?_
          · skip
            refine XT.call rfl rfl Try.call24 rfl rfl rfl (cloneB _ _ _ (by omega)) (fun v14 s14 R14 => ?_) ?_
            · skip
              obtain ⟨h14, rfl, O14⟩ := R14
              dsimp only [List.cons_append, List.nil_append]
              refine ⟨inferInstance, ?_⟩
              refine XT.call rfl rfl Try.call66 rfl rfl rfl (repeatI _ _ _ S (by omega)) (fun v18 s18 R18 => ?_) ?_
              · skip
                obtain ⟨h18, rfl, O18⟩ := R18
                dsimp only [List.cons_append, List.nil_append]
                refine ⟨inferInstance, ?_⟩
                refine XT.q rfl rfl (Q.build [_, _, _] (.c 0 1 rfl rfl rfl (.c 1 1 rfl rfl rfl (.c 2 1 rfl rfl rfl (.n _))))) ?_
                refine XT.alloc rfl rfl (fun b3 => ⟨inferInstance, ?_⟩) XT.stop
                refine XT.st rfl rfl rfl rfl rfl ⟨inferInstance, ?_⟩ XT.stop
                refine XT.done ?_
                exact mtr1 ((b3, v14, h14, v18, h18, v21, h21)) _ _ ⟨O14, O18, O21⟩ (.c rfl (.base 12 rfl rfl)) inferInstance
              · skip
                refine XT.alloc rfl rfl (fun b3 => ⟨inferInstance, ?_⟩) XT.stop
                refine XT.call rfl rfl Try.call66 rfl rfl rfl (repeatI _ _ _ S (by omega)) (fun v18 s18 R18 => ?_) XT.stop
                obtain ⟨h18, rfl, O18⟩ := R18
                dsimp only [List.cons_append, List.nil_append]
                refine ⟨inferInstance, ?_⟩
                refine XT.q rfl rfl (Q.build [_, _, _] (.c 0 1 rfl rfl rfl (.c 1 1 rfl rfl rfl (.c 2 1 rfl rfl rfl (.n _))))) ?_
                refine XT.st rfl rfl rfl rfl rfl ⟨inferInstance, ?_⟩ XT.stop
                refine XT.done ?_
                exact mtr1 ((b3, v14, h14, v18, h18, v21, h21)) _ _ ⟨O14, O18, O21⟩ (.c rfl (.base 12 rfl rfl)) inferInstance
            · skip
              refine XT.alloc rfl rfl (fun b3 => ⟨inferInstance, ?_⟩) XT.stop
              refine XT.call rfl rfl Try.call24 rfl rfl rfl (cloneB _ _ _ (by omega)) (fun v14 s14 R14 => ?_) XT.stop
              obtain ⟨h14, rfl, O14⟩ := R14
              dsimp only [List.cons_append, List.nil_append]
              refine ⟨inferInstance, ?_⟩
              refine XT.call rfl rfl Try.call66 rfl rfl rfl (repeatI _ _ _ S (by omega)) (fun v18 s18 R18 => ?_) XT.stop
              obtain ⟨h18, rfl, O18⟩ := R18
              dsimp only [List.cons_append, List.nil_append]
              refine ⟨inferInstance, ?_⟩
              refine XT.q rfl rfl (Q.build [_, _, _] (.c 0 1 rfl rfl rfl (.c 1 1 rfl rfl rfl (.c 2 1 rfl rfl rfl (.n _))))) ?_
              refine XT.st rfl rfl rfl rfl rfl ⟨inferInstance, ?_⟩ XT.stop
              refine XT.done ?_
              exact mtr1 ((b3, v14, h14, v18, h18, v21, h21)) _ _ ⟨O14, O18, O21⟩ (.c rfl (.base 12 rfl rfl)) inferInstance
          · skip
            refine XT.alloc rfl rfl (fun b3 => ⟨inferInstance, ?_⟩) XT.stop
            refine XT.call rfl rfl Try.call24 rfl rfl rfl (cloneB _ _ _ (by omega)) (fun v14 s14 R14 => ?_) ?_
            · skip
              obtain ⟨h14, rfl, O14⟩ := R14
              dsimp only [List.cons_append, List.nil_append]
              refine ⟨inferInstance, ?_⟩
              refine XT.call rfl rfl Try.call66 rfl rfl rfl (repeatI _ _ _ S (by omega)) (fun v18 s18 R18 => ?_) ?_
              · skip
                obtain ⟨h18, rfl, O18⟩ := R18
                dsimp only [List.cons_append, List.nil_append]
                refine ⟨inferInstance, ?_⟩
                refine XT.make encI (0) rfl rfl rfl rfl rfl (by omega) (by omega) (fun _ => rfl) rfl rfl rfl (by dsimp only [encI]; infer_instance) (fun v21 h21 O21 => ⟨inferInstance, ?_⟩) XT.stop
                refine XT.q rfl rfl (Q.build [_, _, _] (.c 0 1 rfl rfl rfl (.c 1 1 rfl rfl rfl (.c 2 1 rfl rfl rfl (.n _))))) ?_
                refine XT.st rfl rfl rfl rfl rfl ⟨inferInstance, ?_⟩ XT.stop
                refine XT.done ?_
                exact mtr1 ((b3, v14, h14, v18, h18, v21, h21)) _ _ ⟨O14, O18, O21⟩ (.c rfl (.base 12 rfl rfl)) inferInstance
              · skip
                refine XT.make encI (0) rfl rfl rfl rfl rfl (by omega) (by omega) (fun _ => rfl) rfl rfl rfl (by dsimp only [encI]; infer_instance) (fun v21 h21 O21 => ⟨inferInstance, ?_⟩) XT.stop
                refine XT.call rfl rfl Try.call66 rfl rfl rfl (repeatI _ _ _ S (by omega)) (fun v18 s18 R18 => ?_) XT.stop
                obtain ⟨h18, rfl, O18⟩ := R18
                dsimp only [List.cons_append, List.nil_append]
                refine ⟨inferInstance, ?_⟩
                refine XT.q rfl rfl (Q.build [_, _, _] (.c 0 1 rfl rfl rfl (.c 1 1 rfl rfl rfl (.c 2 1 rfl rfl rfl (.n _))))) ?_
                refine XT.st rfl rfl rfl rfl rfl ⟨inferInstance, ?_⟩ XT.stop
                refine XT.done ?_
                exact mtr1 ((b3, v14, h14, v18, h18, v21, h21)) _ _ ⟨O14, O18, O21⟩ (.c rfl (.base 12 rfl rfl)) inferInstance
            · skip
              refine XT.make encI (0) rfl rfl rfl rfl rfl (by omega) (by omega) (fun _ => rfl) rfl rfl rfl (by dsimp only [encI]; infer_instance) (fun v21 h21 O21 => ⟨inferInstance, ?_⟩) XT.stop
              refine XT.call rfl rfl Try.call24 rfl rfl rfl (cloneB _ _ _ (by omega)) (fun v14 s14 R14 => ?_) XT.stop
              obtain ⟨h14, rfl, O14⟩ := R14
              dsimp only [List.cons_append, List.nil_append]
              refine ⟨inferInstance, ?_⟩
              refine XT.call rfl rfl Try.call66 rfl rfl rfl (repeatI _ _ _ S (by omega)) (fun v18 s18 R18 => ?_) XT.stop
              obtain ⟨h18, rfl, O18⟩ := R18
              dsimp only [List.cons_append, List.nil_append]
              refine ⟨inferInstance, ?_⟩
              refine XT.q rfl rfl (Q.build [_, _, _] (.c 0 1 rfl rfl rfl (.c 1 1 rfl rfl rfl (.c 2 1 rfl rfl rfl (.n _))))) ?_
              refine XT.st rfl rfl rfl rfl rfl ⟨inferInstance, ?_⟩ XT.stop
              refine XT.done ?_
              exact mtr1 ((b3, v14, h14, v18, h18, v21, h21)) _ _ ⟨O14, O18, O21⟩ (.c rfl (.base 12 rfl rfl)) inferInstance
      · skip
        refine XT.make encI (0) rfl rfl rfl rfl rfl (by omega) (by omega) (fun _ => rfl) rfl rfl rfl (by dsimp only [encI]; infer_instance) (fun v21 h21 O21 => ⟨inferInstance, ?_⟩) ?_
        · skip
          refine XT.call rfl rfl Try.call24 rfl rfl rfl (cloneB _ _ _ (by omega)) (fun v14 s14 R14 => ?_) ?_
          · skip
            obtain ⟨h14, rfl, O14⟩ := R14
            dsimp only [List.cons_append, List.nil_append]
            refine ⟨inferInstance, ?_⟩
            refine XT.lit [_] [_] [-1] encI rfl rfl (by rfl) (by rfl) rfl (by rfl) (by exact .c 0 1 rfl rfl rfl (.n _)) (fun _ => rfl) (by rfl) rfl (by infer_instance) rfl (fun v15 h15 O15 => ⟨inferInstance, ?_⟩) ?_
            · skip
              refine XT.call rfl rfl Try.call66 rfl rfl rfl (repeatI _ _ _ S (by omega)) (fun v18 s18 R18 => ?_) ?_
              · skip
                obtain ⟨h18, rfl, O18⟩ := R18
                dsimp only [List.cons_append, List.nil_append]
                refine ⟨inferInstance, ?_⟩
                refine XT.q rfl rfl (Q.build [_, _, _] (.c 0 1 rfl rfl rfl (.c 1 1 rfl rfl rfl (.c 2 1 rfl rfl rfl (.n _))))) ?_
                refine XT.alloc rfl rfl (fun b3 => ⟨inferInstance, ?_⟩) XT.stop
                refine XT.st rfl rfl rfl rfl rfl ⟨inferInstance, ?_⟩ XT.stop
                refine XT.done ?_
                exact mtr1 ((b3, v14, h14, v18, h18, v21, h21)) _ _ ⟨O14, O18, O21⟩ (.c rfl (.base 12 rfl rfl)) inferInstance
              · skip
                refine XT.alloc rfl rfl (fun b3 => ⟨inferInstance, ?_⟩) XT.stop
                refine XT.call rfl rfl Try.call66 rfl rfl rfl (repeatI _ _ _ S (by omega)) (fun v18 s18 R18 => ?_) XT.stop
                obtain ⟨h18, rfl, O18⟩ := R18
                dsimp only [List.cons_append, List.nil_append]
                refine ⟨inferInstance, ?_⟩
                refine XT.q rfl rfl (Q.build [_, _, _] (.c 0 1 rfl rfl rfl (.c 1 1 rfl rfl rfl (.c 2 1 rfl rfl rfl (.n _))))) ?_
                refine XT.st rfl rfl rfl rfl rfl ⟨inferInstance, ?_⟩ XT.stop
                refine XT.done ?_
                exact mtr1 ((b3, v14, h14, v18, h18, v21, h21)) _ _ ⟨O14, O18, O21⟩ (.c rfl (.base 12 rfl rfl)) inferInstance
            · skip
              refine XT.alloc rfl rfl (fun b3 => ⟨inferInstance, ?_⟩) XT.stop
              refine XT.lit [_] [_] [-1] encI rfl rfl (by rfl) (by rfl) rfl (by rfl) (by exact .c 0 1 rfl rfl rfl (.n _)) (fun _ => rfl) (by rfl) rfl (by infer_instance) rfl (fun v15 h15 O15 => ⟨inferInstance, ?_⟩) XT.stop
              refine XT.call rfl rfl Try.call66 rfl rfl rfl (repeatI _ _ _ S (by omega)) (fun v18 s18 R18 => ?_) XT.stop
              obtain ⟨h18, rfl, O18⟩ := R18
              dsimp only [List.cons_append, List.nil_append]
              refine ⟨inferInstance, ?_⟩
              refine XT.q rfl rfl (Q.build [_, _, _] (.c 0 1 rfl rfl rfl (.c 1 1 rfl rfl rfl (.c 2 1 rfl rfl rfl (.n _))))) ?_
              refine XT.st rfl rfl rfl rfl rfl ⟨inferInstance, ?_⟩ XT.stop
              refine XT.done ?_
              exact mtr1 ((b3, v14, h14, v18, h18, v21, h21)) _ _ ⟨O14, O18, O21⟩ (.c rfl (.base 12 rfl rfl)) inferInstance
          · skip
            refine XT.lit [_] [_] [-1] encI rfl rfl (by rfl) (by rfl) rfl (by rfl) (by exact .c 0 1 rfl rfl rfl (.n _)) (fun _ => rfl) (by rfl) rfl (by infer_instance) rfl (fun v15 h15 O15 => ⟨inferInstance, ?_⟩) ?_
            · skip
              refine XT.call rfl rfl Try.call24 rfl rfl rfl (cloneB _ _ _ (by omega)) (fun v14 s14 R14 => ?_) ?_
              · skip
                obtain ⟨h14, rfl, O14⟩ := R14
                dsimp only [List.cons_append, List.nil_append]
                refine ⟨inferInstance, ?_⟩
                refine XT.call rfl rfl Try.call66 rfl rfl rfl (repeatI _ _ _ S (by omega)) (fun v18 s18 R18 => ?_) ?_
                · skip
                  obtain ⟨h18, rfl, O18⟩ := R18
                  dsimp only [List.cons_append, List.nil_append]
                  refine ⟨inferInstance, ?_⟩
                  refine XT.q rfl rfl (Q.build [_, _, _] (.c 0 1 rfl rfl rfl (.c 1 1 rfl rfl rfl (.c 2 1 rfl rfl rfl (.n _))))) ?_
                  refine XT.alloc rfl rfl (fun b3 => ⟨inferInstance, ?_⟩) XT.stop
                  refine XT.st rfl rfl rfl rfl rfl ⟨inferInstance, ?_⟩ XT.stop
                  refine XT.done ?_
                  exact mtr1 ((b3, v14, h14, v18, h18, v21, h21)) _ _ ⟨O14, O18, O21⟩ (.c rfl (.base 12 rfl rfl)) inferInstance
                · skip
                  refine XT.alloc rfl rfl (fun b3 => ⟨inferInstance, ?_⟩) XT.stop
                  refine XT.call rfl rfl Try.call66 rfl rfl rfl (repeatI _ _ _ S (by omega)) (fun v18 s18 R18 => ?_) XT.stop
                  obtain ⟨h18, rfl, O18⟩ := R18
                  dsimp only [List.cons_append, List.nil_append]
                  refine ⟨inferInstance, ?_⟩
                  refine XT.q rfl rfl (Q.build [_, _, _] (.c 0 1 rfl rfl rfl (.c 1 1 rfl rfl rfl (.c 2 1 rfl rfl rfl (.n _))))) ?_
                  refine XT.st rfl rfl rfl rfl rfl ⟨inferInstance, ?_⟩ XT.stop
                  refine XT.done ?_
                  exact mtr1 ((b3, v14, h14, v18, h18, v21, h21)) _ _ ⟨O14, O18, O21⟩ (.c rfl (.base 12 rfl rfl)) inferInstance
              · skip
                refine XT.alloc rfl rfl (fun b3 => ⟨inferInstance, ?_⟩) XT.stop
                refine XT.call rfl rfl Try.call24 rfl rfl rfl (cloneB _ _ _ (by omega)) (fun v14 s14 R14 => ?_) XT.stop
                obtain ⟨h14, rfl, O14⟩ := R14
                dsimp only [List.cons_append, List.nil_append]
                refine ⟨inferInstance, ?_⟩
                refine XT.call rfl rfl Try.call66 rfl rfl rfl (repeatI _ _ _ S (by omega)) (fun v18 s18 R18 => ?_) XT.stop
                obtain ⟨h18, rfl, O18⟩ := R18
                dsimp only [List.cons_append, List.nil_append]
                refine ⟨inferInstance, ?_⟩
                refine XT.q rfl rfl (Q.build [_, _, _] (.c 0 1 rfl rfl rfl (.c 1 1 rfl rfl rfl (.c 2 1 rfl rfl rfl (.n _))))) ?_
                refine XT.st rfl rfl rfl rfl rfl ⟨inferInstance, ?_⟩ XT.stop
                refine XT.done ?_
                exact mtr1 ((b3, v14, h14, v18, h18, v21, h21)) _ _ ⟨O14, O18, O21⟩ (.c rfl (.base 12 rfl rfl)) inferInstance
            · skip
              refine XT.alloc rfl rfl (fun b3 => ⟨inferInstance, ?_⟩) XT.stop
              refine XT.call rfl rfl Try.call24 rfl rfl rfl (cloneB _ _ _ (by omega)) (fun v14 s14 R14 => ?_) ?_
              · skip
                obtain ⟨h14, rfl, O14⟩ := R14
                dsimp only [List.cons_append, List.nil_append]
                refine ⟨inferInstance, ?_⟩
                refine XT.lit [_] [_] [-1] encI rfl rfl (by rfl) (by rfl) rfl (by rfl) (by exact .c 0 1 rfl rfl rfl (.n _)) (fun _ => rfl) (by rfl) rfl (by infer_instance) rfl (fun v15 h15 O15 => ⟨inferInstance, ?_⟩) XT.stop
                refine XT.call rfl rfl Try.call66 rfl rfl rfl (repeatI _ _ _ S (by omega)) (fun v18 s18 R18 => ?_) XT.stop
                obtain ⟨h18, rfl, O18⟩ := R18
                dsimp only [List.cons_append, List.nil_append]
                refine ⟨inferInstance, ?_⟩
                refine XT.q rfl rfl (Q.build [_, _, _] (.c 0 1 rfl rfl rfl (.c 1 1 rfl rfl rfl (.c 2 1 rfl rfl rfl (.n _))))) ?_
                refine XT.st rfl rfl rfl rfl rfl ⟨inferInstance, ?_⟩ XT.stop
                refine XT.done ?_
                exact mtr1 ((b3, v14, h14, v18, h18, v21, h21)) _ _ ⟨O14, O18, O21⟩ (.c rfl (.base 12 rfl rfl)) inferInstance
              · skip
                refine XT.lit [_] [_] [-1] encI rfl rfl (by rfl) (by rfl) rfl (by rfl) (by exact .c 0 1 rfl rfl rfl (.n _)) (fun _ => rfl) (by rfl) rfl (by infer_instance) rfl (fun v15 h15 O15 => ⟨inferInstance, ?_⟩) XT.stop
                refine XT.call rfl rfl Try.call24 rfl rfl rfl (cloneB _ _ _ (by omega)) (fun v14 s14 R14 => ?_) XT.stop
                obtain ⟨h14, rfl, O14⟩ := R14
                dsimp only [List.cons_append, List.nil_append]
                refine ⟨inferInstance, ?_⟩
                refine XT.call rfl rfl Try.call66 rfl rfl rfl (repeatI _ _ _ S (by omega)) (fun v18 s18 R18 => ?_) XT.stop
                obtain ⟨h18, rfl, O18⟩ := R18
                dsimp only [List.cons_append, List.nil_append]
                refine ⟨inferInstance, ?_⟩
                refine XT.q rfl rfl (Q.build [_, _, _] (.c 0 1 rfl rfl rfl (.c 1 1 rfl rfl rfl (.c 2 1 rfl rfl rfl (.n _))))) ?_
                refine XT.st rfl rfl rfl rfl rfl ⟨inferInstance, ?_⟩ XT.stop
                refine XT.done ?_
                exact mtr1 ((b3, v14, h14, v18, h18, v21, h21)) _ _ ⟨O14, O18, O21⟩ (.c rfl (.base 12 rfl rfl)) inferInstance
        · skip
          refine XT.alloc rfl rfl (fun b3 => ⟨inferInstance, ?_⟩) XT.stop
          refine XT.call rfl rfl Try.call24 rfl rfl rfl (cloneB _ _ _ (by omega)) (fun v14 s14 R14 => ?_) ?_
          · skip
            obtain ⟨h14, rfl, O14⟩ := R14
            dsimp only [List.cons_append, List.nil_append]
            refine ⟨inferInstance, ?_⟩
            refine XT.lit [_] [_] [-1] encI rfl rfl (by rfl) (by rfl) rfl (by rfl) (by exact .c 0 1 rfl rfl rfl (.n _)) (fun _ => rfl) (by rfl) rfl (by infer_instance) rfl (fun v15 h15 O15 => ⟨inferInstance, ?_⟩) ?_
            · skip
              refine XT.call rfl rfl Try.call66 rfl rfl rfl (repeatI _ _ _ S (by omega)) (fun v18 s18 R18 => ?_) ?_
              · skip
                obtain ⟨h18, rfl, O18⟩ := R18
                dsimp only [List.cons_append, List.nil_append]
                refine ⟨inferInstance, ?_⟩
                refine XT.make encI (0) rfl rfl rfl rfl rfl (by omega) (by omega) (fun _ => rfl) rfl rfl rfl (by dsimp only [encI]; infer_instance) (fun v21 h21 O21 => ⟨inferInstance, ?_⟩) XT.stop
                refine XT.q rfl rfl (Q.build [_, _, _] (.c 0 1 rfl rfl rfl (.c 1 1 rfl rfl rfl (.c 2 1 rfl rfl rfl (.n _))))) ?_
                refine XT.st rfl rfl rfl rfl rfl ⟨inferInstance, ?_⟩ XT.stop
                refine XT.done ?_
                exact mtr1 ((b3, v14, h14, v18, h18, v21, h21)) _ _ ⟨O14, O18, O21⟩ (.c rfl (.base 12 rfl rfl)) inferInstance
              · skip
                refine XT.make encI (0) rfl rfl rfl rfl rfl (by omega) (by omega) (fun _ => rfl) rfl rfl rfl (by dsimp only [encI]; infer_instance) (fun v21 h21 O21 => ⟨inferInstance, ?_⟩) XT.stop
                refine XT.call rfl rfl Try.call66 rfl rfl rfl (repeatI _ _ _ S (by omega)) (fun v18 s18 R18 => ?_) XT.stop
                obtain ⟨h18, rfl, O18⟩ := R18
                dsimp only [List.cons_append, List.nil_append]
                refine ⟨inferInstance, ?_⟩
                refine XT.q rfl rfl (Q.build [_, _, _] (.c 0 1 rfl rfl rfl (.c 1 1 rfl rfl rfl (.c 2 1 rfl rfl rfl (.n _))))) ?_
                refine XT.st rfl rfl rfl rfl rfl ⟨inferInstance, ?_⟩ XT.stop
                refine XT.done ?_
                exact mtr1 ((b3, v14, h14, v18, h18, v21, h21)) _ _ ⟨O14, O18, O21⟩ (.c rfl (.base 12 rfl rfl)) inferInstance
            · skip
              refine XT.make encI (0) rfl rfl rfl rfl rfl (by omega) (by omega) (fun _ => rfl) rfl rfl rfl (by dsimp only [encI]; infer_instance) (fun v21 h21 O21 => ⟨inferInstance, ?_⟩) XT.stop
              refine XT.lit [_] [_] [-1] encI rfl rfl (by rfl) (by rfl) rfl (by rfl) (by exact .c 0 1 rfl rfl rfl (.n _)) (fun _ => rfl) (by rfl) rfl (by infer_instance) rfl (fun v15 h15 O15 => ⟨inferInstance, ?_⟩) XT.stop
              refine XT.call rfl rfl Try.call66 rfl rfl rfl (repeatI _ _ _ S (by omega)) (fun v18 s18 R18 => ?_) XT.stop
              obtain ⟨h18, rfl, O18⟩ := R18
              dsimp only [List.cons_append, List.nil_append]
              refine ⟨inferInstance, ?_⟩
              refine XT.q rfl rfl (Q.build [_, _, _] (.c 0 1 rfl rfl rfl (.c 1 1 rfl rfl rfl (.c 2 1 rfl rfl rfl (.n _))))) ?_
              refine XT.st rfl rfl rfl rfl rfl ⟨inferInstance, ?_⟩ XT.stop
              refine XT.done ?_
              exact mtr1 ((b3, v14, h14, v18, h18, v21, h21)) _ _ ⟨O14, O18, O21⟩ (.c rfl (.base 12 rfl rfl)) inferInstance
          · skip
            refine XT.lit [_] [_] [-1] encI rfl rfl (by rfl) (by rfl) rfl (by rfl) (by exact .c 0 1 rfl rfl rfl (.n _)) (fun _ => rfl) (by rfl) rfl (by infer_instance) rfl (fun v15 h15 O15 => ⟨inferInstance, ?_⟩) ?_
            · skip
              refine XT.call rfl rfl Try.call24 rfl rfl rfl (cloneB _ _ _ (by omega)) (fun v14 s14 R14 => ?_) ?_
              · skip
                obtain ⟨h14, rfl, O14⟩ := R14
                dsimp only [List.cons_append, List.nil_append]
                refine ⟨inferInstance, ?_⟩
                refine XT.call rfl rfl Try.call66 rfl rfl rfl (repeatI _ _ _ S (by omega)) (fun v18 s18 R18 => ?_) ?_
                · skip
                  obtain ⟨h18, rfl, O18⟩ := R18
                  dsimp only [List.cons_append, List.nil_append]
                  refine ⟨inferInstance, ?_⟩
                  refine XT.make encI (0) rfl rfl rfl rfl rfl (by omega) (by omega) (fun _ => rfl) rfl rfl rfl (by dsimp only [encI]; infer_instance) (fun v21 h21 O21 => ⟨inferInstance, ?_⟩) XT.stop
                  refine XT.q rfl rfl (Q.build [_, _, _] (.c 0 1 rfl rfl rfl (.c 1 1 rfl rfl rfl (.c 2 1 rfl rfl rfl (.n _))))) ?_
                  refine XT.st rfl rfl rfl rfl rfl ⟨inferInstance, ?_⟩ XT.stop
                  refine XT.done ?_
                  exact mtr1 ((b3, v14, h14, v18, h18, v21, h21)) _ _ ⟨O14, O18, O21⟩ (.c rfl (.base 12 rfl rfl)) inferInstance
                · skip
                  refine XT.make encI (0) rfl rfl rfl rfl rfl (by omega) (by omega) (fun _ => rfl) rfl rfl rfl (by dsimp only [encI]; infer_instance) (fun v21 h21 O21 => ⟨inferInstance, ?_⟩) XT.stop
                  refine XT.call rfl rfl Try.call66 rfl rfl rfl (repeatI _ _ _ S (by omega)) (fun v18 s18 R18 => ?_) XT.stop
                  obtain ⟨h18, rfl, O18⟩ := R18
                  dsimp only [List.cons_append, List.nil_append]
                  refine ⟨inferInstance, ?_⟩
                  refine XT.q rfl rfl (Q.build [_, _, _] (.c 0 1 rfl rfl rfl (.c 1 1 rfl rfl rfl (.c 2 1 rfl rfl rfl (.n _))))) ?_
                  refine XT.st rfl rfl rfl rfl rfl ⟨inferInstance, ?_⟩ XT.stop
                  refine XT.done ?_
                  exact mtr1 ((b3, v14, h14, v18, h18, v21, h21)) _ _ ⟨O14, O18, O21⟩ (.c rfl (.base 12 rfl rfl)) inferInstance
              · skip
                refine XT.make encI (0) rfl rfl rfl rfl rfl (by omega) (by omega) (fun _ => rfl) rfl rfl rfl (by dsimp only [encI]; infer_instance) (fun v21 h21 O21 => ⟨inferInstance, ?_⟩) XT.stop
                refine XT.call rfl rfl Try.call24 rfl rfl rfl (cloneB _ _ _ (by omega)) (fun v14 s14 R14 => ?_) XT.stop
                obtain ⟨h14, rfl, O14⟩ := R14
                dsimp only [List.cons_append, List.nil_append]
                refine ⟨inferInstance, ?_⟩
                refine XT.call rfl rfl Try.call66 rfl rfl rfl (repeatI _ _ _ S (by omega)) (fun v18 s18 R18 => ?_) XT.stop
                obtain ⟨h18, rfl, O18⟩ := R18
                dsimp only [List.cons_append, List.nil_append]
                refine ⟨inferInstance, ?_⟩
                refine XT.q rfl rfl (Q.build [_, _, _] (.c 0 1 rfl rfl rfl (.c 1 1 rfl rfl rfl (.c 2 1 rfl rfl rfl (.n _))))) ?_
                refine XT.st rfl rfl rfl rfl rfl ⟨inferInstance, ?_⟩ XT.stop
                refine XT.done ?_
                exact mtr1 ((b3, v14, h14, v18, h18, v21, h21)) _ _ ⟨O14, O18, O21⟩ (.c rfl (.base 12 rfl rfl)) inferInstance
            · skip
              refine XT.make encI (0) rfl rfl rfl rfl rfl (by omega) (by omega) (fun _ => rfl) rfl rfl rfl (by dsimp only [encI]; infer_instance) (fun v21 h21 O21 => ⟨inferInstance, ?_⟩) XT.stop
              refine XT.call rfl rfl Try.call24 rfl rfl rfl (cloneB _ _ _ (by omega)) (fun v14 s14 R14 => ?_) ?_
              · skip
                obtain ⟨h14, rfl, O14⟩ := R14
                dsimp only [List.cons_append, List.nil_append]
                refine ⟨inferInstance, ?_⟩
                refine XT.lit [_] [_] [-1] encI rfl rfl (by rfl) (by rfl) rfl (by rfl) (by exact .c 0 1 rfl rfl rfl (.n _)) (fun _ => rfl) (by rfl) rfl (by infer_instance) rfl (fun v15 h15 O15 => ⟨inferInstance, ?_⟩) XT.stop
                refine XT.call rfl rfl Try.call66 rfl rfl rfl (repeatI _ _ _ S (by omega)) (fun v18 s18 R18 => ?_) XT.stop
                obtain ⟨h18, rfl, O18⟩ := R18
                dsimp only [List.cons_append, List.nil_append]
                refine ⟨inferInstance, ?_⟩
                refine XT.q rfl rfl (Q.build [_, _, _] (.c 0 1 rfl rfl rfl (.c 1 1 rfl rfl rfl (.c 2 1 rfl rfl rfl (.n _))))) ?_
                refine XT.st rfl rfl rfl rfl rfl ⟨inferInstance, ?_⟩ XT.stop
                refine XT.done ?_
                exact mtr1 ((b3, v14, h14, v18, h18, v21, h21)) _ _ ⟨O14, O18, O21⟩ (.c rfl (.base 12 rfl rfl)) inferInstance
              · skip
                refine XT.lit [_] [_] [-1] encI rfl rfl (by rfl) (by rfl) rfl (by rfl) (by exact .c 0 1 rfl rfl rfl (.n _)) (fun _ => rfl) (by rfl) rfl (by infer_instance) rfl (fun v15 h15 O15 => ⟨inferInstance, ?_⟩) XT.stop
                refine XT.call rfl rfl Try.call24 rfl rfl rfl (cloneB _ _ _ (by omega)) (fun v14 s14 R14 => ?_) XT.stop
                obtain ⟨h14, rfl, O14⟩ := R14
                dsimp only [List.cons_append, List.nil_append]
                refine ⟨inferInstance, ?_⟩
                refine XT.call rfl rfl Try.call66 rfl rfl rfl (repeatI _ _ _ S (by omega)) (fun v18 s18 R18 => ?_) XT.stop
                obtain ⟨h18, rfl, O18⟩ := R18
                dsimp only [List.cons_append, List.nil_append]
                refine ⟨inferInstance, ?_⟩
                refine XT.q rfl rfl (Q.build [_, _, _] (.c 0 1 rfl rfl rfl (.c 1 1 rfl rfl rfl (.c 2 1 rfl rfl rfl (.n _))))) ?_
                refine XT.st rfl rfl rfl rfl rfl ⟨inferInstance, ?_⟩ XT.stop
                refine XT.done ?_
                exact mtr1 ((b3, v14, h14, v18, h18, v21, h21)) _ _ ⟨O14, O18, O21⟩ (.c rfl (.base 12 rfl rfl)) inferInstance
end Go.X
