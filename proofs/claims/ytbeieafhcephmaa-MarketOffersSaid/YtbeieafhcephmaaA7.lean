/- A part of the proof: a small program logic, plain laws and contracts of functions, each proved by a walk through its operations. No condition but those that stand in each theorem. -/
import Derived.Test.YtbeieafhcephmaaA6
set_option linter.unusedSimpArgs false
set_option linter.unusedVariables false
set_option maxRecDepth 20000
namespace Go.X
open Go.Proofs
theorem equalH_eq (x y : KHour) : (!(decide (x.buy = y.buy) && (decide (x.sell = y.sell) && (decide (x.sun = y.sun) && (decide (x.load = y.load) && (decide (x.carbon = y.carbon) && (decide (x.water = y.water) && true))))))) = decide (¬ x = y) := by
  cases x; cases y
  rw [Bool.eq_iff_iff]
  simp
theorem equalH (v1 v2 : Value) (h1 h2 : PHeap) (xs ys : List KHour) [s1 : Arr v1 encHour 6 h1 xs] [s2 : Arr v2 encHour 6 h2 ys] :
    Spec Try.prog 87 #[v1, v2] [] [h1, h2] (fun v hs => v = .bool (decide (xs = ys)) ∧ hs = []) := by
  refine Spec.intro (fn := Try.f87) (N := 26) Try.func87 rfl Try.ntmps87 rfl fun B => ?_
  refine XK.seq ?_
  refine XK.region rfl ?_
  refine XO.q (Q.assign rfl) ?_
  refine XO.done ?_
  refine XK.seq ?_
  refine XK.seq ?_
  refine XK.region rfl ?_
  refine XO.q (Q.move rfl) ?_
  refine XO.len rfl fun l7 => ?_
  refine XO.q (Q.move rfl) ?_
  refine XO.len rfl fun l9 => ?_
  refine XO.q (Q.neq rfl rfl) ?_
  refine XO.done ?_
  refine XK.if rfl (fun c0 => ?_) (fun c0 => ?_)
  · have _t0 := True.intro
    refine XK.seq ?_
    refine XK.region rfl ?_
    refine XO.q (Q.assign rfl) ?_
    refine XO.done ?_
    refine XK.rt [] Try.func87 Try.results87 (.t rfl .n) ?_
    exact ⟨by rw [decide_eq_false (fun h => c0 (by rw [h]))], rfl⟩
  · have _t0 := True.intro
    refine XK.skip ?_
    refine XK.seq ?_
    refine XK.seq ?_
    refine XK.region rfl ?_
    refine XO.q (Q.move rfl) ?_
    refine XO.len rfl fun l12 => ?_
    refine XO.q (Q.move rfl) ?_
    refine XO.done ?_
    refine XK.block ?_
    refine XK.while (X := Nat) [4, 5, 13, 14, 15, 16, 17, 18, 19, 20, 21, 22, 23, 24, 25] (fun i => [(13, some (.int .i64 (i : Nat)))]) (fun i => []) (fun i => i ≤ xs.length ∧ xs.take i = ys.take i) (fun i => xs.length - i) (0) [] rfl ⟨by omega, rfl⟩ (.c rfl (.base 0 rfl rfl)) ?_
    rintro i ⟨hi, ht⟩ ih0
    dsimp only [List.cons_append, List.nil_append] at ih0 ⊢
    refine XK.seq ?_
    refine XK.region rfl ?_
    refine XO.q (Q.lss rfl rfl) ?_
    refine XO.done ?_
    refine XK.seq ?_
    refine XK.if rfl (fun c1 => ?_) (fun c1 => ?_)
    · have _t1 := True.intro
      refine XK.skip ?_
      refine XK.seq ?_
      refine XK.block ?_
      refine XK.seq ?_
      refine XK.region rfl ?_
      refine XO.q (Q.move rfl) ?_
      refine XO.q (Q.assign rfl) ?_
      refine XO.done ?_
      refine XK.seq ?_
      refine XK.drawn [0, 1, 2, 3, 4, 5, 6, 7, 8] [] [] (.q 0 (.q 1 (.q 2 (.q 3 (.q 4 (.q 5 (.q 6 (.q 7 (.q 8 .done))))))))) Try.mixed rfl (by kernel_rfl) ?_
      refine XT.q rfl rfl (Q.move rfl) ?_
      refine XT.q rfl rfl (Q.move rfl) ?_
      refine XT.ix rfl rfl rfl rfl (by omega) (by omega) fun i18 => ?_
      refine XT.q rfl rfl (Q.ldEA [_, _, _, _, _, _] rfl (by first | assumption | omega) rfl rfl) ?_
      refine XT.q rfl rfl (Q.move rfl) ?_
      refine XT.q rfl rfl (Q.move rfl) ?_
      refine XT.ix rfl rfl rfl rfl (by omega) (by omega) fun i22 => ?_
      refine XT.q rfl rfl (Q.ldEA [_, _, _, _, _, _] rfl (by first | assumption | omega) rfl rfl) ?_
      refine XT.q rfl rfl (Q.neqS (us := [_, _, _, _, _, _]) (vs := [_, _, _, _, _, _]) rfl rfl inferInstance (by kernel_rfl) (by kernel_rfl) (.c rfl inferInstance inferInstance rfl rfl (.c rfl inferInstance inferInstance rfl rfl (.c rfl inferInstance inferInstance rfl rfl (.c rfl inferInstance inferInstance rfl rfl (.c rfl inferInstance inferInstance rfl rfl (.c rfl inferInstance inferInstance rfl rfl .n))))))) ?_
      rw [equalH_eq]
      refine XT.done ?_
      refine XK.if rfl (fun c2 => ?_) (fun c2 => ?_)
      · have _t2 := True.intro
        refine XK.seq ?_
        refine XK.region rfl ?_
        refine XO.q (Q.assign rfl) ?_
        refine XO.done ?_
        refine XK.rt [] Try.func87 Try.results87 (.t rfl .n) ?_
        exact ⟨by rw [decide_eq_false (fun h => c2 (by rw [h]))], rfl⟩
      · have _t2 := True.intro
        refine XK.skip ?_
        refine XK.inBlock ?_
        refine XK.region rfl ?_
        refine XO.q (Q.add rfl rfl ⟨by omega, by omega⟩) ?_
        refine XO.q (Q.move rfl) ?_
        refine XO.done ?_
        exact ih0 (i + 1) _ _ ⟨by omega, take_step ht (by omega) (by omega) (Decidable.of_not_not c2)⟩ (by first | omega | (dsimp only; omega)) (.c rfl (.base 30 rfl rfl)) inferInstance
    · have _t1 := True.intro
      refine XK.exit rfl ?_
      refine XK.seq ?_
      refine XK.region rfl ?_
      refine XO.q (Q.assign rfl) ?_
      refine XO.done ?_
      refine XK.rt [] Try.func87 Try.results87 (.t rfl .n) ?_
      exact ⟨by rw [decide_eq_true (take_all ht c1 (by omega))], rfl⟩
theorem equalJ_eq (x y : KJob) : (!(decide (x.beg = y.beg) && (decide (x.fin = y.fin) && (decide (x.hours = y.hours) && (decide (x.power = y.power) && true))))) = decide (¬ x = y) := by
  cases x; cases y
  rw [Bool.eq_iff_iff]
  simp
theorem equalJ (v1 v2 : Value) (h1 h2 : PHeap) (xs ys : List KJob) [s1 : Arr v1 encJob 4 h1 xs] [s2 : Arr v2 encJob 4 h2 ys] :
    Spec Try.prog 88 #[v1, v2] [] [h1, h2] (fun v hs => v = .bool (decide (xs = ys)) ∧ hs = []) := by
  refine Spec.intro (fn := Try.f88) (N := 26) Try.func88 rfl Try.ntmps88 rfl fun B => ?_
  refine XK.seq ?_
  refine XK.region rfl ?_
  refine XO.q (Q.assign rfl) ?_
  refine XO.done ?_
  refine XK.seq ?_
  refine XK.seq ?_
  refine XK.region rfl ?_
  refine XO.q (Q.move rfl) ?_
  refine XO.len rfl fun l7 => ?_
  refine XO.q (Q.move rfl) ?_
  refine XO.len rfl fun l9 => ?_
  refine XO.q (Q.neq rfl rfl) ?_
  refine XO.done ?_
  refine XK.if rfl (fun c0 => ?_) (fun c0 => ?_)
  · have _t0 := True.intro
    refine XK.seq ?_
    refine XK.region rfl ?_
    refine XO.q (Q.assign rfl) ?_
    refine XO.done ?_
    refine XK.rt [] Try.func88 Try.results88 (.t rfl .n) ?_
    exact ⟨by rw [decide_eq_false (fun h => c0 (by rw [h]))], rfl⟩
  · have _t0 := True.intro
    refine XK.skip ?_
    refine XK.seq ?_
    refine XK.seq ?_
    refine XK.region rfl ?_
    refine XO.q (Q.move rfl) ?_
    refine XO.len rfl fun l12 => ?_
    refine XO.q (Q.move rfl) ?_
    refine XO.done ?_
    refine XK.block ?_
    refine XK.while (X := Nat) [4, 5, 13, 14, 15, 16, 17, 18, 19, 20, 21, 22, 23, 24, 25] (fun i => [(13, some (.int .i64 (i : Nat)))]) (fun i => []) (fun i => i ≤ xs.length ∧ xs.take i = ys.take i) (fun i => xs.length - i) (0) [] rfl ⟨by omega, rfl⟩ (.c rfl (.base 0 rfl rfl)) ?_
    rintro i ⟨hi, ht⟩ ih0
    dsimp only [List.cons_append, List.nil_append] at ih0 ⊢
    refine XK.seq ?_
    refine XK.region rfl ?_
    refine XO.q (Q.lss rfl rfl) ?_
    refine XO.done ?_
    refine XK.seq ?_
    refine XK.if rfl (fun c1 => ?_) (fun c1 => ?_)
    · have _t1 := True.intro
      refine XK.skip ?_
      refine XK.seq ?_
      refine XK.block ?_
      refine XK.seq ?_
      refine XK.region rfl ?_
      refine XO.q (Q.move rfl) ?_
      refine XO.q (Q.assign rfl) ?_
      refine XO.done ?_
      refine XK.seq ?_
      refine XK.drawn [0, 1, 2, 3, 4, 5, 6, 7, 8] [] [] (.q 0 (.q 1 (.q 2 (.q 3 (.q 4 (.q 5 (.q 6 (.q 7 (.q 8 .done))))))))) Try.mixed rfl (by kernel_rfl) ?_
      refine XT.q rfl rfl (Q.move rfl) ?_
      refine XT.q rfl rfl (Q.move rfl) ?_
      refine XT.ix rfl rfl rfl rfl (by omega) (by omega) fun i18 => ?_
      refine XT.q rfl rfl (Q.ldEA [_, _, _, _] rfl (by first | assumption | omega) rfl rfl) ?_
      refine XT.q rfl rfl (Q.move rfl) ?_
      refine XT.q rfl rfl (Q.move rfl) ?_
      refine XT.ix rfl rfl rfl rfl (by omega) (by omega) fun i22 => ?_
      refine XT.q rfl rfl (Q.ldEA [_, _, _, _] rfl (by first | assumption | omega) rfl rfl) ?_
      refine XT.q rfl rfl (Q.neqS (us := [_, _, _, _]) (vs := [_, _, _, _]) rfl rfl inferInstance (by kernel_rfl) (by kernel_rfl) (.c rfl inferInstance inferInstance rfl rfl (.c rfl inferInstance inferInstance rfl rfl (.c rfl inferInstance inferInstance rfl rfl (.c rfl inferInstance inferInstance rfl rfl .n))))) ?_
      rw [equalJ_eq]
      refine XT.done ?_
      refine XK.if rfl (fun c2 => ?_) (fun c2 => ?_)
      · have _t2 := True.intro
        refine XK.seq ?_
        refine XK.region rfl ?_
        refine XO.q (Q.assign rfl) ?_
        refine XO.done ?_
        refine XK.rt [] Try.func88 Try.results88 (.t rfl .n) ?_
        exact ⟨by rw [decide_eq_false (fun h => c2 (by rw [h]))], rfl⟩
      · have _t2 := True.intro
        refine XK.skip ?_
        refine XK.inBlock ?_
        refine XK.region rfl ?_
        refine XO.q (Q.add rfl rfl ⟨by omega, by omega⟩) ?_
        refine XO.q (Q.move rfl) ?_
        refine XO.done ?_
        exact ih0 (i + 1) _ _ ⟨by omega, take_step ht (by omega) (by omega) (Decidable.of_not_not c2)⟩ (by first | omega | (dsimp only; omega)) (.c rfl (.base 30 rfl rfl)) inferInstance
    · have _t1 := True.intro
      refine XK.exit rfl ?_
      refine XK.seq ?_
      refine XK.region rfl ?_
      refine XO.q (Q.assign rfl) ?_
      refine XO.done ?_
      refine XK.rt [] Try.func88 Try.results88 (.t rfl .n) ?_
      exact ⟨by rw [decide_eq_true (take_all ht c1 (by omega))], rfl⟩
set_option maxHeartbeats 2000000 in
theorem copied_spec (d : KDay) (vh vj : Value) (hh hj : PHeap) [ih : Arr vh encHour 6 hh d.hours] [ij : Arr vj encJob 4 hj d.jobs] (nh : d.hours.length ≤ 1000) (nj : d.jobs.length ≤ 1000) : Spec Try.prog 35 #[.agg #[vh, .int .i64 d.store.energy, .int .i64 d.store.full, .int .i64 d.store.power, .int .i64 d.store.fin, vj, .int .i64 d.most, .int .i64 d.peak]] [] [hh, hj] (fun v hs => ∃ a1 a2 a3 a4 k1 k2 k3 k4, v = .tuple #[.agg #[a1, .int .i64 d.store.energy, .int .i64 d.store.full, .int .i64 d.store.power, .int .i64 d.store.fin, a2, .int .i64 d.most, .int .i64 d.peak], .agg #[a3, .int .i64 d.store.energy, .int .i64 d.store.full, .int .i64 d.store.power, .int .i64 d.store.fin, a4, .int .i64 d.most, .int .i64 d.peak]] ∧ hs = [k1, k2, k3, k4] ∧ OArr a1 encHour 6 39 k1 d.hours ∧ OArr a2 encJob 4 77 k2 d.jobs ∧ OArr a3 encHour 6 147 k3 d.hours ∧ OArr a4 encJob 4 148 k4 d.jobs) := by
  have nB : OArr (.slice none 0 0) encHour 6 147 emp ([] : List KHour) := OArr.nil (fun _ => rfl)
  have nG : OArr (.slice none 0 0) encJob 4 148 emp ([] : List KJob) := OArr.nil (fun _ => rfl)
  refine Spec.intro (fn := Try.f35) (N := 60) Try.func35 rfl Try.ntmps35 rfl fun B => ?_
  refine XK.seq ?_
  refine XK.region rfl ?_
  refine XO.box rfl fun b1 => ?_
  refine XO.alloc fun b2 => ?_
  refine XO.alloc fun b3 => ?_
  refine XO.done ?_
  refine XK.seq ?_
  refine XK.meet (X := Nat × Value × Value × PHeap × PHeap) [4, 10, 11, 12, 13, 14, 15, 16, 17, 18, 19, 20, 21, 22] (fun ⟨b4, v12, v17, k12, k17⟩ => [(4, some (ptr b4 0))]) (fun ⟨b4, v12, v17, k12, k17⟩ => [blk b4 [v12, .int .i64 d.store.energy, .int .i64 d.store.full, .int .i64 d.store.power, .int .i64 d.store.fin, v17, .int .i64 d.most, .int .i64 d.peak] 28, k12, k17]) (fun ⟨b4, v12, v17, k12, k17⟩ => OArr v12 encHour 6 39 k12 d.hours ∧ OArr v17 encJob 4 77 k17 d.jobs) [] ?_ ?_
  · rintro ⟨b4, v12, v17, k12, k17⟩ ⟨O12, O17⟩
    dsimp only [List.cons_append, List.nil_append]
    refine XK.seq ?_
    refine XK.region rfl ?_
    refine XO.q (Q.fieldAddr rfl) ?_
    refine XO.q (Q.ldA [_, _, _, _] rfl rfl rfl) ?_
    refine XO.q (Q.fieldAddr rfl) ?_
    refine XO.q (Q.ld rfl rfl) ?_
    refine XO.q (Q.fieldAddr rfl) ?_
    refine XO.q (Q.ld rfl rfl) ?_
    refine XO.q (Q.build [_, _, _, _, _, _, _, _] (.c 1 4 rfl rfl rfl (.c 6 1 rfl rfl rfl (.c 7 1 rfl rfl rfl (.n _))))) ?_
    refine XO.alloc fun b5 => ?_
    refine XO.st rfl rfl rfl ?_
    refine XO.done ?_
    refine XK.seq ?_
    refine XK.seq ?_
    refine XK.region rfl ?_
    refine XO.q (Q.fieldAddr rfl) ?_
    refine XO.q (Q.ld rfl rfl) ?_
    refine XO.len rfl fun l32 => ?_
    refine XO.q (Q.move rfl) ?_
    refine XO.done ?_
    refine XK.block ?_
    refine XK.while (X := Nat × Value × PHeap) [7, 33, 34, 35, 36, 37, 38, 39, 40, 41, 42, 43] (fun ⟨i, w, k⟩ => [(33, some (.int .i64 (i : Nat)))]) (fun ⟨i, w, k⟩ => [blk b5 [w, .int .i64 d.store.energy, .int .i64 d.store.full, .int .i64 d.store.power, .int .i64 d.store.fin, .slice none 0 0, .int .i64 d.most, .int .i64 d.peak] 91, k]) (fun ⟨i, w, k⟩ => i ≤ d.hours.length ∧ OArr w encHour 6 147 k (d.hours.take i)) (fun ⟨i, w, k⟩ => d.hours.length - i) (0, .slice none 0 0, emp) [blk b5 [.slice none 0 0, .int .i64 d.store.energy, .int .i64 d.store.full, .int .i64 d.store.power, .int .i64 d.store.fin, .slice none 0 0, .int .i64 d.most, .int .i64 d.peak] 91, emp] rfl ⟨by omega, nB⟩ (.c rfl (.base 0 rfl rfl)) ?_
    rintro ⟨i, w, k⟩ ⟨hi, OB⟩ ih0
    dsimp only [List.cons_append, List.nil_append] at ih0 ⊢
    have el : (d.hours.take i).length = i := by rw [List.length_take]; omega
    refine XK.seq ?_
    refine XK.region rfl ?_
    refine XO.q (Q.lss rfl rfl) ?_
    refine XO.done ?_
    refine XK.seq ?_
    refine XK.if rfl (fun c0 => ?_) (fun c0 => ?_)
    · have _t0 := True.intro
      refine XK.skip ?_
      refine XK.seq ?_
      refine XK.block ?_
      refine XK.seq ?_
      refine XK.region rfl ?_
      refine XO.ix rfl rfl (by omega) (by omega) fun i35 => ?_
      refine XO.q (Q.ldEA [_, _, _, _, _, _] rfl (by first | assumption | omega) rfl rfl) ?_
      refine XO.alloc fun b7 => ?_
      refine XO.st rfl rfl rfl ?_
      refine XO.done ?_
      refine XK.region rfl ?_
      refine XO.q (Q.fieldAddr rfl) ?_
      refine XO.q (Q.ld rfl rfl) ?_
      refine XO.q (Q.ldA [_, _, _, _, _, _] rfl rfl rfl) ?_
      refine XO.lit [_, _, _, _, _, _] [_, _, _, _, _, _] [d.hours.getD i default] encHour (by rfl) (by rfl) rfl (by rfl) (by exact .c 0 6 rfl rfl rfl (.n _)) (fun _ => rfl) (by rfl) rfl (by infer_instance) rfl fun v40 h40 O40 => ?_
      refine XO.append rfl rfl rfl rfl (by simp only [List.length_cons, List.length_nil]; omega) fun v41 h41 O41 => ?_
      refine XO.q (Q.fieldAddr rfl) ?_
      refine XO.st rfl rfl rfl ?_
      refine XO.done ?_
      refine XK.inBlock ?_
      refine XK.region rfl ?_
      refine XO.q (Q.add rfl rfl ⟨by omega, by omega⟩) ?_
      refine XO.q (Q.move rfl) ?_
      refine XO.done ?_
      exact ih0 (i + 1, v41, h41) _ _ ⟨by dsimp only; omega, by dsimp only; rw [take_snocK (by omega)]; exact O41⟩ (by first | omega | (dsimp only; omega)) (.c rfl (.base 25 rfl rfl)) inferInstance
    · have _t0 := True.intro
      have hil : i = d.hours.length := by omega
      subst hil
      rw [List.take_length] at OB
      clear ih0
      refine XK.exit rfl ?_
      refine XK.seq ?_
      refine XK.seq ?_
      refine XK.region rfl ?_
      refine XO.q (Q.fieldAddr rfl) ?_
      refine XO.q (Q.ld rfl rfl) ?_
      refine XO.len rfl fun l46 => ?_
      refine XO.q (Q.move rfl) ?_
      refine XO.done ?_
      refine XK.block ?_
      refine XK.while (X := Nat × Value × PHeap) [9, 47, 48, 49, 50, 51, 52, 53, 54, 55, 56, 57] (fun ⟨i, w2, k2⟩ => [(47, some (.int .i64 (i : Nat)))]) (fun ⟨i, w2, k2⟩ => [blk b5 [w, .int .i64 d.store.energy, .int .i64 d.store.full, .int .i64 d.store.power, .int .i64 d.store.fin, w2, .int .i64 d.most, .int .i64 d.peak] 91, k2]) (fun ⟨i, w2, k2⟩ => i ≤ d.jobs.length ∧ OArr w2 encJob 4 148 k2 (d.jobs.take i)) (fun ⟨i, w2, k2⟩ => d.jobs.length - i) (0, .slice none 0 0, emp) [blk b5 [w, .int .i64 d.store.energy, .int .i64 d.store.full, .int .i64 d.store.power, .int .i64 d.store.fin, .slice none 0 0, .int .i64 d.most, .int .i64 d.peak] 91, emp] rfl ⟨by omega, nG⟩ (.c rfl (.base 0 rfl rfl)) ?_
      rintro ⟨i, w2, k2⟩ ⟨hi, OG⟩ ih1
      dsimp only [List.cons_append, List.nil_append] at ih1 ⊢
      have el : (d.jobs.take i).length = i := by rw [List.length_take]; omega
      refine XK.seq ?_
      refine XK.region rfl ?_
      refine XO.q (Q.lss rfl rfl) ?_
      refine XO.done ?_
      refine XK.seq ?_
      refine XK.if rfl (fun c1 => ?_) (fun c1 => ?_)
      · have _t1 := True.intro
        refine XK.skip ?_
        refine XK.seq ?_
        refine XK.block ?_
        refine XK.seq ?_
        refine XK.region rfl ?_
        refine XO.ix rfl rfl (by omega) (by omega) fun i49 => ?_
        refine XO.q (Q.ldEA [_, _, _, _] rfl (by first | assumption | omega) rfl rfl) ?_
        refine XO.alloc fun b9 => ?_
        refine XO.st rfl rfl rfl ?_
        refine XO.done ?_
        refine XK.region rfl ?_
        refine XO.q (Q.fieldAddr rfl) ?_
        refine XO.q (Q.ld rfl rfl) ?_
        refine XO.q (Q.ldA [_, _, _, _] rfl rfl rfl) ?_
        refine XO.lit [_, _, _, _] [_, _, _, _] [d.jobs.getD i default] encJob (by rfl) (by rfl) rfl (by rfl) (by exact .c 0 4 rfl rfl rfl (.n _)) (fun _ => rfl) (by rfl) rfl (by infer_instance) rfl fun v54 h54 O54 => ?_
        refine XO.append rfl rfl rfl rfl (by simp only [List.length_cons, List.length_nil]; omega) fun v55 h55 O55 => ?_
        refine XO.q (Q.fieldAddr rfl) ?_
        refine XO.st rfl rfl rfl ?_
        refine XO.done ?_
        refine XK.inBlock ?_
        refine XK.region rfl ?_
        refine XO.q (Q.add rfl rfl ⟨by omega, by omega⟩) ?_
        refine XO.q (Q.move rfl) ?_
        refine XO.done ?_
        exact ih1 (i + 1, v55, h55) _ _ ⟨by dsimp only; omega, by dsimp only; rw [take_snocK (by omega)]; exact O55⟩ (by first | omega | (dsimp only; omega)) (.c rfl (.base 25 rfl rfl)) inferInstance
      · have _t1 := True.intro
        refine XK.exit rfl ?_
        refine XK.seq ?_
        refine XK.drawn [0, 1] [b4, b5] [] (.q 0 (.q 1 (.br 2 true (.br 3 false .done .stop) .stop))) Try.mixed rfl (by kernel_rfl) ?_
        refine XT.q rfl rfl (Q.ldA [_, _, _, _, _, _, _, _] rfl rfl rfl) ?_
        refine XT.q rfl rfl (Q.ldA [_, _, _, _, _, _, _, _] rfl rfl rfl) ?_
        refine XT.st rfl rfl rfl rfl rfl ⟨inferInstance, ?_⟩ XT.stop
        refine XT.st rfl rfl rfl rfl rfl ⟨inferInstance, ?_⟩ XT.stop
        refine XT.done ?_
        refine XK.rt [k12, k17, k, k2] Try.func35 Try.results35 (.cell [_, _, _, _, _, _, _, _] rfl rfl rfl (.cell [_, _, _, _, _, _, _, _] rfl rfl rfl (.n))) ?_
        have hil : i = d.jobs.length := by omega
        subst hil
        rw [List.take_length] at OG
        exact ⟨v12, v17, w, w2, k12, k17, k, k2, rfl, rfl, O12, O17, OB, OG⟩
  · intro mtr1
    dsimp only [List.cons_append, List.nil_append] at mtr1
    refine XK.drawn [0, 1, 3, 4, 5, 6, 8, 9, 10, 11, 12] [b1] [] (.q 0 (.q 1 (.q 3 (.q 4 (.q 5 (.q 6 (.q 8 (.q 9 (.q 10 (.q 11 (.br 2 true (.br 7 true (.q 12 (.br 13 true (.br 14 false .done .stop) .stop)) (.br 13 true (.br 7 true (.q 12 (.br 14 false .done .stop)) .stop) .stop)) (.br 13 true (.br 2 true (.br 7 true (.q 12 (.br 14 false .done .stop)) .stop) .stop) .stop)))))))))))) Try.mixed rfl (by kernel_rfl) ?_
    refine XT.q rfl rfl (Q.fieldAddr rfl) ?_
    refine XT.q rfl rfl (Q.ld rfl rfl) ?_
    refine XT.q rfl rfl (Q.fieldAddr rfl) ?_
    refine XT.q rfl rfl (Q.ldA [_, _, _, _] rfl rfl rfl) ?_
    refine XT.q rfl rfl (Q.fieldAddr rfl) ?_
    refine XT.q rfl rfl (Q.ld rfl rfl) ?_
    refine XT.q rfl rfl (Q.fieldAddr rfl) ?_
    refine XT.q rfl rfl (Q.ld rfl rfl) ?_
    refine XT.q rfl rfl (Q.fieldAddr rfl) ?_
    refine XT.q rfl rfl (Q.ld rfl rfl) ?_
    refine XT.call rfl rfl Try.call11 rfl rfl rfl (cloneH vh hh d.hours (by omega)) (fun v12 s12 R12 => ?_) ?_
    · skip
      obtain ⟨k12, rfl, O12⟩ := R12
      dsimp only [List.cons_append, List.nil_append]
      refine ⟨inferInstance, ?_⟩
      refine XT.call rfl rfl Try.call80 rfl rfl rfl (cloneJ vj hj d.jobs (by omega)) (fun v17 s17 R17 => ?_) ?_
      · skip
        obtain ⟨k17, rfl, O17⟩ := R17
        dsimp only [List.cons_append, List.nil_append]
        refine ⟨inferInstance, ?_⟩
        refine XT.q rfl rfl (Q.build [_, _, _, _, _, _, _, _] (.c 0 1 rfl rfl rfl (.c 1 4 rfl rfl rfl (.c 5 1 rfl rfl rfl (.c 6 1 rfl rfl rfl (.c 7 1 rfl rfl rfl (.n _))))))) ?_
        refine XT.alloc rfl rfl (fun b4 => ⟨inferInstance, ?_⟩) XT.stop
        refine XT.st rfl rfl rfl rfl rfl ⟨inferInstance, ?_⟩ XT.stop
        refine XT.done ?_
        exact mtr1 ((b4, v12, v17, k12, k17)) _ _ ⟨O12, O17⟩ (.c rfl (.base 14 rfl rfl)) inferInstance
      · skip
        refine XT.alloc rfl rfl (fun b4 => ⟨inferInstance, ?_⟩) XT.stop
        refine XT.call rfl rfl Try.call80 rfl rfl rfl (cloneJ vj hj d.jobs (by omega)) (fun v17 s17 R17 => ?_) XT.stop
        obtain ⟨k17, rfl, O17⟩ := R17
        dsimp only [List.cons_append, List.nil_append]
        refine ⟨inferInstance, ?_⟩
        refine XT.q rfl rfl (Q.build [_, _, _, _, _, _, _, _] (.c 0 1 rfl rfl rfl (.c 1 4 rfl rfl rfl (.c 5 1 rfl rfl rfl (.c 6 1 rfl rfl rfl (.c 7 1 rfl rfl rfl (.n _))))))) ?_
        refine XT.st rfl rfl rfl rfl rfl ⟨inferInstance, ?_⟩ XT.stop
        refine XT.done ?_
        exact mtr1 ((b4, v12, v17, k12, k17)) _ _ ⟨O12, O17⟩ (.c rfl (.base 14 rfl rfl)) inferInstance
    · skip
      refine XT.alloc rfl rfl (fun b4 => ⟨inferInstance, ?_⟩) XT.stop
      refine XT.call rfl rfl Try.call11 rfl rfl rfl (cloneH vh hh d.hours (by omega)) (fun v12 s12 R12 => ?_) XT.stop
      obtain ⟨k12, rfl, O12⟩ := R12
      dsimp only [List.cons_append, List.nil_append]
      refine ⟨inferInstance, ?_⟩
      refine XT.call rfl rfl Try.call80 rfl rfl rfl (cloneJ vj hj d.jobs (by omega)) (fun v17 s17 R17 => ?_) XT.stop
      obtain ⟨k17, rfl, O17⟩ := R17
      dsimp only [List.cons_append, List.nil_append]
      refine ⟨inferInstance, ?_⟩
      refine XT.q rfl rfl (Q.build [_, _, _, _, _, _, _, _] (.c 0 1 rfl rfl rfl (.c 1 4 rfl rfl rfl (.c 5 1 rfl rfl rfl (.c 6 1 rfl rfl rfl (.c 7 1 rfl rfl rfl (.n _))))))) ?_
      refine XT.st rfl rfl rfl rfl rfl ⟨inferInstance, ?_⟩ XT.stop
      refine XT.done ?_
      exact mtr1 ((b4, v12, v17, k12, k17)) _ _ ⟨O12, O17⟩ (.c rfl (.base 14 rfl rfl)) inferInstance
set_option maxHeartbeats 2000000 in
theorem planned_spec (p : KPlan) (vs vc : Value) (hs_ hc : PHeap) [js : Arr vs encI 1 hs_ p.starts] [jc : Arr vc encI 1 hc p.charge] (ns : p.starts.length ≤ 1000) (nc : p.charge.length ≤ 1000) : Spec Try.prog 36 #[.agg #[vs, vc, .int .i64 p.cost]] [] [hs_, hc] (fun v hs => ∃ a1 a2 a3 a4 k1 k2 k3 k4, v = .tuple #[.agg #[a1, a2, .int .i64 p.cost], .agg #[a3, a4, .int .i64 p.cost]] ∧ hs = [k1, k2, k3, k4] ∧ OArr a1 encI 1 3 k1 p.starts ∧ OArr a2 encI 1 3 k2 p.charge ∧ OArr a3 encI 1 3 k3 p.starts ∧ OArr a4 encI 1 3 k4 p.charge) := by
  refine Spec.intro (fn := Try.f36) (N := 22) Try.func36 rfl Try.ntmps36 rfl fun B => ?_
  refine XK.seq ?_
  refine XK.region rfl ?_
  refine XO.box rfl fun b1 => ?_
  refine XO.alloc fun b2 => ?_
  refine XO.alloc fun b3 => ?_
  refine XO.done ?_
  refine XK.seq ?_
  refine XK.drawn [0, 1, 3, 4, 6, 7, 9, 10, 12, 13, 15, 16, 8, 17] [b1] [] (.q 0 (.q 1 (.q 3 (.q 4 (.q 6 (.q 7 (.q 9 (.q 10 (.q 12 (.q 13 (.q 15 (.q 16 (.br 2 true (.br 5 true (.q 8 (.br 11 true (.br 14 true (.q 17 (.br 18 true (.br 19 false .done .stop) .stop)) .stop) .stop)) .stop) .stop))))))))))))) Try.mixed rfl (by kernel_rfl) ?_
  refine XT.q rfl rfl (Q.fieldAddr rfl) ?_
  refine XT.q rfl rfl (Q.ld rfl rfl) ?_
  refine XT.q rfl rfl (Q.fieldAddr rfl) ?_
  refine XT.q rfl rfl (Q.ld rfl rfl) ?_
  refine XT.q rfl rfl (Q.fieldAddr rfl) ?_
  refine XT.q rfl rfl (Q.ld rfl rfl) ?_
  refine XT.q rfl rfl (Q.fieldAddr rfl) ?_
  refine XT.q rfl rfl (Q.ld rfl rfl) ?_
  refine XT.q rfl rfl (Q.fieldAddr rfl) ?_
  refine XT.q rfl rfl (Q.ld rfl rfl) ?_
  refine XT.q rfl rfl (Q.fieldAddr rfl) ?_
  refine XT.q rfl rfl (Q.ld rfl rfl) ?_
  refine XT.call rfl rfl Try.call39 rfl rfl rfl (cloneI vs hs_ p.starts (by omega)) (fun v6 s6 R6 => ?_) XT.stop
  obtain ⟨k6, rfl, O6⟩ := R6
  dsimp only [List.cons_append, List.nil_append]
  refine ⟨inferInstance, ?_⟩
  refine XT.call rfl rfl Try.call39 rfl rfl rfl (cloneI vc hc p.charge (by omega)) (fun v9 s9 R9 => ?_) XT.stop
  obtain ⟨k9, rfl, O9⟩ := R9
  dsimp only [List.cons_append, List.nil_append]
  refine ⟨inferInstance, ?_⟩
  refine XT.q rfl rfl (Q.build [_, _, _] (.c 0 1 rfl rfl rfl (.c 1 1 rfl rfl rfl (.c 2 1 rfl rfl rfl (.n _))))) ?_
  refine XT.call rfl rfl Try.call39 rfl rfl rfl (cloneI vs hs_ p.starts (by omega)) (fun v15 s15 R15 => ?_) XT.stop
  obtain ⟨k15, rfl, O15⟩ := R15
  dsimp only [List.cons_append, List.nil_append]
  refine ⟨inferInstance, ?_⟩
  refine XT.call rfl rfl Try.call39 rfl rfl rfl (cloneI vc hc p.charge (by omega)) (fun v18 s18 R18 => ?_) XT.stop
  obtain ⟨k18, rfl, O18⟩ := R18
  dsimp only [List.cons_append, List.nil_append]
  refine ⟨inferInstance, ?_⟩
  refine XT.q rfl rfl (Q.build [_, _, _] (.c 0 1 rfl rfl rfl (.c 1 1 rfl rfl rfl (.c 2 1 rfl rfl rfl (.n _))))) ?_
  refine XT.st rfl rfl rfl rfl rfl ⟨inferInstance, ?_⟩ XT.stop
  refine XT.st rfl rfl rfl rfl rfl ⟨inferInstance, ?_⟩ XT.stop
  refine XT.done ?_
  refine XK.rt [k6, k9, k15, k18] Try.func36 Try.results36 (.cell [_, _, _] rfl rfl rfl (.cell [_, _, _] rfl rfl rfl (.n))) ?_
  exact ⟨v6, v9, v15, v18, k6, k9, k15, k18, rfl, rfl, O6, O9, O15, O18⟩
theorem kept_spec (d : KDay) (vh vj : Value) (hh hj : PHeap) [ih : Arr vh encHour 6 hh d.hours] [ij : Arr vj encJob 4 hj d.jobs] (vh2 vj2 : Value) (hh2 hj2 : PHeap) [ih2 : Arr vh2 encHour 6 hh2 d.hours] [ij2 : Arr vj2 encJob 4 hj2 d.jobs] : Spec Try.prog 42 #[.agg #[vh, .int .i64 d.store.energy, .int .i64 d.store.full, .int .i64 d.store.power, .int .i64 d.store.fin, vj, .int .i64 d.most, .int .i64 d.peak], .agg #[vh2, .int .i64 d.store.energy, .int .i64 d.store.full, .int .i64 d.store.power, .int .i64 d.store.fin, vj2, .int .i64 d.most, .int .i64 d.peak]] [] [hh, hj, hh2, hj2] (fun v hs => v = .bool true ∧ hs = []) := by
  refine Spec.intro (fn := Try.f42) (N := 38) Try.func42 rfl Try.ntmps42 rfl fun B => ?_
  refine XK.seq ?_
  refine XK.region rfl ?_
  refine XO.box rfl fun b2 => ?_
  refine XO.box rfl fun b3 => ?_
  refine XO.q (Q.assign rfl) ?_
  refine XO.done ?_
  refine XK.seq ?_
  refine XK.region rfl ?_
  refine XO.q (Q.fieldAddr rfl) ?_
  refine XO.q (Q.ld rfl rfl) ?_
  refine XO.q (Q.fieldAddr rfl) ?_
  refine XO.q (Q.ld rfl rfl) ?_
  refine XO.call Try.call87 rfl rfl rfl (equalH vh vh2 hh hh2 d.hours d.hours) fun v9 s9 R9 => ?_
  obtain ⟨rfl, rfl⟩ := R9
  dsimp only [List.cons_append, List.nil_append]
  refine XO.q (Q.move rfl) ?_
  refine XO.q (Quiet.guardT rfl rfl fun g11 p11 => Q.fieldAddr rfl) ?_
  refine XO.q (Quiet.guardT rfl rfl fun g12 p12 => Q.ld (lzv g12 rfl) rfl) ?_
  refine XO.q (Quiet.guardT rfl rfl fun g13 p13 => Q.fieldAddr rfl) ?_
  refine XO.q (Quiet.guardT rfl rfl fun g14 p14 => Q.ld (lzv g14 rfl) rfl) ?_
  refine XO.gcallT rfl rfl Try.call88 rfl (fun g15 => .c (lzv g15 rfl) (.c (lzv g15 rfl) .n)) rfl (fun g15 p15 => equalJ vj vj2 hj hj2 d.jobs d.jobs) ?_
  refine XO.q (Q.and rfl (fun hp => lzv hp rfl)) ?_
  refine XO.q (Q.move rfl) ?_
  refine XO.q (Quiet.guardT rfl rfl fun g18 p18 => Q.fieldAddr rfl) ?_
  refine XO.q (Quiet.guardT rfl rfl fun g19 p19 => Q.ldA [_, _, _, _] (lzv g19 rfl) rfl rfl) ?_
  refine XO.q (Quiet.guardT rfl rfl fun g20 p20 => Q.fieldAddr rfl) ?_
  refine XO.q (Quiet.guardT rfl rfl fun g21 p21 => Q.ldA [_, _, _, _] (lzv g21 rfl) rfl rfl) ?_
  refine XO.q (Quiet.guardT rfl rfl fun g22 p22 => Q.eqlS (us := [_, _, _, _]) (vs := [_, _, _, _]) (lzv g22 rfl) (lzv g22 rfl) inferInstance (by kernel_rfl) (by kernel_rfl) (.c rfl inferInstance inferInstance rfl rfl (.c rfl inferInstance inferInstance rfl rfl (.c rfl inferInstance inferInstance rfl rfl (.c rfl inferInstance inferInstance rfl rfl .n))))) ?_
  refine XO.q (Q.and rfl (fun hp => lzv hp rfl)) ?_
  refine XO.q (Q.move rfl) ?_
  refine XO.q (Quiet.guardT rfl rfl fun g25 p25 => Q.fieldAddr rfl) ?_
  refine XO.q (Quiet.guardT rfl rfl fun g26 p26 => Q.ld (lzv g26 rfl) rfl) ?_
  refine XO.q (Quiet.guardT rfl rfl fun g27 p27 => Q.fieldAddr rfl) ?_
  refine XO.q (Quiet.guardT rfl rfl fun g28 p28 => Q.ld (lzv g28 rfl) rfl) ?_
  refine XO.q (Quiet.guardT rfl rfl fun g29 p29 => Q.eql (lzv g29 rfl) (lzv g29 rfl)) ?_
  refine XO.q (Q.and rfl (fun hp => lzv hp rfl)) ?_
  refine XO.q (Q.move rfl) ?_
  refine XO.q (Quiet.guardT rfl rfl fun g32 p32 => Q.fieldAddr rfl) ?_
  refine XO.q (Quiet.guardT rfl rfl fun g33 p33 => Q.ld (lzv g33 rfl) rfl) ?_
  refine XO.q (Quiet.guardT rfl rfl fun g34 p34 => Q.fieldAddr rfl) ?_
  refine XO.q (Quiet.guardT rfl rfl fun g35 p35 => Q.ld (lzv g35 rfl) rfl) ?_
  refine XO.q (Quiet.guardT rfl rfl fun g36 p36 => Q.eql (lzv g36 rfl) (lzv g36 rfl)) ?_
  refine XO.q (Q.and rfl (fun hp => lzv hp rfl)) ?_
  refine XO.q (Q.assign rfl) ?_
  refine XO.done ?_
  refine XK.rt [] Try.func42 Try.results42 (.t rfl .n) ?_
  exact ⟨by simp, rfl⟩
theorem equal_spec (p : KPlan) (vs vc : Value) (hs_ hc : PHeap) [js : Arr vs encI 1 hs_ p.starts] [jc : Arr vc encI 1 hc p.charge] (vs2 vc2 : Value) (hs2 hc2 : PHeap) [js2 : Arr vs2 encI 1 hs2 p.starts] [jc2 : Arr vc2 encI 1 hc2 p.charge] : Spec Try.prog 43 #[.agg #[vs, vc, .int .i64 p.cost], .agg #[vs2, vc2, .int .i64 p.cost]] [] [hs_, hc, hs2, hc2] (fun v hs => v = .bool true ∧ hs = []) := by
  refine Spec.intro (fn := Try.f43) (N := 24) Try.func43 rfl Try.ntmps43 rfl fun B => ?_
  refine XK.seq ?_
  refine XK.region rfl ?_
  refine XO.box rfl fun b2 => ?_
  refine XO.box rfl fun b3 => ?_
  refine XO.q (Q.assign rfl) ?_
  refine XO.done ?_
  refine XK.seq ?_
  refine XK.region rfl ?_
  refine XO.q (Q.fieldAddr rfl) ?_
  refine XO.q (Q.ld rfl rfl) ?_
  refine XO.q (Q.fieldAddr rfl) ?_
  refine XO.q (Q.ld rfl rfl) ?_
  refine XO.call Try.call23 rfl rfl rfl (equalI vs vs2 hs_ hs2 p.starts p.starts) fun v9 s9 R9 => ?_
  obtain ⟨rfl, rfl⟩ := R9
  dsimp only [List.cons_append, List.nil_append]
  refine XO.q (Q.move rfl) ?_
  refine XO.q (Quiet.guardT rfl rfl fun g11 p11 => Q.fieldAddr rfl) ?_
  refine XO.q (Quiet.guardT rfl rfl fun g12 p12 => Q.ld (lzv g12 rfl) rfl) ?_
  refine XO.q (Quiet.guardT rfl rfl fun g13 p13 => Q.fieldAddr rfl) ?_
  refine XO.q (Quiet.guardT rfl rfl fun g14 p14 => Q.ld (lzv g14 rfl) rfl) ?_
  refine XO.gcallT rfl rfl Try.call23 rfl (fun g15 => .c (lzv g15 rfl) (.c (lzv g15 rfl) .n)) rfl (fun g15 p15 => equalI vc vc2 hc hc2 p.charge p.charge) ?_
  refine XO.q (Q.and rfl (fun hp => lzv hp rfl)) ?_
  refine XO.q (Q.move rfl) ?_
  refine XO.q (Quiet.guardT rfl rfl fun g18 p18 => Q.fieldAddr rfl) ?_
  refine XO.q (Quiet.guardT rfl rfl fun g19 p19 => Q.ld (lzv g19 rfl) rfl) ?_
  refine XO.q (Quiet.guardT rfl rfl fun g20 p20 => Q.fieldAddr rfl) ?_
  refine XO.q (Quiet.guardT rfl rfl fun g21 p21 => Q.ld (lzv g21 rfl) rfl) ?_
  refine XO.q (Quiet.guardT rfl rfl fun g22 p22 => Q.eql (lzv g22 rfl) (lzv g22 rfl)) ?_
  refine XO.q (Q.and rfl (fun hp => lzv hp rfl)) ?_
  refine XO.q (Q.assign rfl) ?_
  refine XO.done ?_
  refine XK.rt [] Try.func43 Try.results43 (.t rfl .n) ?_
  exact ⟨by simp, rfl⟩
def longB (d : KDay) (p : KPlan) : Bool := ((decide ((30 : Int) < d.hours.length) || decide ((4 : Int) < d.jobs.length)) || decide ((6 : Int) < p.starts.length)) || decide ((30 : Int) < p.charge.length)
theorem long_no {d : KDay} {p : KPlan} (h : ¬ longB d p = true) : d.hours.length ≤ 30 ∧ d.jobs.length ≤ 4 ∧ p.starts.length ≤ 6 ∧ p.charge.length ≤ 30 := by
  unfold longB at h
  simp only [Bool.or_eq_true, decide_eq_true_eq] at h
  omega
theorem long_spec (d : KDay) (vh vj : Value) (hh hj : PHeap) [ih : Arr vh encHour 6 hh d.hours] [ij : Arr vj encJob 4 hj d.jobs] (p : KPlan) (vs vc : Value) (hs_ hc : PHeap) [js : Arr vs encI 1 hs_ p.starts] [jc : Arr vc encI 1 hc p.charge] : Spec Try.prog 13 #[.agg #[vh, .int .i64 d.store.energy, .int .i64 d.store.full, .int .i64 d.store.power, .int .i64 d.store.fin, vj, .int .i64 d.most, .int .i64 d.peak], .agg #[vs, vc, .int .i64 p.cost]] [] [hh, hj, hs_, hc] (fun v hs => v = .bool (longB d p) ∧ hs = []) := by
  refine Spec.intro (fn := Try.f13) (N := 27) Try.func13 rfl Try.ntmps13 rfl fun B => ?_
  refine XK.seq ?_
  refine XK.region rfl ?_
  refine XO.box rfl fun b2 => ?_
  refine XO.box rfl fun b3 => ?_
  refine XO.q (Q.assign rfl) ?_
  refine XO.done ?_
  refine XK.seq ?_
  refine XK.region rfl ?_
  refine XO.q (Q.fieldAddr rfl) ?_
  refine XO.q (Q.ld rfl rfl) ?_
  refine XO.len rfl fun l7 => ?_
  refine XO.q (Q.gtr rfl rfl) ?_
  refine XO.q (Q.move rfl) ?_
  refine XO.q (Quiet.guardF rfl rfl fun g10 p10 => Q.fieldAddr rfl) ?_
  refine XO.q (Quiet.guardF rfl rfl fun g11 p11 => Q.ld (lzv g11 rfl) rfl) ?_
  refine XO.q (Quiet.guardF rfl rfl fun g12 p12 => Q.len (lzv g12 rfl)) ?_
  refine XO.q (Quiet.guardF rfl rfl fun g13 p13 => Q.gtr (lzv g13 rfl) rfl) ?_
  refine XO.q (Q.or rfl (fun hp => lzv hp rfl)) ?_
  refine XO.q (Q.move rfl) ?_
  refine XO.q (Quiet.guardF rfl rfl fun g16 p16 => Q.fieldAddr rfl) ?_
  refine XO.q (Quiet.guardF rfl rfl fun g17 p17 => Q.ld (lzv g17 rfl) rfl) ?_
  refine XO.q (Quiet.guardF rfl rfl fun g18 p18 => Q.len (lzv g18 rfl)) ?_
  refine XO.q (Quiet.guardF rfl rfl fun g19 p19 => Q.gtr (lzv g19 rfl) rfl) ?_
  refine XO.q (Q.or rfl (fun hp => lzv hp rfl)) ?_
  refine XO.q (Q.move rfl) ?_
  refine XO.q (Quiet.guardF rfl rfl fun g22 p22 => Q.fieldAddr rfl) ?_
  refine XO.q (Quiet.guardF rfl rfl fun g23 p23 => Q.ld (lzv g23 rfl) rfl) ?_
  refine XO.q (Quiet.guardF rfl rfl fun g24 p24 => Q.len (lzv g24 rfl)) ?_
  refine XO.q (Quiet.guardF rfl rfl fun g25 p25 => Q.gtr (lzv g25 rfl) rfl) ?_
  refine XO.q (Q.or rfl (fun hp => lzv hp rfl)) ?_
  refine XO.q (Q.assign rfl) ?_
  refine XO.done ?_
  refine XK.rt [] Try.func13 Try.results13 (.t rfl .n) ?_
  exact ⟨by simp [longB], rfl⟩
end Go.X

set_option linter.unusedSimpArgs false
set_option linter.unusedVariables false
set_option maxRecDepth 20000
namespace Go.X
open Go.Proofs
set_option maxHeartbeats 4000000 in
set_option synthInstance.maxSize 1000 in
theorem offers_spec (d : KDay) (vh vj : Value) (hh hj : PHeap) [ih : Arr vh encHour 6 hh d.hours] [ij : Arr vj encJob 4 hj d.jobs] (p : KPlan) (vs vc : Value) (hs_ hc : PHeap) [js : Arr vs encI 1 hs_ p.starts] [jc : Arr vc encI 1 hc p.charge] (o : KOffer) (h63 : o.hours ≤ 9223372036854775807) (pat : List Int) (vt : Value) (ht : PHeap) [jt : Arr vt encI 1 ht pat] (lg : d.hours.length ≤ 30 ∧ d.jobs.length ≤ 4 ∧ p.starts.length ≤ 6 ∧ p.charge.length ≤ 30) (lp : pat.length ≤ 30) :
    Spec Try.prog 14 #[.agg #[vh, .int .i64 d.store.energy, .int .i64 d.store.full, .int .i64 d.store.power, .int .i64 d.store.fin, vj, .int .i64 d.most, .int .i64 d.peak], .agg #[vs, vc, .int .i64 p.cost], .agg #[.int .i64 o.beg, .int .i64 o.fin, .int .i64 o.power, .int .i64 o.hours, .int .i64 o.calls, .int .i64 o.pause], vt] [] [hh, hj, hs_, hc, ht] (fun v hs => v = .bool true ∧ hs = []) := by
  obtain ⟨lg1, lg2, lg3, lg4⟩ := lg
  refine Spec.intro (fn := Try.f14) (N := 131) Try.func14 rfl Try.ntmps14 rfl fun B => ?_
  refine XK.seq ?_
  refine XK.region rfl ?_
  refine XO.box rfl fun b4 => ?_
  refine XO.box rfl fun b5 => ?_
  refine XO.box rfl fun b6 => ?_
  refine XO.q (Q.assign rfl) ?_
  refine XO.done ?_
  refine XK.seq ?_
  refine XK.region rfl ?_
  refine XO.q (Q.ldA [_, _, _, _, _, _, _, _] rfl rfl rfl) ?_
  refine XO.call Try.call35 rfl rfl rfl (copied_spec d vh vj hh hj (by omega) (by omega)) fun v24 s24 R24 => ?_
  obtain ⟨a1, a2, a3, a4, k1, k2, k3, k4, rfl, rfl, A1, A2, A3, A4⟩ := R24
  dsimp only [List.cons_append, List.nil_append]
  refine XO.q (Q.move rfl) ?_
  refine XO.q (Q.extract rfl rfl) ?_
  refine XO.q (Q.extract rfl rfl) ?_
  refine XO.alloc fun b9 => ?_
  refine XO.alloc fun b10 => ?_
  refine XO.st rfl rfl rfl ?_
  refine XO.st rfl rfl rfl ?_
  refine XO.done ?_
  refine XK.seq ?_
  refine XK.region rfl ?_
  refine XO.q (Q.ldA [_, _, _] rfl rfl rfl) ?_
  refine XO.call Try.call36 rfl rfl rfl (planned_spec p vs vc hs_ hc (by omega) (by omega)) fun v29 s29 R29 => ?_
  obtain ⟨b1, b2, b3, b4, m1, m2, m3, m4, rfl, rfl, B1, B2, B3, B4⟩ := R29
  dsimp only [List.cons_append, List.nil_append]
  refine XO.q (Q.move rfl) ?_
  refine XO.q (Q.extract rfl rfl) ?_
  refine XO.q (Q.extract rfl rfl) ?_
  refine XO.alloc fun b11 => ?_
  refine XO.alloc fun b12 => ?_
  refine XO.st rfl rfl rfl ?_
  refine XO.st rfl rfl rfl ?_
  refine XO.done ?_
  refine XK.seq ?_
  refine XK.region rfl ?_
  refine XO.q (Q.ldA [_, _, _, _, _, _, _, _] rfl rfl rfl) ?_
  refine XO.q (Q.ldA [_, _, _, _, _, _] rfl rfl rfl) ?_
  refine XO.call Try.call20 rfl rfl rfl (Patterns_spec d a1 a2 k1 k2 o) fun v35 s35 R35 => ?_
  obtain ⟨vo1, ho1, us1, K1, rfl, rfl, OO1, RO1⟩ := R35
  dsimp only [List.cons_append, List.nil_append]
  refine XO.q (Q.move rfl) ?_
  refine XO.q (Q.extract rfl rfl) ?_
  refine XO.q (Q.extract rfl rfl) ?_
  refine XO.q (Q.assign rfl) ?_
  refine XO.q (Q.assign rfl) ?_
  refine XO.done ?_
  refine XK.seq ?_
  refine XK.region rfl ?_
  refine XO.q (Q.ldA [_, _, _, _, _, _, _, _] rfl rfl rfl) ?_
  refine XO.q (Q.ldA [_, _, _, _, _, _] rfl rfl rfl) ?_
  refine XO.call Try.call37 rfl rfl rfl (rPatterns_spec d a3 a4 k3 k4 o h63) fun v41 s41 R41 => ?_
  obtain ⟨vo2, ho2, us2, K2, rfl, rfl, OO2, RO2⟩ := R41
  dsimp only [List.cons_append, List.nil_append]
  refine XO.q (Q.move rfl) ?_
  refine XO.q (Q.extract rfl rfl) ?_
  refine XO.q (Q.extract rfl rfl) ?_
  refine XO.q (Q.assign rfl) ?_
  refine XO.q (Q.assign rfl) ?_
  refine XO.done ?_
  refine XK.seq ?_
  refine XK.seq ?_
  refine XK.region rfl ?_
  refine XO.q (Q.move rfl) ?_
  refine XO.q (Q.move rfl) ?_
  refine XO.call Try.call38 rfl rfl rfl (sameLists vo1 vo2 ho1 ho2 K1 K2 us1 us2 (offeredG d o).1 (offeredG d o).1 RO1 RO2) fun v46 s46 R46 => ?_
  obtain ⟨rfl, rfl⟩ := R46
  dsimp only [List.cons_append, List.nil_append]
  refine XO.q (Q.not rfl) ?_
  refine XO.q (Q.move rfl) ?_
  refine XO.q (Quiet.guardF rfl rfl fun g49 p49 => Q.move rfl) ?_
  refine XO.q (Quiet.guardF rfl rfl fun g50 p50 => Q.move rfl) ?_
  refine XO.q (Quiet.guardF rfl rfl fun g51 p51 => Q.neq (lzv g51 rfl) (lzv g51 rfl)) ?_
  refine XO.q (Q.or rfl (fun hp => lzv hp rfl)) ?_
  refine XO.done ?_
  refine XK.if rfl (fun c0 => ?_) (fun c0 => ?_)
  · have _t0 := True.intro
    exact absurd c0 (by simp)
  · have _t0 := True.intro
    refine XK.skip ?_
    refine XK.seq ?_
    refine XK.region rfl ?_
    refine XO.q (Q.move rfl) ?_
    refine XO.call Try.call39 rfl rfl rfl (cloneI vt ht pat (by omega)) fun v54 s54 R54 => ?_
    obtain ⟨kx, rfl, OX⟩ := R54
    dsimp only [List.cons_append, List.nil_append]
    refine XO.q (Q.assign rfl) ?_
    refine XO.done ?_
    refine XK.seq ?_
    refine XK.region rfl ?_
    refine XO.q (Q.ldA [_, _, _, _, _, _, _, _] rfl rfl rfl) ?_
    refine XO.q (Q.ldA [_, _, _] rfl rfl rfl) ?_
    refine XO.q (Q.ldA [_, _, _, _, _, _] rfl rfl rfl) ?_
    refine XO.q (Q.move rfl) ?_
    refine XO.call Try.call22 rfl rfl rfl (Answer_spec d a1 a2 k1 k2 p b1 b2 m1 m2 o pat v54 kx) fun v60 s60 R60 => ?_
    obtain ⟨v1, n1, rfl, rfl, O1⟩ := R60
    dsimp only [List.cons_append, List.nil_append]
    refine XO.q (Q.move rfl) ?_
    refine XO.q (Q.extract rfl rfl) ?_
    refine XO.q (Q.extract rfl rfl) ?_
    refine XO.q (Q.extract rfl rfl) ?_
    refine XO.q (Q.assign rfl) ?_
    refine XO.q (Q.assign rfl) ?_
    refine XO.q (Q.assign rfl) ?_
    refine XO.done ?_
    refine XK.seq ?_
    refine XK.region rfl ?_
    refine XO.q (Q.ldA [_, _, _, _, _, _, _, _] rfl rfl rfl) ?_
    refine XO.q (Q.ldA [_, _, _] rfl rfl rfl) ?_
    refine XO.q (Q.ldA [_, _, _, _, _, _] rfl rfl rfl) ?_
    refine XO.q (Q.move rfl) ?_
    refine XO.call Try.call40 rfl rfl rfl (rAnswer_spec d a3 a4 k3 k4 p b3 b4 m3 m4 o h63 pat vt ht) fun v69 s69 R69 => ?_
    obtain ⟨v2, n2, rfl, rfl, O2⟩ := R69
    dsimp only [List.cons_append, List.nil_append]
    refine XO.q (Q.move rfl) ?_
    refine XO.q (Q.extract rfl rfl) ?_
    refine XO.q (Q.extract rfl rfl) ?_
    refine XO.q (Q.extract rfl rfl) ?_
    refine XO.q (Q.assign rfl) ?_
    refine XO.q (Q.assign rfl) ?_
    refine XO.q (Q.assign rfl) ?_
    refine XO.done ?_
    refine XK.seq ?_
    refine XK.seq ?_
    refine XK.region rfl ?_
    refine XO.q (Q.move rfl) ?_
    refine XO.q (Q.move rfl) ?_
    refine XO.call Try.call23 rfl rfl rfl (equalI v1 v2 n1 n2 (AnswerG d p o pat).1 (AnswerG d p o pat).1) fun v75 s75 R75 => ?_
    obtain ⟨rfl, rfl⟩ := R75
    dsimp only [List.cons_append, List.nil_append]
    refine XO.q (Q.not rfl) ?_
    refine XO.q (Q.move rfl) ?_
    refine XO.q (Quiet.guardF rfl rfl fun g78 p78 => Q.move rfl) ?_
    refine XO.q (Quiet.guardF rfl rfl fun g79 p79 => Q.move rfl) ?_
    refine XO.q (Quiet.guardF rfl rfl fun g80 p80 => Q.neqB (lzv g80 rfl) (lzv g80 rfl)) ?_
    refine XO.q (Q.or rfl (fun hp => lzv hp rfl)) ?_
    refine XO.q (Q.move rfl) ?_
    refine XO.q (Quiet.guardF rfl rfl fun g83 p83 => Q.move rfl) ?_
    refine XO.q (Quiet.guardF rfl rfl fun g84 p84 => Q.move rfl) ?_
    refine XO.q (Quiet.guardF rfl rfl fun g85 p85 => Q.neq (lzv g85 rfl) (lzv g85 rfl)) ?_
    refine XO.q (Q.or rfl (fun hp => lzv hp rfl)) ?_
    refine XO.done ?_
    refine XK.if rfl (fun c1 => ?_) (fun c1 => ?_)
    · have _t1 := True.intro
      exact absurd c1 (by simp)
    · have _t1 := True.intro
      refine XK.skip ?_
      refine XK.seq ?_
      refine XK.region rfl ?_
      refine XO.q (Q.ldA [_, _, _, _, _, _, _, _] rfl rfl rfl) ?_
      refine XO.q (Q.ldA [_, _, _] rfl rfl rfl) ?_
      refine XO.q (Q.ldA [_, _, _, _, _, _] rfl rfl rfl) ?_
      refine XO.call Try.call21 rfl rfl rfl (Deliver_spec d a1 a2 k1 k2 p b1 b2 m1 m2 o) fun v91 s91 R91 => ?_
      obtain ⟨v3, n3, rfl, rfl, w3, O3⟩ := R91
      dsimp only [List.cons_append, List.nil_append]
      refine XO.q (Q.move rfl) ?_
      refine XO.q (Q.extract rfl rfl) ?_
      refine XO.q (Q.extract rfl rfl) ?_
      refine XO.q (Q.extract rfl rfl) ?_
      refine XO.q (Q.assign rfl) ?_
      refine XO.q (Q.assign rfl) ?_
      refine XO.q (Q.assign rfl) ?_
      refine XO.done ?_
      refine XK.seq ?_
      refine XK.region rfl ?_
      refine XO.q (Q.ldA [_, _, _, _, _, _, _, _] rfl rfl rfl) ?_
      refine XO.q (Q.ldA [_, _, _] rfl rfl rfl) ?_
      refine XO.q (Q.ldA [_, _, _, _, _, _] rfl rfl rfl) ?_
      refine XO.call Try.call41 rfl rfl rfl (rDeliver_spec d a3 a4 k3 k4 p b3 b4 m3 m4 o h63) fun v99 s99 R99 => ?_
      obtain ⟨v4, n4, rfl, rfl, w4, O4⟩ := R99
      dsimp only [List.cons_append, List.nil_append]
      refine XO.q (Q.move rfl) ?_
      refine XO.q (Q.extract rfl rfl) ?_
      refine XO.q (Q.extract rfl rfl) ?_
      refine XO.q (Q.extract rfl rfl) ?_
      refine XO.q (Q.assign rfl) ?_
      refine XO.q (Q.assign rfl) ?_
      refine XO.q (Q.assign rfl) ?_
      refine XO.done ?_
      refine XK.seq ?_
      refine XK.region rfl ?_
      refine XO.q (Q.move rfl) ?_
      refine XO.q (Q.move rfl) ?_
      refine XO.q (Q.eqlB rfl rfl) ?_
      refine XO.q (Q.move rfl) ?_
      refine XO.q (Quiet.guardT rfl rfl fun g107 p107 => Q.move rfl) ?_
      refine XO.q (Quiet.guardT rfl rfl fun g108 p108 => Q.move rfl) ?_
      refine XO.gcallT rfl rfl Try.call23 rfl (fun g109 => .c (lzv g109 rfl) (.c (lzv g109 rfl) .n)) rfl (fun g109 p109 => equalI v3 v4 n3 n4 (DeliverG d p o).2.1 (DeliverG d p o).2.1) ?_
      refine XO.q (Q.and rfl (fun hp => lzv hp rfl)) ?_
      refine XO.q (Q.move rfl) ?_
      refine XO.q (Quiet.guardT rfl rfl fun g112 p112 => Q.move rfl) ?_
      refine XO.q (Quiet.guardT rfl rfl fun g113 p113 => Q.move rfl) ?_
      refine XO.q (Quiet.guardT rfl rfl fun g114 p114 => Q.eql (lzv g114 rfl) (lzv g114 rfl)) ?_
      refine XO.q (Q.and rfl (fun hp => lzv hp rfl)) ?_
      refine XO.q (Q.move rfl) ?_
      refine XO.q (Quiet.guardT rfl rfl fun g117 p117 => Q.move rfl) ?_
      refine XO.q (Quiet.guardT rfl rfl fun g118 p118 => Q.move rfl) ?_
      refine XO.gcallT rfl rfl Try.call23 rfl (fun g119 => .c (lzv g119 rfl) (.c (lzv g119 rfl) .n)) rfl (fun g119 p119 => equalI v54 vt kx ht pat pat) ?_
      refine XO.q (Q.and rfl (fun hp => lzv hp rfl)) ?_
      refine XO.q (Q.move rfl) ?_
      refine XO.q (Quiet.guardT rfl rfl fun g122 p122 => Q.ldA [_, _, _, _, _, _, _, _] rfl rfl rfl) ?_
      refine XO.q (Quiet.guardT rfl rfl fun g123 p123 => Q.ldA [_, _, _, _, _, _, _, _] rfl rfl rfl) ?_
      refine XO.gcallT rfl rfl Try.call42 rfl (fun g124 => .c (lzv g124 rfl) (.c (lzv g124 rfl) .n)) rfl (fun g124 p124 => kept_spec d a1 a2 k1 k2 vh vj hh hj) ?_
      refine XO.q (Q.and rfl (fun hp => lzv hp rfl)) ?_
      refine XO.q (Q.move rfl) ?_
      refine XO.q (Quiet.guardT rfl rfl fun g127 p127 => Q.ldA [_, _, _] rfl rfl rfl) ?_
      refine XO.q (Quiet.guardT rfl rfl fun g128 p128 => Q.ldA [_, _, _] rfl rfl rfl) ?_
      refine XO.gcallT rfl rfl Try.call43 rfl (fun g129 => .c (lzv g129 rfl) (.c (lzv g129 rfl) .n)) rfl (fun g129 p129 => equal_spec p b1 b2 m1 m2 b3 b4 m3 m4) ?_
      refine XO.q (Q.and rfl (fun hp => lzv hp rfl)) ?_
      refine XO.q (Q.assign rfl) ?_
      refine XO.done ?_
      refine XK.rt [] Try.func14 Try.results14 (.t rfl .n) ?_
      exact ⟨by simp, rfl⟩
set_option maxHeartbeats 4000000 in
set_option synthInstance.maxSize 1000 in
theorem MarketOffers_spec (d : KDay) (vh vj : Value) (hh hj : PHeap) [ih : Arr vh encHour 6 hh d.hours] [ij : Arr vj encJob 4 hj d.jobs] (p : KPlan) (vs vc : Value) (hs_ hc : PHeap) [js : Arr vs encI 1 hs_ p.starts] [jc : Arr vc encI 1 hc p.charge] (o : KOffer) (h63 : o.hours ≤ 9223372036854775807) (pat : List Int) (vt : Value) (ht : PHeap) [jt : Arr vt encI 1 ht pat] :
    Spec Try.prog 4 #[.agg #[vh, .int .i64 d.store.energy, .int .i64 d.store.full, .int .i64 d.store.power, .int .i64 d.store.fin, vj, .int .i64 d.most, .int .i64 d.peak], .agg #[vs, vc, .int .i64 p.cost], .agg #[.int .i64 o.beg, .int .i64 o.fin, .int .i64 o.power, .int .i64 o.hours, .int .i64 o.calls, .int .i64 o.pause], vt] [] [hh, hj, hs_, hc, ht] (fun v hs => v = .bool true ∧ hs = []) := by
  refine Spec.intro (fn := Try.f4) (N := 27) Try.func4 rfl Try.ntmps4 rfl fun B => ?_
  refine XK.seq ?_
  refine XK.region rfl ?_
  refine XO.box rfl fun b4 => ?_
  refine XO.box rfl fun b5 => ?_
  refine XO.box rfl fun b6 => ?_
  refine XO.q (Q.assign rfl) ?_
  refine XO.done ?_
  refine XK.seq ?_
  refine XK.region rfl ?_
  refine XO.q (Q.ldA [_, _, _, _, _, _, _, _] rfl rfl rfl) ?_
  refine XO.q (Q.ldA [_, _, _] rfl rfl rfl) ?_
  refine XO.call Try.call13 rfl rfl rfl (long_spec d vh vj hh hj p vs vc hs_ hc) fun v11 s11 R11 => ?_
  obtain ⟨rfl, rfl⟩ := R11
  dsimp only [List.cons_append, List.nil_append]
  refine XO.q (Q.move rfl) ?_
  refine XO.q (Quiet.guardF rfl rfl fun g13 p13 => Q.move rfl) ?_
  refine XO.q (Quiet.guardF rfl rfl fun g14 p14 => Q.len (lzv g14 rfl)) ?_
  refine XO.q (Quiet.guardF rfl rfl fun g15 p15 => Q.gtr (lzv g15 rfl) rfl) ?_
  refine XO.q (Q.or rfl (fun hp => lzv hp rfl)) ?_
  refine XO.q (Q.move rfl) ?_
  refine XO.q (Quiet.guardF rfl rfl fun g18 p18 => Q.ldA [_, _, _, _, _, _, _, _] rfl rfl rfl) ?_
  refine XO.q (Quiet.guardF rfl rfl fun g19 p19 => Q.ldA [_, _, _] rfl rfl rfl) ?_
  refine XO.q (Quiet.guardF rfl rfl fun g20 p20 => Q.ldA [_, _, _, _, _, _] rfl rfl rfl) ?_
  refine XO.q (Quiet.guardF rfl rfl fun g21 p21 => Q.move rfl) ?_
  refine XO.gcallF rfl rfl Try.call14 rfl (fun g22 => .c (lzv g22 rfl) (.c (lzv g22 rfl) (.c (lzv g22 rfl) (.c (lzv g22 rfl) .n)))) rfl (fun g22 p22 => offers_spec d vh vj hh hj p vs vc hs_ hc o h63 pat vt ht (long_no (fun h => p22 (.inl h))) (by omega)) ?_
  refine XO.q (Q.or rfl (fun hp => lzv hp rfl)) ?_
  refine XO.q (Q.move rfl) ?_
  refine XO.gcallT rfl rfl Try.call12 rfl (fun g25 => .n) rfl (fun g25 p25 => awake10) ?_
  refine XO.q (Q.and rfl (fun hp => lzv hp rfl)) ?_
  refine XO.q (Q.assign rfl) ?_
  refine XO.done ?_
  refine XK.rt [] Try.func4 Try.results4 (.t rfl .n) ?_
  exact ⟨by simp, rfl⟩
end Go.X
