/- A part of the proof: a small program logic, plain laws and contracts of functions, each proved by a walk through its operations. No condition but those that stand in each theorem. -/
import Derived.Test.YteofmoaloiaadaaA2
set_option linter.unusedSimpArgs false
set_option linter.unusedVariables false
set_option maxRecDepth 20000
namespace Go.X
open Go.Proofs
def encBat (x : BBat) : List Value := [.int .i64 x.energy, .int .i64 x.full, .int .i64 x.power, .int .i64 x.charge]
def encGen (x : BGen) : List Value := [.int .i64 x.power, .int .i64 x.ramp, .int .i64 x.delay, .int .i64 x.pause, .int .i64 x.tries]
def encSpan (x : BSpan) : List Value := [.int .i64 x.seconds, .int .i64 x.power]
def encCell (x : BCell) : List Value := [.int .i64 x.bat.energy, .int .i64 x.bat.full, .int .i64 x.bat.power, .int .i64 x.bat.charge, .int .i64 x.now]
abbrev batV (x : BBat) : Value := .agg #[.int .i64 x.energy, .int .i64 x.full, .int .i64 x.power, .int .i64 x.charge]
abbrev genV (x : BGen) : Value := .agg #[.int .i64 x.power, .int .i64 x.ramp, .int .i64 x.delay, .int .i64 x.pause, .int .i64 x.tries]
theorem cloneI (v : Value) (h : PHeap) (xs : List Int) [s : Arr v encI 1 h xs] (hl : xs.length ≤ 68719476736) :
    Spec Try.prog 35 #[v] [] [h] (fun v' hs => ∃ h', hs = [h'] ∧ OArr v' encI 1 3 h' xs) := by
  refine Spec.intro (fn := Try.f35) (N := 8) Try.func35 rfl Try.ntmps35 rfl fun B => ?_
  refine XK.seq ?_
  refine XK.region rfl ?_
  refine XO.q (Q.assign rfl) ?_
  refine XO.done ?_
  refine XK.seq ?_
  refine XK.seq ?_
  refine XK.region rfl ?_
  refine XO.q (Q.move rfl) ?_
  refine XO.eqNil rfl fun z4 hz4 => ?_
  refine XO.done ?_
  refine XK.if rfl (fun c0 => ?_) (fun c0 => ?_)
  · have _t0 := True.intro
    refine XK.seq ?_
    refine XK.region rfl ?_
    refine XO.q (Q.assign rfl) ?_
    refine XO.done ?_
    refine XK.rt [emp] Try.func35 Try.results35 (.t rfl .n) ?_
    exact ⟨emp, rfl, by rw [(hz4 c0).1]; exact OArr.nil (fun _ => rfl)⟩
  · have _t0 := True.intro
    refine XK.skip ?_
    refine XK.seq ?_
    refine XK.region rfl ?_
    refine XO.lit [] [] [] encI (by rfl) (by rfl) rfl (by rfl) (by exact .n _) (fun _ => rfl) (by rfl) rfl (by infer_instance) rfl fun v5 h5 O5 => ?_
    refine XO.q (Q.move rfl) ?_
    refine XO.append rfl rfl rfl rfl (by first | omega | (simp; omega)) fun v7 h7 O7 => ?_
    refine XO.q (Q.assign rfl) ?_
    refine XO.done ?_
    refine XK.rt [h7] Try.func35 Try.results35 (.t rfl .n) ?_
    exact ⟨h7, rfl, O7⟩
theorem cloneS (v : Value) (h : PHeap) (xs : List BSpan) [s : Arr v encSpan 2 h xs] (hl : xs.length ≤ 68719476736) :
    Spec Try.prog 16 #[v] [] [h] (fun v' hs => ∃ h', hs = [h'] ∧ OArr v' encSpan 2 38 h' xs) := by
  refine Spec.intro (fn := Try.f16) (N := 8) Try.func16 rfl Try.ntmps16 rfl fun B => ?_
  refine XK.seq ?_
  refine XK.region rfl ?_
  refine XO.q (Q.assign rfl) ?_
  refine XO.done ?_
  refine XK.seq ?_
  refine XK.seq ?_
  refine XK.region rfl ?_
  refine XO.q (Q.move rfl) ?_
  refine XO.eqNil rfl fun z4 hz4 => ?_
  refine XO.done ?_
  refine XK.if rfl (fun c0 => ?_) (fun c0 => ?_)
  · have _t0 := True.intro
    refine XK.seq ?_
    refine XK.region rfl ?_
    refine XO.q (Q.assign rfl) ?_
    refine XO.done ?_
    refine XK.rt [emp] Try.func16 Try.results16 (.t rfl .n) ?_
    exact ⟨emp, rfl, by rw [(hz4 c0).1]; exact OArr.nil (fun _ => rfl)⟩
  · have _t0 := True.intro
    refine XK.skip ?_
    refine XK.seq ?_
    refine XK.region rfl ?_
    refine XO.lit [] [] [] encSpan (by rfl) (by rfl) rfl (by rfl) (by exact .n _) (fun _ => rfl) (by rfl) rfl (by infer_instance) rfl fun v5 h5 O5 => ?_
    refine XO.q (Q.move rfl) ?_
    refine XO.append rfl rfl rfl rfl (by first | omega | (simp; omega)) fun v7 h7 O7 => ?_
    refine XO.q (Q.assign rfl) ?_
    refine XO.done ?_
    refine XK.rt [h7] Try.func16 Try.results16 (.t rfl .n) ?_
    exact ⟨h7, rfl, O7⟩
theorem cloneC (v : Value) (h : PHeap) (xs : List BCell) [s : Arr v encCell 5 h xs] (hl : xs.length ≤ 68719476736) :
    Spec Try.prog 98 #[v] [] [h] (fun v' hs => ∃ h', hs = [h'] ∧ OArr v' encCell 5 163 h' xs) := by
  refine Spec.intro (fn := Try.f98) (N := 8) Try.func98 rfl Try.ntmps98 rfl fun B => ?_
  refine XK.seq ?_
  refine XK.region rfl ?_
  refine XO.q (Q.assign rfl) ?_
  refine XO.done ?_
  refine XK.seq ?_
  refine XK.seq ?_
  refine XK.region rfl ?_
  refine XO.q (Q.move rfl) ?_
  refine XO.eqNil rfl fun z4 hz4 => ?_
  refine XO.done ?_
  refine XK.if rfl (fun c0 => ?_) (fun c0 => ?_)
  · have _t0 := True.intro
    refine XK.seq ?_
    refine XK.region rfl ?_
    refine XO.q (Q.assign rfl) ?_
    refine XO.done ?_
    refine XK.rt [emp] Try.func98 Try.results98 (.t rfl .n) ?_
    exact ⟨emp, rfl, by rw [(hz4 c0).1]; exact OArr.nil (fun _ => rfl)⟩
  · have _t0 := True.intro
    refine XK.skip ?_
    refine XK.seq ?_
    refine XK.region rfl ?_
    refine XO.lit [] [] [] encCell (by rfl) (by rfl) rfl (by rfl) (by exact .n _) (fun _ => rfl) (by rfl) rfl (by infer_instance) rfl fun v5 h5 O5 => ?_
    refine XO.q (Q.move rfl) ?_
    refine XO.append rfl rfl rfl rfl (by first | omega | (simp; omega)) fun v7 h7 O7 => ?_
    refine XO.q (Q.assign rfl) ?_
    refine XO.done ?_
    refine XK.rt [h7] Try.func98 Try.results98 (.t rfl .n) ?_
    exact ⟨h7, rfl, O7⟩
theorem equalI (v1 v2 : Value) (h1 h2 : PHeap) (xs ys : List Int) [s1 : Arr v1 encI 1 h1 xs] [s2 : Arr v2 encI 1 h2 ys] :
    Spec Try.prog 24 #[v1, v2] [] [h1, h2] (fun v hs => v = .bool (decide (xs = ys)) ∧ hs = []) := by
  refine Spec.intro (fn := Try.f24) (N := 26) Try.func24 rfl Try.ntmps24 rfl fun B => ?_
  refine XK.seq ?_
  refine XK.region rfl ?_
  refine XO.q (Q.assign rfl) ?_
  refine XO.done ?_
  refine XK.seq ?_
  refine XK.seq ?_
  refine XK.region rfl ?_
  refine XO.q (Q.move rfl) ?_
  refine XO.len rfl fun l7 => ?_
  refine XO.q (Q.move rfl) ?_
  refine XO.len rfl fun l9 => ?_
  refine XO.q (Q.neq rfl rfl) ?_
  refine XO.done ?_
  refine XK.if rfl (fun c0 => ?_) (fun c0 => ?_)
  · have _t0 := True.intro
    refine XK.seq ?_
    refine XK.region rfl ?_
    refine XO.q (Q.assign rfl) ?_
    refine XO.done ?_
    refine XK.rt [] Try.func24 Try.results24 (.t rfl .n) ?_
    exact ⟨by rw [decide_eq_false (fun h => c0 (by rw [h]))], rfl⟩
  · have _t0 := True.intro
    refine XK.skip ?_
    refine XK.seq ?_
    refine XK.seq ?_
    refine XK.region rfl ?_
    refine XO.q (Q.move rfl) ?_
    refine XO.len rfl fun l12 => ?_
    refine XO.q (Q.move rfl) ?_
    refine XO.done ?_
    refine XK.block ?_
    refine XK.while (X := Nat) [4, 5, 13, 14, 15, 16, 17, 18, 19, 20, 21, 22, 23, 24, 25] (fun i => [(13, some (.int .i64 (i : Nat)))]) (fun i => []) (fun i => i ≤ xs.length ∧ xs.take i = ys.take i) (fun i => xs.length - i) (0) [] rfl ⟨by omega, rfl⟩ (.c rfl (.base 0 rfl rfl)) ?_
    rintro i ⟨hi, ht⟩ ih0
    dsimp only [List.cons_append, List.nil_append] at ih0 ⊢
    refine XK.seq ?_
    refine XK.region rfl ?_
    refine XO.q (Q.lss rfl rfl) ?_
    refine XO.done ?_
    refine XK.seq ?_
    refine XK.if rfl (fun c1 => ?_) (fun c1 => ?_)
    · have _t1 := True.intro
      refine XK.skip ?_
      refine XK.seq ?_
      refine XK.block ?_
      refine XK.seq ?_
      refine XK.region rfl ?_
      refine XO.q (Q.move rfl) ?_
      refine XO.q (Q.assign rfl) ?_
      refine XO.done ?_
      refine XK.seq ?_
      refine XK.drawn [0, 1, 2, 3, 4, 5, 6, 7, 8] [] [] (.q 0 (.q 1 (.q 2 (.q 3 (.q 4 (.q 5 (.q 6 (.q 7 (.q 8 .done))))))))) Try.mixed rfl (by kernel_rfl) ?_
      refine XT.q rfl rfl (Q.move rfl) ?_
      refine XT.q rfl rfl (Q.move rfl) ?_
      refine XT.ix rfl rfl rfl rfl (by omega) (by omega) fun i18 => ?_
      refine XT.q rfl rfl (Q.ldE rfl (by first | assumption | omega) rfl) ?_
      refine XT.q rfl rfl (Q.move rfl) ?_
      refine XT.q rfl rfl (Q.move rfl) ?_
      refine XT.ix rfl rfl rfl rfl (by omega) (by omega) fun i22 => ?_
      refine XT.q rfl rfl (Q.ldE rfl (by first | assumption | omega) rfl) ?_
      refine XT.q rfl rfl (Q.neq rfl rfl) ?_
      refine XT.done ?_
      refine XK.if rfl (fun c2 => ?_) (fun c2 => ?_)
      · have _t2 := True.intro
        refine XK.seq ?_
        refine XK.region rfl ?_
        refine XO.q (Q.assign rfl) ?_
        refine XO.done ?_
        refine XK.rt [] Try.func24 Try.results24 (.t rfl .n) ?_
        exact ⟨by rw [decide_eq_false (fun h => c2 (by rw [h]))], rfl⟩
      · have _t2 := True.intro
        refine XK.skip ?_
        refine XK.inBlock ?_
        refine XK.region rfl ?_
        refine XO.q (Q.add rfl rfl ⟨by omega, by omega⟩) ?_
        refine XO.q (Q.move rfl) ?_
        refine XO.done ?_
        exact ih0 (i + 1) _ _ ⟨by omega, take_step ht (by omega) (by omega) (Decidable.of_not_not c2)⟩ (by first | omega | (dsimp only; omega)) (.c rfl (.base 30 rfl rfl)) inferInstance
    · have _t1 := True.intro
      refine XK.exit rfl ?_
      refine XK.seq ?_
      refine XK.region rfl ?_
      refine XO.q (Q.assign rfl) ?_
      refine XO.done ?_
      refine XK.rt [] Try.func24 Try.results24 (.t rfl .n) ?_
      exact ⟨by rw [decide_eq_true (take_all ht c1 (by omega))], rfl⟩
theorem indexFuncI (v : Value) (h : PHeap) (xs : List Int) [s : Arr v encI 1 h xs] (gid : FuncId) (cap : List Value) (Hr : List PHeap) (p : Int → Bool)
    (hc : ∀ args w, (callFunc gid args).run Try.prog w = .ok (.enter gid args) w) (hS : ∀ x ∈ xs, Spec Try.prog gid (.int .i64 x :: cap).toArray [] Hr (fun v hs => v = .bool (p x) ∧ hs = [])) :
    Spec Try.prog 103 #[v, .func (.func gid) #[] cap.toArray] [] (h :: Hr) (fun v hs => v = .int .i64 (findFirst p xs) ∧ hs = []) := by
  refine Spec.intro (fn := Try.f103) (N := 19) Try.func103 rfl Try.ntmps103 rfl fun B => ?_
  refine XK.seq ?_
  refine XK.region rfl ?_
  refine XO.q (Q.assign rfl) ?_
  refine XO.done ?_
  refine XK.seq ?_
  refine XK.seq ?_
  refine XK.region rfl ?_
  refine XO.q (Q.move rfl) ?_
  refine XO.len rfl fun l7 => ?_
  refine XO.q (Q.move rfl) ?_
  refine XO.done ?_
  refine XK.block ?_
  refine XK.while (X := Nat) [4, 5, 8, 9, 10, 11, 12, 13, 14, 15, 16, 17, 18] (fun i => [(8, some (.int .i64 (i : Nat)))]) (fun i => []) (fun i => i ≤ xs.length ∧ (xs.take i).any p = false) (fun i => xs.length - i) (0) [] rfl ⟨by omega, rfl⟩ (.c rfl (.base 0 rfl rfl)) ?_
  rintro i ⟨hi, ht⟩ ih0
  dsimp only [List.cons_append, List.nil_append] at ih0 ⊢
  refine XK.seq ?_
  refine XK.region rfl ?_
  refine XO.q (Q.lss rfl rfl) ?_
  refine XO.done ?_
  refine XK.seq ?_
  refine XK.if rfl (fun c0 => ?_) (fun c0 => ?_)
  · have _t0 := True.intro
    refine XK.skip ?_
    refine XK.seq ?_
    refine XK.block ?_
    refine XK.seq ?_
    refine XK.region rfl ?_
    refine XO.q (Q.move rfl) ?_
    refine XO.q (Q.assign rfl) ?_
    refine XO.done ?_
    refine XK.seq ?_
    refine XK.region rfl ?_
    refine XO.q (Q.move rfl) ?_
    refine XO.q (Q.move rfl) ?_
    refine XO.q (Q.move rfl) ?_
    refine XO.ix rfl rfl (by omega) (by omega) fun i14 => ?_
    refine XO.q (Q.ldE rfl (by first | assumption | omega) rfl) ?_
    refine XO.call hc rfl rfl rfl (hS _ (getD_mem (by omega))) fun v16 s16 R16 => ?_
    obtain ⟨rfl, rfl⟩ := R16
    dsimp only [List.cons_append, List.nil_append]
    refine XO.done ?_
    refine XK.if rfl (fun c1 => ?_) (fun c1 => ?_)
    · have _t1 := True.intro
      refine XK.seq ?_
      refine XK.region rfl ?_
      refine XO.q (Q.move rfl) ?_
      refine XO.q (Q.assign rfl) ?_
      refine XO.done ?_
      refine XK.rt [] Try.func103 Try.results103 (.t rfl .n) ?_
      exact ⟨by rw [findFirst_here ht (by omega) c1], rfl⟩
    · have _t1 := True.intro
      refine XK.skip ?_
      refine XK.inBlock ?_
      refine XK.region rfl ?_
      refine XO.q (Q.add rfl rfl ⟨by omega, by omega⟩) ?_
      refine XO.q (Q.move rfl) ?_
      refine XO.done ?_
      exact ih0 (i + 1) _ _ ⟨by omega, any_step ht (by omega) (Bool.eq_false_iff.2 c1)⟩ (by first | omega | (dsimp only; omega)) (.c rfl (.base 25 rfl rfl)) inferInstance
  · have _t0 := True.intro
    refine XK.exit rfl ?_
    refine XK.seq ?_
    refine XK.region rfl ?_
    refine XO.q (Q.assign rfl) ?_
    refine XO.done ?_
    refine XK.rt [] Try.func103 Try.results103 (.t rfl .n) ?_
    exact ⟨by rw [findFirst_none ht c0], rfl⟩
theorem containsFuncI (v : Value) (h : PHeap) (xs : List Int) [s : Arr v encI 1 h xs] (gid : FuncId) (cap : List Value) (Hr : List PHeap) (p : Int → Bool)
    (hc : ∀ args w, (callFunc gid args).run Try.prog w = .ok (.enter gid args) w) (hS : ∀ x ∈ xs, Spec Try.prog gid (.int .i64 x :: cap).toArray [] Hr (fun v hs => v = .bool (p x) ∧ hs = [])) :
    Spec Try.prog 88 #[v, .func (.func gid) #[] cap.toArray] [] (h :: Hr) (fun v hs => v = .bool (xs.any p) ∧ hs = []) := by
  refine Spec.intro (fn := Try.f88) (N := 9) Try.func88 rfl Try.ntmps88 rfl fun B => ?_
  refine XK.seq ?_
  refine XK.region rfl ?_
  refine XO.q (Q.assign rfl) ?_
  refine XO.done ?_
  refine XK.seq ?_
  refine XK.region rfl ?_
  refine XO.q (Q.move rfl) ?_
  refine XO.q (Q.move rfl) ?_
  refine XO.call Try.call103 rfl rfl rfl (indexFuncI v h xs gid cap Hr p hc hS) fun v7 s7 R7 => ?_
  obtain ⟨rfl, rfl⟩ := R7
  dsimp only [List.cons_append, List.nil_append]
  refine XO.q (Q.geq rfl rfl) ?_
  refine XO.q (Q.assign rfl) ?_
  refine XO.done ?_
  refine XK.rt [] Try.func88 Try.results88 (.t rfl .n) ?_
  exact ⟨by rw [← findFirst_any], rfl⟩
theorem indexFuncB (v : Value) (h : PHeap) (xs : List BBat) [s : Arr v encBat 4 h xs] (gid : FuncId) (cap : List Value) (Hr : List PHeap) (p : BBat → Bool)
    (hc : ∀ args w, (callFunc gid args).run Try.prog w = .ok (.enter gid args) w) (hS : ∀ x ∈ xs, Spec Try.prog gid (batV x :: cap).toArray [] Hr (fun v hs => v = .bool (p x) ∧ hs = [])) :
    Spec Try.prog 92 #[v, .func (.func gid) #[] cap.toArray] [] (h :: Hr) (fun v hs => v = .int .i64 (findFirst p xs) ∧ hs = []) := by
  refine Spec.intro (fn := Try.f92) (N := 19) Try.func92 rfl Try.ntmps92 rfl fun B => ?_
  refine XK.seq ?_
  refine XK.region rfl ?_
  refine XO.q (Q.assign rfl) ?_
  refine XO.done ?_
  refine XK.seq ?_
  refine XK.seq ?_
  refine XK.region rfl ?_
  refine XO.q (Q.move rfl) ?_
  refine XO.len rfl fun l7 => ?_
  refine XO.q (Q.move rfl) ?_
  refine XO.done ?_
  refine XK.block ?_
  refine XK.while (X := Nat) [4, 5, 8, 9, 10, 11, 12, 13, 14, 15, 16, 17, 18] (fun i => [(8, some (.int .i64 (i : Nat)))]) (fun i => []) (fun i => i ≤ xs.length ∧ (xs.take i).any p = false) (fun i => xs.length - i) (0) [] rfl ⟨by omega, rfl⟩ (.c rfl (.base 0 rfl rfl)) ?_
  rintro i ⟨hi, ht⟩ ih0
  dsimp only [List.cons_append, List.nil_append] at ih0 ⊢
  refine XK.seq ?_
  refine XK.region rfl ?_
  refine XO.q (Q.lss rfl rfl) ?_
  refine XO.done ?_
  refine XK.seq ?_
  refine XK.if rfl (fun c0 => ?_) (fun c0 => ?_)
  · have _t0 := True.intro
    refine XK.skip ?_
    refine XK.seq ?_
    refine XK.block ?_
    refine XK.seq ?_
    refine XK.region rfl ?_
    refine XO.q (Q.move rfl) ?_
    refine XO.q (Q.assign rfl) ?_
    refine XO.done ?_
    refine XK.seq ?_
    refine XK.region rfl ?_
    refine XO.q (Q.move rfl) ?_
    refine XO.q (Q.move rfl) ?_
    refine XO.q (Q.move rfl) ?_
    refine XO.ix rfl rfl (by omega) (by omega) fun i14 => ?_
    refine XO.q (Q.ldEA [_, _, _, _] rfl (by first | assumption | omega) rfl rfl) ?_
    refine XO.call hc rfl rfl rfl (hS _ (getD_mem (by omega))) fun v16 s16 R16 => ?_
    obtain ⟨rfl, rfl⟩ := R16
    dsimp only [List.cons_append, List.nil_append]
    refine XO.done ?_
    refine XK.if rfl (fun c1 => ?_) (fun c1 => ?_)
    · have _t1 := True.intro
      refine XK.seq ?_
      refine XK.region rfl ?_
      refine XO.q (Q.move rfl) ?_
      refine XO.q (Q.assign rfl) ?_
      refine XO.done ?_
      refine XK.rt [] Try.func92 Try.results92 (.t rfl .n) ?_
      exact ⟨by rw [findFirst_here ht (by omega) c1], rfl⟩
    · have _t1 := True.intro
      refine XK.skip ?_
      refine XK.inBlock ?_
      refine XK.region rfl ?_
      refine XO.q (Q.add rfl rfl ⟨by omega, by omega⟩) ?_
      refine XO.q (Q.move rfl) ?_
      refine XO.done ?_
      exact ih0 (i + 1) _ _ ⟨by omega, any_step ht (by omega) (Bool.eq_false_iff.2 c1)⟩ (by first | omega | (dsimp only; omega)) (.c rfl (.base 25 rfl rfl)) inferInstance
  · have _t0 := True.intro
    refine XK.exit rfl ?_
    refine XK.seq ?_
    refine XK.region rfl ?_
    refine XO.q (Q.assign rfl) ?_
    refine XO.done ?_
    refine XK.rt [] Try.func92 Try.results92 (.t rfl .n) ?_
    exact ⟨by rw [findFirst_none ht c0], rfl⟩
theorem containsFuncB (v : Value) (h : PHeap) (xs : List BBat) [s : Arr v encBat 4 h xs] (gid : FuncId) (cap : List Value) (Hr : List PHeap) (p : BBat → Bool)
    (hc : ∀ args w, (callFunc gid args).run Try.prog w = .ok (.enter gid args) w) (hS : ∀ x ∈ xs, Spec Try.prog gid (batV x :: cap).toArray [] Hr (fun v hs => v = .bool (p x) ∧ hs = [])) :
    Spec Try.prog 66 #[v, .func (.func gid) #[] cap.toArray] [] (h :: Hr) (fun v hs => v = .bool (xs.any p) ∧ hs = []) := by
  refine Spec.intro (fn := Try.f66) (N := 9) Try.func66 rfl Try.ntmps66 rfl fun B => ?_
  refine XK.seq ?_
  refine XK.region rfl ?_
  refine XO.q (Q.assign rfl) ?_
  refine XO.done ?_
  refine XK.seq ?_
  refine XK.region rfl ?_
  refine XO.q (Q.move rfl) ?_
  refine XO.q (Q.move rfl) ?_
  refine XO.call Try.call92 rfl rfl rfl (indexFuncB v h xs gid cap Hr p hc hS) fun v7 s7 R7 => ?_
  obtain ⟨rfl, rfl⟩ := R7
  dsimp only [List.cons_append, List.nil_append]
  refine XO.q (Q.geq rfl rfl) ?_
  refine XO.q (Q.assign rfl) ?_
  refine XO.done ?_
  refine XK.rt [] Try.func66 Try.results66 (.t rfl .n) ?_
  exact ⟨by rw [← findFirst_any], rfl⟩
theorem indexFuncG (v : Value) (h : PHeap) (xs : List BGen) [s : Arr v encGen 5 h xs] (gid : FuncId) (cap : List Value) (Hr : List PHeap) (p : BGen → Bool)
    (hc : ∀ args w, (callFunc gid args).run Try.prog w = .ok (.enter gid args) w) (hS : ∀ x ∈ xs, Spec Try.prog gid (genV x :: cap).toArray [] Hr (fun v hs => v = .bool (p x) ∧ hs = [])) :
    Spec Try.prog 93 #[v, .func (.func gid) #[] cap.toArray] [] (h :: Hr) (fun v hs => v = .int .i64 (findFirst p xs) ∧ hs = []) := by
  refine Spec.intro (fn := Try.f93) (N := 19) Try.func93 rfl Try.ntmps93 rfl fun B => ?_
  refine XK.seq ?_
  refine XK.region rfl ?_
  refine XO.q (Q.assign rfl) ?_
  refine XO.done ?_
  refine XK.seq ?_
  refine XK.seq ?_
  refine XK.region rfl ?_
  refine XO.q (Q.move rfl) ?_
  refine XO.len rfl fun l7 => ?_
  refine XO.q (Q.move rfl) ?_
  refine XO.done ?_
  refine XK.block ?_
  refine XK.while (X := Nat) [4, 5, 8, 9, 10, 11, 12, 13, 14, 15, 16, 17, 18] (fun i => [(8, some (.int .i64 (i : Nat)))]) (fun i => []) (fun i => i ≤ xs.length ∧ (xs.take i).any p = false) (fun i => xs.length - i) (0) [] rfl ⟨by omega, rfl⟩ (.c rfl (.base 0 rfl rfl)) ?_
  rintro i ⟨hi, ht⟩ ih0
  dsimp only [List.cons_append, List.nil_append] at ih0 ⊢
  refine XK.seq ?_
  refine XK.region rfl ?_
  refine XO.q (Q.lss rfl rfl) ?_
  refine XO.done ?_
  refine XK.seq ?_
  refine XK.if rfl (fun c0 => ?_) (fun c0 => ?_)
  · have _t0 := True.intro
    refine XK.skip ?_
    refine XK.seq ?_
    refine XK.block ?_
    refine XK.seq ?_
    refine XK.region rfl ?_
    refine XO.q (Q.move rfl) ?_
    refine XO.q (Q.assign rfl) ?_
    refine XO.done ?_
    refine XK.seq ?_
    refine XK.region rfl ?_
    refine XO.q (Q.move rfl) ?_
    refine XO.q (Q.move rfl) ?_
    refine XO.q (Q.move rfl) ?_
    refine XO.ix rfl rfl (by omega) (by omega) fun i14 => ?_
    refine XO.q (Q.ldEA [_, _, _, _, _] rfl (by first | assumption | omega) rfl rfl) ?_
    refine XO.call hc rfl rfl rfl (hS _ (getD_mem (by omega))) fun v16 s16 R16 => ?_
    obtain ⟨rfl, rfl⟩ := R16
    dsimp only [List.cons_append, List.nil_append]
    refine XO.done ?_
    refine XK.if rfl (fun c1 => ?_) (fun c1 => ?_)
    · have _t1 := True.intro
      refine XK.seq ?_
      refine XK.region rfl ?_
      refine XO.q (Q.move rfl) ?_
      refine XO.q (Q.assign rfl) ?_
      refine XO.done ?_
      refine XK.rt [] Try.func93 Try.results93 (.t rfl .n) ?_
      exact ⟨by rw [findFirst_here ht (by omega) c1], rfl⟩
    · have _t1 := True.intro
      refine XK.skip ?_
      refine XK.inBlock ?_
      refine XK.region rfl ?_
      refine XO.q (Q.add rfl rfl ⟨by omega, by omega⟩) ?_
      refine XO.q (Q.move rfl) ?_
      refine XO.done ?_
      exact ih0 (i + 1) _ _ ⟨by omega, any_step ht (by omega) (Bool.eq_false_iff.2 c1)⟩ (by first | omega | (dsimp only; omega)) (.c rfl (.base 25 rfl rfl)) inferInstance
  · have _t0 := True.intro
    refine XK.exit rfl ?_
    refine XK.seq ?_
    refine XK.region rfl ?_
    refine XO.q (Q.assign rfl) ?_
    refine XO.done ?_
    refine XK.rt [] Try.func93 Try.results93 (.t rfl .n) ?_
    exact ⟨by rw [findFirst_none ht c0], rfl⟩
theorem containsFuncG (v : Value) (h : PHeap) (xs : List BGen) [s : Arr v encGen 5 h xs] (gid : FuncId) (cap : List Value) (Hr : List PHeap) (p : BGen → Bool)
    (hc : ∀ args w, (callFunc gid args).run Try.prog w = .ok (.enter gid args) w) (hS : ∀ x ∈ xs, Spec Try.prog gid (genV x :: cap).toArray [] Hr (fun v hs => v = .bool (p x) ∧ hs = [])) :
    Spec Try.prog 69 #[v, .func (.func gid) #[] cap.toArray] [] (h :: Hr) (fun v hs => v = .bool (xs.any p) ∧ hs = []) := by
  refine Spec.intro (fn := Try.f69) (N := 9) Try.func69 rfl Try.ntmps69 rfl fun B => ?_
  refine XK.seq ?_
  refine XK.region rfl ?_
  refine XO.q (Q.assign rfl) ?_
  refine XO.done ?_
  refine XK.seq ?_
  refine XK.region rfl ?_
  refine XO.q (Q.move rfl) ?_
  refine XO.q (Q.move rfl) ?_
  refine XO.call Try.call93 rfl rfl rfl (indexFuncG v h xs gid cap Hr p hc hS) fun v7 s7 R7 => ?_
  obtain ⟨rfl, rfl⟩ := R7
  dsimp only [List.cons_append, List.nil_append]
  refine XO.q (Q.geq rfl rfl) ?_
  refine XO.q (Q.assign rfl) ?_
  refine XO.done ?_
  refine XK.rt [] Try.func69 Try.results69 (.t rfl .n) ?_
  exact ⟨by rw [← findFirst_any], rfl⟩
theorem within1 (b : Nat) (m x : Int) : Spec Try.prog 89 #[.int .i64 x, ptr b 0] [] [blk b [.int .i64 m] 3] (fun v hs => v = .bool (outP m x) ∧ hs = []) := by
  refine Spec.intro (fn := Try.f89) (N := 11) Try.func89 rfl Try.ntmps89 rfl fun B => ?_
  refine XK.seq ?_
  refine XK.region rfl ?_
  refine XO.q (Q.assign rfl) ?_
  refine XO.done ?_
  refine XK.seq ?_
  refine XK.region rfl ?_
  refine XO.q (Q.move rfl) ?_
  refine XO.q (Q.lss rfl rfl) ?_
  refine XO.q (Q.move rfl) ?_
  refine XO.q (Quiet.guardF rfl rfl fun g7 p7 => Q.move rfl) ?_
  refine XO.q (Quiet.guardF rfl rfl fun g8 p8 => Q.ld rfl rfl) ?_
  refine XO.q (Quiet.guardF rfl rfl fun g9 p9 => Q.gtr (lzv g9 rfl) (lzv g9 rfl)) ?_
  refine XO.q (Q.or rfl (fun hp => lzv hp rfl)) ?_
  refine XO.q (Q.assign rfl) ?_
  refine XO.done ?_
  refine XK.rt [] Try.func89 Try.results89 (.t rfl .n) ?_
  exact ⟨rfl, rfl⟩
theorem within_spec (m : Int) (v : Value) (h : PHeap) (xs : List Int) [s : Arr v encI 1 h xs] : Spec Try.prog 59 #[.int .i64 m, v] [] [h] (fun v hs => v = .bool (inA m xs) ∧ hs = []) := by
  refine Spec.intro (fn := Try.f59) (N := 9) Try.func59 rfl Try.ntmps59 rfl fun B => ?_
  refine XK.seq ?_
  refine XK.region rfl ?_
  refine XO.box rfl fun b2 => ?_
  refine XO.q (Q.assign rfl) ?_
  refine XO.done ?_
  refine XK.seq ?_
  refine XK.region rfl ?_
  refine XO.q (Q.move rfl) ?_
  refine XO.q (Q.func (fun _ he => rfl) (fun _ he => evs_rel he rfl)) ?_
  refine XO.call Try.call88 rfl rfl rfl (containsFuncI v h xs 89 [ptr b2 0] [blk b2 [.int .i64 m] 3] (outP m) Try.call89 (fun x hx => within1 b2 m x)) fun v7 s7 R7 => ?_
  obtain ⟨rfl, rfl⟩ := R7
  dsimp only [List.cons_append, List.nil_append]
  refine XO.q (Q.not rfl) ?_
  refine XO.q (Q.assign rfl) ?_
  refine XO.done ?_
  refine XK.rt [] Try.func59 Try.results59 (.t rfl .n) ?_
  exact ⟨rfl, rfl⟩
theorem batRight (x : BBat) : Spec Try.prog 68 #[batV x] [] [] (fun v hs => v = .bool (batOk x) ∧ hs = []) := by
  refine Spec.intro (fn := Try.f68) (N := 24) Try.func68 rfl Try.ntmps68 rfl fun B => ?_
  refine XK.seq ?_
  refine XK.region rfl ?_
  refine XO.box rfl fun b1 => ?_
  refine XO.q (Q.assign rfl) ?_
  refine XO.done ?_
  refine XK.seq ?_
  refine XK.region rfl ?_
  refine XO.q (Q.fieldAddr rfl) ?_
  refine XO.q (Q.ld rfl rfl) ?_
  refine XO.q (Q.fieldAddr rfl) ?_
  refine XO.q (Q.ld rfl rfl) ?_
  refine XO.lit [_, _] [_, _] [x.energy, x.full] encI (by rfl) (by rfl) rfl (by rfl) (by exact .c 0 1 rfl rfl rfl (.c 1 1 rfl rfl rfl (.n _))) (fun _ => rfl) (by rfl) rfl (by infer_instance) rfl fun v7 h7 O7 => ?_
  refine XO.call Try.call59 rfl rfl rfl (within_spec 100000000000 v7 h7 [x.energy, x.full]) fun v8 s8 R8 => ?_
  obtain ⟨rfl, rfl⟩ := R8
  dsimp only [List.cons_append, List.nil_append]
  refine XO.q (Q.move rfl) ?_
  refine XO.q (Quiet.guardT rfl rfl fun g10 p10 => Q.fieldAddr rfl) ?_
  refine XO.q (Quiet.guardT rfl rfl fun g11 p11 => Q.ld (lzv g11 rfl) rfl) ?_
  refine XO.q (Quiet.guardT rfl rfl fun g12 p12 => Q.fieldAddr rfl) ?_
  refine XO.q (Quiet.guardT rfl rfl fun g13 p13 => Q.ld (lzv g13 rfl) rfl) ?_
  refine XO.q (Quiet.guardT rfl rfl fun g14 p14 => Q.leq (lzv g14 rfl) (lzv g14 rfl)) ?_
  refine XO.q (Q.and rfl (fun hp => lzv hp rfl)) ?_
  refine XO.q (Q.move rfl) ?_
  refine XO.q (Quiet.guardT rfl rfl fun g17 p17 => Q.fieldAddr rfl) ?_
  refine XO.q (Quiet.guardT rfl rfl fun g18 p18 => Q.ld (lzv g18 rfl) rfl) ?_
  refine XO.q (Quiet.guardT rfl rfl fun g19 p19 => Q.fieldAddr rfl) ?_
  refine XO.q (Quiet.guardT rfl rfl fun g20 p20 => Q.ld (lzv g20 rfl) rfl) ?_
  refine XO.lit1 [_, _] [_, _] [x.power, x.charge] encI rfl rfl (by rfl) (by rfl) rfl (by rfl) (fun g21 => by exact .c 0 1 (lzv g21 rfl) rfl rfl (.c 1 1 (lzv g21 rfl) rfl rfl (.n _))) (fun _ => rfl) (by rfl) rfl (fun _ => by infer_instance) rfl (fun v21 h21 O21 => ?_)
  refine XO.gcallT rfl rfl Try.call59 rfl (fun g22 => .c rfl (.c (lzv g22 rfl) .n)) rfl (fun g22 p22 => by haveI := O21 g22; exact within_spec 1000000 v21 h21 [x.power, x.charge]) ?_
  refine XO.q (Q.and rfl (fun hp => lzv hp rfl)) ?_
  refine XO.q (Q.assign rfl) ?_
  refine XO.done ?_
  refine XK.rt [] Try.func68 Try.results68 (.t rfl .n) ?_
  exact ⟨rfl, rfl⟩
theorem genRight (x : BGen) : Spec Try.prog 71 #[genV x] [] [] (fun v hs => v = .bool (genOk x) ∧ hs = []) := by
  refine Spec.intro (fn := Try.f71) (N := 27) Try.func71 rfl Try.ntmps71 rfl fun B => ?_
  refine XK.seq ?_
  refine XK.region rfl ?_
  refine XO.box rfl fun b1 => ?_
  refine XO.q (Q.assign rfl) ?_
  refine XO.done ?_
  refine XK.seq ?_
  refine XK.region rfl ?_
  refine XO.q (Q.fieldAddr rfl) ?_
  refine XO.q (Q.ld rfl rfl) ?_
  refine XO.q (Q.fieldAddr rfl) ?_
  refine XO.q (Q.ld rfl rfl) ?_
  refine XO.lit [_, _] [_, _] [x.power, x.ramp] encI (by rfl) (by rfl) rfl (by rfl) (by exact .c 0 1 rfl rfl rfl (.c 1 1 rfl rfl rfl (.n _))) (fun _ => rfl) (by rfl) rfl (by infer_instance) rfl fun v7 h7 O7 => ?_
  refine XO.call Try.call59 rfl rfl rfl (within_spec 1000000 v7 h7 [x.power, x.ramp]) fun v8 s8 R8 => ?_
  obtain ⟨rfl, rfl⟩ := R8
  dsimp only [List.cons_append, List.nil_append]
  refine XO.q (Q.move rfl) ?_
  refine XO.q (Quiet.guardT rfl rfl fun g10 p10 => Q.fieldAddr rfl) ?_
  refine XO.q (Quiet.guardT rfl rfl fun g11 p11 => Q.ld (lzv g11 rfl) rfl) ?_
  refine XO.q (Quiet.guardT rfl rfl fun g12 p12 => Q.fieldAddr rfl) ?_
  refine XO.q (Quiet.guardT rfl rfl fun g13 p13 => Q.ld (lzv g13 rfl) rfl) ?_
  refine XO.lit1 [_, _] [_, _] [x.delay, x.pause] encI rfl rfl (by rfl) (by rfl) rfl (by rfl) (fun g14 => by exact .c 0 1 (lzv g14 rfl) rfl rfl (.c 1 1 (lzv g14 rfl) rfl rfl (.n _))) (fun _ => rfl) (by rfl) rfl (fun _ => by infer_instance) rfl (fun v14 h14 O14 => ?_)
  refine XO.gcallT rfl rfl Try.call59 rfl (fun g15 => .c rfl (.c (lzv g15 rfl) .n)) rfl (fun g15 p15 => by haveI := O14 g15; exact within_spec 3600 v14 h14 [x.delay, x.pause]) ?_
  refine XO.q (Q.and rfl (fun hp => lzv hp rfl)) ?_
  refine XO.q (Q.move rfl) ?_
  refine XO.q (Quiet.guardT rfl rfl fun g18 p18 => Q.fieldAddr rfl) ?_
  refine XO.q (Quiet.guardT rfl rfl fun g19 p19 => Q.ld (lzv g19 rfl) rfl) ?_
  refine XO.q (Quiet.guardT rfl rfl fun g20 p20 => Q.geq (lzv g20 rfl) rfl) ?_
  refine XO.q (Q.and rfl (fun hp => lzv hp rfl)) ?_
  refine XO.q (Q.move rfl) ?_
  refine XO.q (Quiet.guardT rfl rfl fun g23 p23 => Q.fieldAddr rfl) ?_
  refine XO.q (Quiet.guardT rfl rfl fun g24 p24 => Q.ld (lzv g24 rfl) rfl) ?_
  refine XO.q (Quiet.guardT rfl rfl fun g25 p25 => Q.leq (lzv g25 rfl) rfl) ?_
  refine XO.q (Q.and rfl (fun hp => lzv hp rfl)) ?_
  refine XO.q (Q.assign rfl) ?_
  refine XO.done ?_
  refine XK.rt [] Try.func71 Try.results71 (.t rfl .n) ?_
  exact ⟨rfl, rfl⟩
theorem check1 (x : BBat) : Spec Try.prog 67 #[batV x] [] [] (fun v hs => v = .bool (!batOk x) ∧ hs = []) := by
  refine Spec.intro (fn := Try.f67) (N := 6) Try.func67 rfl Try.ntmps67 rfl fun B => ?_
  refine XK.seq ?_
  refine XK.region rfl ?_
  refine XO.box rfl fun b1 => ?_
  refine XO.q (Q.assign rfl) ?_
  refine XO.done ?_
  refine XK.seq ?_
  refine XK.region rfl ?_
  refine XO.q (Q.ldA [_, _, _, _] rfl rfl rfl) ?_
  refine XO.call Try.call68 rfl rfl rfl (batRight x) fun v4 s4 R4 => ?_
  obtain ⟨rfl, rfl⟩ := R4
  dsimp only [List.cons_append, List.nil_append]
  refine XO.q (Q.not rfl) ?_
  refine XO.q (Q.assign rfl) ?_
  refine XO.done ?_
  refine XK.rt [] Try.func67 Try.results67 (.t rfl .n) ?_
  exact ⟨rfl, rfl⟩
theorem check2 (x : BGen) : Spec Try.prog 70 #[genV x] [] [] (fun v hs => v = .bool (!genOk x) ∧ hs = []) := by
  refine Spec.intro (fn := Try.f70) (N := 6) Try.func70 rfl Try.ntmps70 rfl fun B => ?_
  refine XK.seq ?_
  refine XK.region rfl ?_
  refine XO.box rfl fun b1 => ?_
  refine XO.q (Q.assign rfl) ?_
  refine XO.done ?_
  refine XK.seq ?_
  refine XK.region rfl ?_
  refine XO.q (Q.ldA [_, _, _, _, _] rfl rfl rfl) ?_
  refine XO.call Try.call71 rfl rfl rfl (genRight x) fun v4 s4 R4 => ?_
  obtain ⟨rfl, rfl⟩ := R4
  dsimp only [List.cons_append, List.nil_append]
  refine XO.q (Q.not rfl) ?_
  refine XO.q (Q.assign rfl) ?_
  refine XO.done ?_
  refine XK.rt [] Try.func70 Try.results70 (.t rfl .n) ?_
  exact ⟨rfl, rfl⟩
theorem Check_spec (b : BBank) (vb vg : Value) (hb hg : PHeap) [ib : Arr vb encBat 4 hb b.bats] [ig : Arr vg encGen 5 hg b.gens] : Spec Try.prog 38 #[.agg #[vb, vg]] [] [hb, hg] (fun v hs => v = .int .i64 (bcheck b) ∧ hs = []) := by
  have lb := ib.le
  have lg := ig.le
  refine Spec.intro (fn := Try.f38) (N := 23) Try.func38 rfl Try.ntmps38 rfl fun B => ?_
  refine XK.seq ?_
  refine XK.region rfl ?_
  refine XO.box rfl fun b1 => ?_
  refine XO.q (Q.assign rfl) ?_
  refine XO.done ?_
  refine XK.seq ?_
  refine XK.block ?_
  refine XK.seq ?_
  refine XK.region rfl ?_
  refine XO.q (Q.fieldAddr rfl) ?_
  refine XO.q (Q.ld rfl rfl) ?_
  refine XO.len rfl fun l6 => ?_
  refine XO.q (Q.gtr rfl rfl) ?_
  refine XO.q (Q.move rfl) ?_
  refine XO.q (Quiet.guardF rfl rfl fun g9 p9 => Q.fieldAddr rfl) ?_
  refine XO.q (Quiet.guardF rfl rfl fun g10 p10 => Q.ld (lzv g10 rfl) rfl) ?_
  refine XO.q (Quiet.guardF rfl rfl fun g11 p11 => Q.len (lzv g11 rfl)) ?_
  refine XO.q (Quiet.guardF rfl rfl fun g12 p12 => Q.gtr (lzv g12 rfl) rfl) ?_
  refine XO.q (Q.or rfl (fun hp => lzv hp rfl)) ?_
  refine XO.q (Q.assign rfl) ?_
  refine XO.done ?_
  refine XK.if rfl (fun c0 => ?_) (fun c0 => ?_)
  · have _t0 := True.intro
    refine XK.seq ?_
    refine XK.region rfl ?_
    refine XO.q (Q.assign rfl) ?_
    refine XO.done ?_
    refine XK.rt [] Try.func38 Try.results38 (.t rfl .n) ?_
    exact ⟨by rw [bcheck, if_pos (by omega)], rfl⟩
  · have _t0 := True.intro
    refine XK.seq ?_
    refine XK.region rfl ?_
    refine XO.q (Q.fieldAddr rfl) ?_
    refine XO.q (Q.ld rfl rfl) ?_
    refine XO.call Try.call66 rfl rfl rfl (containsFuncB vb hb b.bats 67 [] [] (fun x => !batOk x) Try.call67 (fun x hx => check1 x)) fun v17 s17 R17 => ?_
    obtain ⟨rfl, rfl⟩ := R17
    dsimp only [List.cons_append, List.nil_append]
    refine XO.q (Q.move rfl) ?_
    refine XO.q (Quiet.guardF rfl rfl fun g19 p19 => Q.fieldAddr rfl) ?_
    refine XO.q (Quiet.guardF rfl rfl fun g20 p20 => Q.ld (lzv g20 rfl) rfl) ?_
    refine XO.gcallF rfl rfl Try.call69 rfl (fun g21 => .c (lzv g21 rfl) (.c rfl .n)) rfl (fun g21 p21 => containsFuncG vg hg b.gens 70 [] [] (fun x => !genOk x) Try.call70 (fun x hx => check2 x)) ?_
    refine XO.q (Q.or rfl (fun hp => lzv hp rfl)) ?_
    refine XO.q (Q.assign rfl) ?_
    refine XO.done ?_
    refine XK.if rfl (fun c1 => ?_) (fun c1 => ?_)
    · have _t1 := True.intro
      refine XK.seq ?_
      refine XK.region rfl ?_
      refine XO.q (Q.assign rfl) ?_
      refine XO.done ?_
      refine XK.rt [] Try.func38 Try.results38 (.t rfl .n) ?_
      exact ⟨by rw [bcheck, if_neg (by omega), if_pos (by simpa using c1)], rfl⟩
    · have _t1 := True.intro
      refine XK.skip ?_
      refine XK.inBlock ?_
      refine XK.seq ?_
      refine XK.region rfl ?_
      refine XO.q (Q.assign rfl) ?_
      refine XO.done ?_
      refine XK.rt [] Try.func38 Try.results38 (.t rfl .n) ?_
      exact ⟨by rw [bcheck, if_neg (by omega), if_neg (by simpa using c1)], rfl⟩
end Go.X

set_option linter.unusedSimpArgs false
set_option linter.unusedVariables false
set_option maxRecDepth 20000
namespace Go.X
open Go.Proofs
theorem mul_le {a b m n : Int} (h1 : 0 ≤ a) (h2 : a ≤ m) (h3 : 0 ≤ b) (h4 : b ≤ n) : 0 ≤ a * b ∧ a * b ≤ m * n :=
  ⟨Int.mul_nonneg h1 h3, Int.mul_le_mul h2 h4 h3 (by omega)⟩
theorem start_spec (g : BGen) (gk : GenOk g) (f : Int) (hf : 0 ≤ f) (hf1 : f ≤ g.tries) : Spec Try.prog 73 #[genV g, .int .i64 f] [] [] (fun v hs => v = .int .i64 (startP g f) ∧ hs = []) := by
  have q1 := gk.t1
  have m1 := mul_le (a := f + 1) (b := g.delay) (m := 6) (n := 3600) (by omega) (by omega) gk.d0 gk.d1
  have m2 := mul_le (a := f) (b := g.pause) (m := 5) (n := 3600) (by omega) (by omega) gk.q0 gk.q1
  refine Spec.intro (fn := Try.f73) (N := 19) Try.func73 rfl Try.ntmps73 rfl fun B => ?_
  refine XK.seq ?_
  refine XK.region rfl ?_
  refine XO.box rfl fun b2 => ?_
  refine XO.q (Q.assign rfl) ?_
  refine XO.done ?_
  refine XK.seq ?_
  refine XK.seq ?_
  refine XK.region rfl ?_
  refine XO.q (Q.move rfl) ?_
  refine XO.q (Q.fieldAddr rfl) ?_
  refine XO.q (Q.ld rfl rfl) ?_
  refine XO.q (Q.eql rfl rfl) ?_
  refine XO.done ?_
  refine XK.if rfl (fun c0 => ?_) (fun c0 => ?_)
  · have _t0 := True.intro
    refine XK.seq ?_
    refine XK.region rfl ?_
    refine XO.q (Q.assign rfl) ?_
    refine XO.done ?_
    refine XK.rt [] Try.func73 Try.results73 (.t rfl .n) ?_
    exact ⟨by rw [startP, if_pos c0], rfl⟩
  · have _t0 := True.intro
    refine XK.skip ?_
    refine XK.seq ?_
    refine XK.region rfl ?_
    refine XO.q (Q.move rfl) ?_
    refine XO.q (Q.add rfl rfl ⟨by omega, by omega⟩) ?_
    refine XO.q (Q.fieldAddr rfl) ?_
    refine XO.q (Q.ld rfl rfl) ?_
    refine XO.q (Q.mul rfl rfl ⟨by omega, by omega⟩) ?_
    refine XO.q (Q.move rfl) ?_
    refine XO.q (Q.fieldAddr rfl) ?_
    refine XO.q (Q.ld rfl rfl) ?_
    refine XO.q (Q.mul rfl rfl ⟨by omega, by omega⟩) ?_
    refine XO.q (Q.add rfl rfl ⟨by omega, by omega⟩) ?_
    refine XO.q (Q.assign rfl) ?_
    refine XO.done ?_
    refine XK.rt [] Try.func73 Try.results73 (.t rfl .n) ?_
    exact ⟨by rw [startP, if_neg c0], rfl⟩
theorem loaded_spec (l : List BSpan) (vl : Value) (hl : PHeap) [il : Arr vl encSpan 2 hl l] : Spec Try.prog 79 #[vl] [] [hl] (fun v hs => v = .tuple #[.int .i64 (loadedP l).1, .int .i64 (loadedP l).2] ∧ hs = []) := by
  have ll := il.le
  refine Spec.intro (fn := Try.f79) (N := 39) Try.func79 rfl Try.ntmps79 rfl fun B => ?_
  refine XK.seq ?_
  refine XK.region rfl ?_
  refine XO.q (Q.assign rfl) ?_
  refine XO.q (Q.assign rfl) ?_
  refine XO.done ?_
  refine XK.seq ?_
  refine XK.seq ?_
  refine XK.region rfl ?_
  refine XO.q (Q.move rfl) ?_
  refine XO.len rfl fun l8 => ?_
  refine XO.q (Q.gtr rfl rfl) ?_
  refine XO.done ?_
  refine XK.if rfl (fun c0 => ?_) (fun c0 => ?_)
  · have _t0 := True.intro
    refine XK.seq ?_
    refine XK.region rfl ?_
    refine XO.q (Q.assign rfl) ?_
    refine XO.q (Q.assign rfl) ?_
    refine XO.done ?_
    refine XK.rt [] Try.func79 Try.results79 (.t rfl (.t rfl .n)) ?_
    exact ⟨by rw [loadedP, if_pos (by omega)], rfl⟩
  · have _t0 := True.intro
    refine XK.skip ?_
    refine XK.seq ?_
    refine XK.region rfl ?_
    refine XO.q (Q.assign rfl) ?_
    refine XO.done ?_
    refine XK.seq ?_
    refine XK.seq ?_
    refine XK.region rfl ?_
    refine XO.q (Q.move rfl) ?_
    refine XO.len rfl fun l11 => ?_
    refine XO.q (Q.move rfl) ?_
    refine XO.done ?_
    refine XK.block ?_
    refine XK.while (X := Nat) [2, 3, 4, 6, 12, 13, 14, 15, 16, 17, 18, 19, 20, 21, 22, 23, 24, 25, 26, 27, 28, 29, 30, 31, 32, 33, 34, 35] (fun i => [(4, some (.int .i64 (secs l i))), (12, some (.int .i64 (i : Nat)))]) (fun i => []) (fun i => i ≤ l.length ∧ i ≤ 64 ∧ (l.take i).any badSpan = false ∧ 0 ≤ secs l i ∧ secs l i ≤ 3600 * i) (fun i => l.length - i) (0) [] rfl ⟨by omega, by omega, rfl, by simp [secs], by simp [secs]⟩ (.c rfl (.c rfl (.base 0 rfl rfl))) ?_
    rintro i ⟨hi, hi2, ha, hs0, hs1⟩ ih0
    dsimp only [List.cons_append, List.nil_append] at ih0 ⊢
    refine XK.seq ?_
    refine XK.region rfl ?_
    refine XO.q (Q.lss rfl rfl) ?_
    refine XO.done ?_
    refine XK.seq ?_
    refine XK.if rfl (fun c1 => ?_) (fun c1 => ?_)
    · have _t1 := True.intro
      refine XK.skip ?_
      refine XK.seq ?_
      refine XK.block ?_
      refine XK.seq ?_
      refine XK.region rfl ?_
      refine XO.ix rfl rfl (by omega) (by omega) fun i14 => ?_
      refine XO.q (Q.ldEA [_, _] rfl (by first | assumption | omega) rfl rfl) ?_
      refine XO.alloc fun b6 => ?_
      refine XO.st rfl rfl rfl ?_
      refine XO.done ?_
      refine XK.seq ?_
      refine XK.seq ?_
      refine XK.region rfl ?_
      refine XO.q (Q.fieldAddr rfl) ?_
      refine XO.q (Q.ld rfl rfl) ?_
      refine XO.q (Q.lss rfl rfl) ?_
      refine XO.q (Q.move rfl) ?_
      refine XO.q (Quiet.guardF rfl rfl fun g20 p20 => Q.fieldAddr rfl) ?_
      refine XO.q (Quiet.guardF rfl rfl fun g21 p21 => Q.ld (lzv g21 rfl) rfl) ?_
      refine XO.q (Quiet.guardF rfl rfl fun g22 p22 => Q.gtr (lzv g22 rfl) rfl) ?_
      refine XO.q (Q.or rfl (fun hp => lzv hp rfl)) ?_
      refine XO.q (Q.move rfl) ?_
      refine XO.q (Quiet.guardF rfl rfl fun g25 p25 => Q.fieldAddr rfl) ?_
      refine XO.q (Quiet.guardF rfl rfl fun g26 p26 => Q.ld (lzv g26 rfl) rfl) ?_
      refine XO.lit1 [_] [_] [(l.getD i default).power] encI rfl rfl (by rfl) (by rfl) rfl (by rfl) (fun g27 => by exact .c 0 1 (lzv g27 rfl) rfl rfl (.n _)) (fun _ => rfl) (by rfl) rfl (fun _ => by infer_instance) rfl (fun v27 h27 O27 => ?_)
      refine XO.gcallF rfl rfl Try.call59 rfl (fun g28 => .c rfl (.c (lzv g28 rfl) .n)) rfl (fun g28 p28 => by haveI := O27 g28; exact within_spec 1000000 v27 h27 [(l.getD i default).power]) ?_
      refine XO.q (Quiet.guardF rfl rfl fun g29 p29 => Q.not (lzv g29 rfl)) ?_
      refine XO.q (Q.or rfl (fun hp => lzv hp rfl)) ?_
      refine XO.done ?_
      refine XK.if rfl (fun c2 => ?_) (fun c2 => ?_)
      · have _t2 := True.intro
        refine XK.seq ?_
        refine XK.region rfl ?_
        refine XO.q (Q.assign rfl) ?_
        refine XO.q (Q.assign rfl) ?_
        refine XO.done ?_
        refine XK.rt [] Try.func79 Try.results79 (.t rfl (.t rfl .n)) ?_
        have hb : badSpan (l.getD i default) = true := by simpa [badSpan, or_assoc] using c2
        exact ⟨by rw [loadedP, if_neg (by omega), if_pos (List.any_eq_true.2 ⟨_, getD_mem (by omega), hb⟩)], rfl⟩
      · have _t2 := True.intro
        have bs : badSpan (l.getD i default) = false := by
          rw [Bool.eq_false_iff]
          exact fun hh => c2 (by simpa [badSpan, or_assoc] using hh)
        have bt := badSpan_false.1 bs
        refine XK.skip ?_
        refine XK.region rfl ?_
        refine XO.q (Q.move rfl) ?_
        refine XO.q (Q.fieldAddr rfl) ?_
        refine XO.q (Q.ld rfl rfl) ?_
        refine XO.q (Q.add rfl rfl ⟨by omega, by omega⟩) ?_
        refine XO.q (Q.assign rfl) ?_
        refine XO.done ?_
        refine XK.inBlock ?_
        refine XK.region rfl ?_
        refine XO.q (Q.add rfl rfl ⟨by omega, by omega⟩) ?_
        refine XO.q (Q.move rfl) ?_
        refine XO.done ?_
        exact ih0 (i + 1) _ _ ⟨by omega, by omega, any_step ha (by omega) bs, by rw [secs]; omega, by rw [secs]; omega⟩ (by first | omega | (dsimp only; omega)) (.c rfl (.c rfl (.base 56 rfl rfl))) inferInstance
    · have _t1 := True.intro
      refine XK.exit rfl ?_
      refine XK.seq ?_
      refine XK.seq ?_
      refine XK.region rfl ?_
      refine XO.q (Q.move rfl) ?_
      refine XO.q (Q.gtr rfl rfl) ?_
      refine XO.done ?_
      refine XK.if rfl (fun c3 => ?_) (fun c3 => ?_)
      · have _t3 := True.intro
        refine XK.seq ?_
        refine XK.region rfl ?_
        refine XO.q (Q.assign rfl) ?_
        refine XO.q (Q.assign rfl) ?_
        refine XO.done ?_
        refine XK.rt [] Try.func79 Try.results79 (.t rfl (.t rfl .n)) ?_
        have hil : i = l.length := by omega
        subst hil
        rw [List.take_length] at ha
        exact ⟨by rw [loadedP, if_neg (by omega), if_neg (by rw [ha]; decide), if_pos (by omega)], rfl⟩
      · have _t3 := True.intro
        refine XK.skip ?_
        refine XK.seq ?_
        refine XK.region rfl ?_
        refine XO.q (Q.move rfl) ?_
        refine XO.q (Q.assign rfl) ?_
        refine XO.q (Q.assign rfl) ?_
        refine XO.done ?_
        refine XK.rt [] Try.func79 Try.results79 (.t rfl (.t rfl .n)) ?_
        have hil : i = l.length := by omega
        subst hil
        rw [List.take_length] at ha
        exact ⟨by rw [loadedP, if_neg (by omega), if_neg (by rw [ha]; decide), if_neg (by omega)], rfl⟩
theorem fit_spec (b : BBank) (vb vg : Value) (hb hg : PHeap) [ib : Arr vb encBat 4 hb b.bats] [ig : Arr vg encGen 5 hg b.gens] (fs : List Int) (vf : Value) (hf : PHeap) [jf : Arr vf encI 1 hf fs] : Spec Try.prog 90 #[.agg #[vb, vg], vf] [] [hb, hg, hf] (fun v hs => v = .bool (fitP b fs) ∧ hs = []) := by
  have lg := ig.le
  have lf := jf.le
  refine Spec.intro (fn := Try.f90) (N := 36) Try.func90 rfl Try.ntmps90 rfl fun B => ?_
  refine XK.seq ?_
  refine XK.region rfl ?_
  refine XO.box rfl fun b2 => ?_
  refine XO.q (Q.assign rfl) ?_
  refine XO.done ?_
  refine XK.seq ?_
  refine XK.seq ?_
  refine XK.region rfl ?_
  refine XO.q (Q.move rfl) ?_
  refine XO.len rfl fun l8 => ?_
  refine XO.q (Q.fieldAddr rfl) ?_
  refine XO.q (Q.ld rfl rfl) ?_
  refine XO.len rfl fun l11 => ?_
  refine XO.q (Q.neq rfl rfl) ?_
  refine XO.done ?_
  refine XK.if rfl (fun c0 => ?_) (fun c0 => ?_)
  · have _t0 := True.intro
    refine XK.seq ?_
    refine XK.region rfl ?_
    refine XO.q (Q.assign rfl) ?_
    refine XO.done ?_
    refine XK.rt [] Try.func90 Try.results90 (.t rfl .n) ?_
    exact ⟨by rw [fitP, decide_eq_false (by omega)]; rfl, rfl⟩
  · have _t0 := True.intro
    refine XK.skip ?_
    refine XK.seq ?_
    refine XK.seq ?_
    refine XK.region rfl ?_
    refine XO.q (Q.fieldAddr rfl) ?_
    refine XO.q (Q.ld rfl rfl) ?_
    refine XO.len rfl fun l15 => ?_
    refine XO.q (Q.move rfl) ?_
    refine XO.done ?_
    refine XK.block ?_
    refine XK.while (X := Nat) [4, 5, 6, 16, 17, 18, 19, 20, 21, 22, 23, 24, 25, 26, 27, 28, 29, 30, 31, 32, 33, 34, 35] (fun i => [(16, some (.int .i64 (i : Nat)))]) (fun i => []) (fun i => i ≤ b.gens.length ∧ allTo (fun i => !badFail b fs i) i = true) (fun i => b.gens.length - i) (0) [] rfl ⟨by omega, rfl⟩ (.c rfl (.base 0 rfl rfl)) ?_
    rintro i ⟨hi, ha⟩ ih0
    dsimp only [List.cons_append, List.nil_append] at ih0 ⊢
    refine XK.seq ?_
    refine XK.region rfl ?_
    refine XO.q (Q.lss rfl rfl) ?_
    refine XO.done ?_
    refine XK.seq ?_
    refine XK.if rfl (fun c1 => ?_) (fun c1 => ?_)
    · have _t1 := True.intro
      refine XK.skip ?_
      refine XK.seq ?_
      refine XK.block ?_
      refine XK.seq ?_
      refine XK.region rfl ?_
      refine XO.q (Q.move rfl) ?_
      refine XO.ix rfl rfl (by omega) (by omega) fun i19 => ?_
      refine XO.q (Q.ldEA [_, _, _, _, _] rfl (by first | assumption | omega) rfl rfl) ?_
      refine XO.alloc fun b6 => ?_
      refine XO.q (Q.assign rfl) ?_
      refine XO.st rfl rfl rfl ?_
      refine XO.done ?_
      refine XK.seq ?_
      refine XK.drawn [0, 1, 2, 3, 4, 5, 6, 7, 8, 9, 10, 11, 12, 13] [b6] [] (.q 0 (.q 1 (.q 2 (.q 3 (.q 4 (.q 5 (.q 6 (.q 7 (.q 8 (.q 9 (.q 10 (.q 11 (.q 12 (.q 13 .done)))))))))))))) Try.mixed rfl (by kernel_rfl) ?_
      refine XT.q rfl rfl (Q.move rfl) ?_
      refine XT.q rfl rfl (Q.move rfl) ?_
      refine XT.ix rfl rfl rfl rfl (by omega) (by omega) fun i23 => ?_
      refine XT.q rfl rfl (Q.ldE rfl (by first | assumption | omega) rfl) ?_
      refine XT.q rfl rfl (Q.lss rfl rfl) ?_
      refine XT.q rfl rfl (Q.move rfl) ?_
      refine XT.q rfl rfl (Quiet.guardF rfl rfl fun g27 p27 => Q.move rfl) ?_
      refine XT.q rfl rfl (Quiet.guardF rfl rfl fun g28 p28 => Q.move rfl) ?_
      refine XT.q rfl rfl (Quiet.guardF rfl rfl fun g29 p29 => Q.ix (lzv g29 rfl) (lzv g29 rfl) (by omega) (by omega)) ?_
      refine XT.q rfl rfl (Quiet.guardF rfl rfl fun g30 p30 => Q.ldE (lzv g30 rfl) (by first | assumption | omega) rfl) ?_
      refine XT.q rfl rfl (Quiet.guardF rfl rfl fun g31 p31 => Q.fieldAddr rfl) ?_
      refine XT.q rfl rfl (Quiet.guardF rfl rfl fun g32 p32 => Q.ld (lzv g32 rfl) rfl) ?_
      refine XT.q rfl rfl (Quiet.guardF rfl rfl fun g33 p33 => Q.gtr (lzv g33 rfl) (lzv g33 rfl)) ?_
      refine XT.q rfl rfl (Q.or rfl (fun hp => lzv hp rfl)) ?_
      refine XT.done ?_
      refine XK.if rfl (fun c2 => ?_) (fun c2 => ?_)
      · have _t2 := True.intro
        refine XK.seq ?_
        refine XK.region rfl ?_
        refine XO.q (Q.assign rfl) ?_
        refine XO.done ?_
        refine XK.rt [] Try.func90 Try.results90 (.t rfl .n) ?_
        have hb : badFail b fs i = true := by simpa [badFail] using c2
        exact ⟨by rw [fitP, allTo_false (s := i) (by omega) (by rw [hb]; rfl), Bool.and_false], rfl⟩
      · have _t2 := True.intro
        refine XK.skip ?_
        refine XK.inBlock ?_
        refine XK.region rfl ?_
        refine XO.q (Q.add rfl rfl ⟨by omega, by omega⟩) ?_
        refine XO.q (Q.move rfl) ?_
        refine XO.done ?_
        exact ih0 (i + 1) _ _ ⟨by omega, by rw [allTo_succ, ha, Bool.true_and, Bool.not_eq_true', Bool.eq_false_iff]; exact fun hh => c2 (by simpa [badFail] using hh)⟩ (by first | omega | (dsimp only; omega)) (.c rfl (.base 46 rfl rfl)) inferInstance
    · have _t1 := True.intro
      refine XK.exit rfl ?_
      refine XK.seq ?_
      refine XK.region rfl ?_
      refine XO.q (Q.assign rfl) ?_
      refine XO.done ?_
      refine XK.rt [] Try.func90 Try.results90 (.t rfl .n) ?_
      have hil : i = b.gens.length := by omega
      subst hil
      exact ⟨by rw [fitP, ha, decide_eq_true (by omega)]; rfl, rfl⟩
theorem ready_spec (b : BBank) (vb vg : Value) (hb hg : PHeap) [ib : Arr vb encBat 4 hb b.bats] [ig : Arr vg encGen 5 hg b.gens] (l : List BSpan) (vl : Value) (hl : PHeap) [il : Arr vl encSpan 2 hl l] (fs : List Int) (vf : Value) (hf : PHeap) [jf : Arr vf encI 1 hf fs] : Spec Try.prog 63 #[.agg #[vb, vg], vl, vf] [] [hb, hg, hl, hf] (fun v hs => v = .int .i64 (readyP b l fs) ∧ hs = []) := by
  refine Spec.intro (fn := Try.f63) (N := 27) Try.func63 rfl Try.ntmps63 rfl fun B => ?_
  refine XK.seq ?_
  refine XK.region rfl ?_
  refine XO.box rfl fun b3 => ?_
  refine XO.q (Q.assign rfl) ?_
  refine XO.done ?_
  refine XK.seq ?_
  refine XK.seq ?_
  refine XK.region rfl ?_
  refine XO.q (Q.ldA [_, _] rfl rfl rfl) ?_
  refine XO.call Try.call38 rfl rfl rfl (Check_spec b vb vg hb hg) fun v11 s11 R11 => ?_
  obtain ⟨rfl, rfl⟩ := R11
  dsimp only [List.cons_append, List.nil_append]
  refine XO.q (Q.assign rfl) ?_
  refine XO.done ?_
  refine XK.seq ?_
  refine XK.region rfl ?_
  refine XO.q (Q.move rfl) ?_
  refine XO.q (Q.neq rfl rfl) ?_
  refine XO.done ?_
  refine XK.if rfl (fun c0 => ?_) (fun c0 => ?_)
  · have _t0 := True.intro
    refine XK.seq ?_
    refine XK.region rfl ?_
    refine XO.q (Q.move rfl) ?_
    refine XO.q (Q.assign rfl) ?_
    refine XO.done ?_
    refine XK.rt [] Try.func63 Try.results63 (.t rfl .n) ?_
    exact ⟨by rw [readyP, if_pos c0], rfl⟩
  · have _t0 := True.intro
    refine XK.skip ?_
    refine XK.seq ?_
    refine XK.seq ?_
    refine XK.region rfl ?_
    refine XO.q (Q.move rfl) ?_
    refine XO.call Try.call79 rfl rfl rfl (loaded_spec l vl hl) fun v17 s17 R17 => ?_
    obtain ⟨rfl, rfl⟩ := R17
    dsimp only [List.cons_append, List.nil_append]
    refine XO.q (Q.move rfl) ?_
    refine XO.q (Q.extract rfl rfl) ?_
    refine XO.q (Q.extract rfl rfl) ?_
    refine XO.q (Q.assign rfl) ?_
    refine XO.q (Q.assign rfl) ?_
    refine XO.done ?_
    refine XK.seq ?_
    refine XK.region rfl ?_
    refine XO.q (Q.move rfl) ?_
    refine XO.q (Q.neq rfl rfl) ?_
    refine XO.done ?_
    refine XK.if rfl (fun c1 => ?_) (fun c1 => ?_)
    · have _t1 := True.intro
      refine XK.seq ?_
      refine XK.region rfl ?_
      refine XO.q (Q.move rfl) ?_
      refine XO.q (Q.assign rfl) ?_
      refine XO.done ?_
      refine XK.rt [] Try.func63 Try.results63 (.t rfl .n) ?_
      exact ⟨by rw [readyP, if_neg c0, if_pos c1], rfl⟩
    · have _t1 := True.intro
      refine XK.skip ?_
      refine XK.seq ?_
      refine XK.seq ?_
      refine XK.region rfl ?_
      refine XO.q (Q.ldA [_, _] rfl rfl rfl) ?_
      refine XO.q (Q.move rfl) ?_
      refine XO.call Try.call90 rfl rfl rfl (fit_spec b vb vg hb hg fs vf hf) fun v25 s25 R25 => ?_
      obtain ⟨rfl, rfl⟩ := R25
      dsimp only [List.cons_append, List.nil_append]
      refine XO.q (Q.not rfl) ?_
      refine XO.done ?_
      refine XK.if rfl (fun c2 => ?_) (fun c2 => ?_)
      · have _t2 := True.intro
        refine XK.seq ?_
        refine XK.region rfl ?_
        refine XO.q (Q.assign rfl) ?_
        refine XO.done ?_
        refine XK.rt [] Try.func63 Try.results63 (.t rfl .n) ?_
        exact ⟨by rw [readyP, if_neg c0, if_neg c1, if_pos (by simpa using c2)], rfl⟩
      · have _t2 := True.intro
        refine XK.skip ?_
        refine XK.seq ?_
        refine XK.region rfl ?_
        refine XO.q (Q.assign rfl) ?_
        refine XO.done ?_
        refine XK.rt [] Try.func63 Try.results63 (.t rfl .n) ?_
        exact ⟨by rw [readyP, if_neg c0, if_neg c1, if_neg (by simpa using c2)], rfl⟩
end Go.X

set_option linter.unusedSimpArgs false
set_option linter.unusedVariables false
set_option maxRecDepth 20000
namespace Go.X
open Go.Proofs
theorem can_spec (p : Nat) (vb vg vs vc vn : Value) [ob : One vb] [oc : One vc] [on : One vn] (sv : Int) (gens : List BGen) (sts : List Int) (pk : PlayOk gens sts) (hg hs : PHeap) [ig : Arr vg encGen 5 hg gens] [is : Arr vs encI 1 hs sts] (i : Nat) (hi : i < sts.length) (t : Int) (ht0 : 0 ≤ t) (ht : t ≤ 20000) :
    Spec Try.prog 101 #[ptr p 0, .int .i64 (i : Nat), .int .i64 t] [] [blk p [vb, vg, vs, vc, vn, .int .i64 (sv)] 153, hg, hs] (fun v hs => v = .int .i64 (canAt gens sts t i) ∧ hs = []) := by
  have lg := ig.le
  have ls := is.le
  have hn := pk.n
  have hs1 := pk.s i hi
  have gk := pk.g _ (getD_memB (show i < gens.length by omega))
  have gr0 := gk.r0
  have gr1 := gk.r1
  refine Spec.intro (fn := Try.f101) (N := 41) Try.func101 rfl Try.ntmps101 rfl fun B => ?_
  refine XK.seq ?_
  refine XK.region rfl ?_
  refine XO.q (Q.assign rfl) ?_
  refine XO.done ?_
  refine XK.seq ?_
  refine XK.drawn [0, 1, 2, 3, 4, 5, 6, 7, 8, 9, 10, 11, 12, 13, 14, 17] [p] [] (.q 0 (.q 1 (.q 2 (.q 3 (.q 4 (.q 5 (.q 6 (.q 7 (.q 8 (.q 9 (.q 10 (.q 11 (.q 12 (.q 13 (.q 14 (.br 15 true (.br 16 true (.q 17 .done) .stop) .stop)))))))))))))))) Try.mixed rfl (by kernel_rfl) ?_
  refine XT.q rfl rfl (Q.move rfl) ?_
  refine XT.q rfl rfl (Q.nilCheck rfl) ?_
  refine XT.q rfl rfl (Q.fieldAddr rfl) ?_
  refine XT.q rfl rfl (Q.fieldAddr rfl) ?_
  refine XT.q rfl rfl (Q.ld rfl rfl) ?_
  refine XT.q rfl rfl (Q.move rfl) ?_
  refine XT.ix rfl rfl rfl rfl (by omega) (by omega) fun i15 => ?_
  refine XT.q rfl rfl (Q.ldEA [_, _, _, _, _] rfl (by first | assumption | omega) rfl rfl) ?_
  refine XT.q rfl rfl (Q.move rfl) ?_
  refine XT.q rfl rfl (Q.nilCheck rfl) ?_
  refine XT.q rfl rfl (Q.fieldAddr rfl) ?_
  refine XT.q rfl rfl (Q.ld rfl rfl) ?_
  refine XT.q rfl rfl (Q.move rfl) ?_
  refine XT.ix rfl rfl rfl rfl (by omega) (by omega) fun i22 => ?_
  refine XT.q rfl rfl (Q.ldE rfl (by first | assumption | omega) rfl) ?_
  refine XT.alloc rfl rfl (fun b7 => ⟨inferInstance, ?_⟩) XT.stop
  refine XT.st rfl rfl rfl rfl rfl ⟨inferInstance, ?_⟩ XT.stop
  refine XT.q rfl rfl (Q.assign rfl) ?_
  refine XT.done ?_
  refine XK.seq ?_
  refine XK.seq ?_
  refine XK.region rfl ?_
  refine XO.q (Q.move rfl) ?_
  refine XO.q (Q.lss rfl rfl) ?_
  refine XO.q (Q.move rfl) ?_
  refine XO.q (Quiet.guardF rfl rfl fun g27 p27 => Q.move rfl) ?_
  refine XO.q (Quiet.guardF rfl rfl fun g28 p28 => Q.move rfl) ?_
  refine XO.q (Quiet.guardF rfl rfl fun g29 p29 => Q.lss (lzv g29 rfl) (lzv g29 rfl)) ?_
  refine XO.q (Q.or rfl (fun hp => lzv hp rfl)) ?_
  refine XO.done ?_
  refine XK.if rfl (fun c0 => ?_) (fun c0 => ?_)
  · have _t0 := True.intro
    refine XK.seq ?_
    refine XK.region rfl ?_
    refine XO.q (Q.assign rfl) ?_
    refine XO.done ?_
    refine XK.rt [] Try.func101 Try.results101 (.t rfl .n) ?_
    exact ⟨by rw [canAt, canP, if_pos c0], rfl⟩
  · have _t0 := True.intro
    refine XK.skip ?_
    refine XK.seq ?_
    refine XK.region rfl ?_
    refine XO.q (Q.fieldAddr rfl) ?_
    refine XO.q (Q.ld rfl rfl) ?_
    refine XO.q (Q.fieldAddr rfl) ?_
    refine XO.q (Q.ld rfl rfl) ?_
    refine XO.q (Q.move rfl) ?_
    refine XO.q (Q.move rfl) ?_
    refine XO.q (Q.sub rfl rfl ⟨by omega, by omega⟩) ?_
    have m := mulLe (a := (gens.getD i default).ramp) (b := t - sts.getD i default + 1) (m := 1000000) (n := 20002) gk.r0 gk.r1 (by omega) (by omega)
    refine XO.q (Q.add rfl rfl ⟨by omega, by omega⟩) ?_
    refine XO.q (Q.mul rfl rfl ⟨by omega, by omega⟩) ?_
    refine XO.q (Q.min rfl rfl) ?_
    refine XO.q (Q.assign rfl) ?_
    refine XO.done ?_
    refine XK.rt [] Try.func101 Try.results101 (.t rfl .n) ?_
    exact ⟨by rw [canAt, canP, if_neg c0], rfl⟩
theorem generate_spec (p : Nat) (vb vg vs vc vn : Value) [ob : One vb] [oc : One vc] [on : One vn] (sv : Int) (gens : List BGen) (sts : List Int) (pk : PlayOk gens sts) (hg hs : PHeap) [ig : Arr vg encGen 5 hg gens] [is : Arr vs encI 1 hs sts] (t : Int) (ht0 : 0 ≤ t) (ht : t ≤ 20000) (need : Int) (hn0 : 0 ≤ need) (hn1 : need ≤ 6000000) (vu : Value) (hu : PHeap) (us : List Int) [iu : OArr vu encI 1 3 hu us] (uk : UsedOk (canAt gens sts t) sts.length us) :
    Spec Try.prog 99 #[ptr p 0, .int .i64 t, .int .i64 need, vu] [hu] [blk p [vb, vg, vs, vc, vn, .int .i64 (sv)] 153, hg, hs] (fun v hs' => ∃ h', v = .int .i64 (genTo (canAt gens sts t) us need sts.length).2 ∧ hs' = [h'] ∧ OArr vu encI 1 3 h' (genTo (canAt gens sts t) us need sts.length).1) := by
  have ls := is.le
  have hall := fun i hi => genTo_ok uk hn0 i hi
  have hcan := fun j hj => canAt_ok (i := j) pk ht hj
  refine Spec.intro (fn := Try.f99) (N := 42) Try.func99 rfl Try.ntmps99 rfl fun B => ?_
  refine XK.seq ?_
  refine XK.region rfl ?_
  refine XO.q (Q.assign rfl) ?_
  refine XO.done ?_
  refine XK.seq ?_
  refine XK.seq ?_
  refine XK.region rfl ?_
  refine XO.q (Q.move rfl) ?_
  refine XO.q (Q.nilCheck rfl) ?_
  refine XO.q (Q.fieldAddr rfl) ?_
  refine XO.q (Q.ld rfl rfl) ?_
  refine XO.len rfl fun l15 => ?_
  refine XO.q (Q.move rfl) ?_
  refine XO.done ?_
  refine XK.block ?_
  refine XK.while (X := Nat × PHeap) [2, 9, 10, 16, 17, 18, 19, 20, 21, 22, 23, 24, 25, 26, 27, 28, 29, 30, 31, 32, 33, 34, 35, 36, 37, 38, 39, 40] (fun ⟨i, ku⟩ => [(2, some (.int .i64 ((genTo (canAt gens sts t) us need (i)).2))), (16, some (.int .i64 (i : Nat)))]) (fun ⟨i, ku⟩ => [ku]) (fun ⟨i, ku⟩ => i ≤ sts.length ∧ OArr vu encI 1 3 ku (genTo (canAt gens sts t) us need (i)).1) (fun ⟨i, ku⟩ => sts.length - i) (0, hu) [hu] rfl ⟨by omega, iu⟩ (.c rfl (.c rfl (.base 0 rfl rfl))) ?_
  rintro ⟨i, ku⟩ ⟨hi, OU⟩ ih0
  dsimp only [List.cons_append, List.nil_append] at ih0 ⊢
  obtain ⟨uk1, un0, un1⟩ := hall i hi
  have ul := uk1.len
  refine XK.seq ?_
  refine XK.region rfl ?_
  refine XO.q (Q.lss rfl rfl) ?_
  refine XO.done ?_
  refine XK.seq ?_
  refine XK.if rfl (fun c0 => ?_) (fun c0 => ?_)
  · have _t0 := True.intro
    have ub := uk1.b i (by omega)
    have cb := hcan i (by omega)
    refine XK.skip ?_
    refine XK.seq ?_
    refine XK.block ?_
    refine XK.seq ?_
    refine XK.region rfl ?_
    refine XO.q (Q.move rfl) ?_
    refine XO.q (Q.assign rfl) ?_
    refine XO.done ?_
    refine XK.seq ?_
    refine XK.drawn [0, 1, 2, 3, 5, 6, 7, 8, 9, 10, 11] [] [ku] (.q 0 (.q 1 (.q 2 (.q 3 (.q 5 (.q 6 (.q 7 (.q 8 (.br 4 true (.q 9 (.q 10 (.q 11 .done))) .stop))))))))) Try.mixed rfl (by kernel_rfl) ?_
    refine XT.q rfl rfl (Q.move rfl) ?_
    refine XT.q rfl rfl (Q.move rfl) ?_
    refine XT.q rfl rfl (Q.move rfl) ?_
    refine XT.q rfl rfl (Q.move rfl) ?_
    refine XT.q rfl rfl (Q.move rfl) ?_
    refine XT.q rfl rfl (Q.move rfl) ?_
    refine XT.ix rfl rfl rfl rfl (by omega) (by omega) fun i26 => ?_
    refine XT.q rfl rfl (Q.ldE rfl (by first | assumption | omega) rfl) ?_
    refine XT.call rfl rfl Try.call101 rfl rfl rfl (can_spec p vb vg vs vc vn sv gens sts pk hg hs i (by omega) t ht0 ht) (fun v23 s23 R23 => ?_) XT.stop
    obtain ⟨rfl, rfl⟩ := R23
    dsimp only [List.cons_append, List.nil_append]
    refine ⟨inferInstance, ?_⟩
    refine XT.q rfl rfl (Q.sub rfl rfl ⟨by omega, by omega⟩) ?_
    refine XT.q rfl rfl (Q.min rfl rfl) ?_
    refine XT.q rfl rfl (Q.assign rfl) ?_
    refine XT.done ?_
    refine XK.seq ?_
    refine XK.region rfl ?_
    refine XO.q (Q.move rfl) ?_
    refine XO.q (Q.move rfl) ?_
    refine XO.ix rfl rfl (by omega) (by omega) fun i32 => ?_
    refine XO.q (Q.ldE rfl (by first | assumption | omega) rfl) ?_
    refine XO.q (Q.move rfl) ?_
    refine XO.q (Q.add rfl rfl ⟨by omega, by omega⟩) ?_
    refine XO.ix rfl rfl (by omega) (by omega) fun i36 => ?_
    refine XO.stE _ rfl rfl rfl (by assumption) rfl rfl fun h5_7 O5_7 => ?_
    refine XO.done ?_
    refine XK.region rfl ?_
    refine XO.q (Q.move rfl) ?_
    refine XO.q (Q.move rfl) ?_
    refine XO.q (Q.sub rfl rfl ⟨by omega, by omega⟩) ?_
    refine XO.q (Q.assign rfl) ?_
    refine XO.done ?_
    refine XK.inBlock ?_
    refine XK.region rfl ?_
    refine XO.q (Q.add rfl rfl ⟨by omega, by omega⟩) ?_
    refine XO.q (Q.move rfl) ?_
    refine XO.done ?_
    exact ih0 (i + 1, h5_7) _ _ ⟨by dsimp only; omega, by dsimp only; exact O5_7⟩ (by first | omega | (dsimp only; omega)) (.c rfl (.c rfl (.base 58 rfl rfl))) inferInstance
  · have _t0 := True.intro
    have hil : i = sts.length := by omega
    subst hil
    refine XK.exit rfl ?_
    refine XK.seq ?_
    refine XK.region rfl ?_
    refine XO.q (Q.move rfl) ?_
    refine XO.q (Q.assign rfl) ?_
    refine XO.done ?_
    refine XK.rt [ku] Try.func99 Try.results99 (.t rfl .n) ?_
    exact ⟨ku, rfl, rfl, OU⟩
theorem give_spec (v : Value) (h : PHeap) (cs : List BCell) [ic : OArr v encCell 5 163 h cs] (i : Nat) (hi : i < cs.length) (ck : CellOk (cs.getD i default)) (need : Int) (hn0 : 0 ≤ need) (hn1 : need ≤ 6000000) :
    Spec Try.prog 100 #[pat v 5 i 0, .int .i64 need] [h] [] (fun v' hs => ∃ h', v' = .int .i64 (giveC (cs.getD i default) need) ∧ hs = [h'] ∧ OArr v encCell 5 163 h' (cs.set i { bat := (cs.getD i default).bat, now := (cs.getD i default).now - giveC (cs.getD i default) need })) := by
  have g := giveC_ok ck hn0
  have n0 := ck.n0
  have nf := ck.nf
  have f1 := ck.f1
  unfold giveC at g
  refine Spec.intro (fn := Try.f100) (N := 26) Try.func100 rfl Try.ntmps100 rfl fun B => ?_
  refine XK.seq ?_
  refine XK.region rfl ?_
  refine XO.q (Q.assign rfl) ?_
  refine XO.done ?_
  refine XK.seq ?_
  refine XK.drawn [0, 1, 2, 3, 4, 5, 6, 7, 8, 9, 10, 11] [] [h] (.q 0 (.q 1 (.q 2 (.q 3 (.q 4 (.q 5 (.q 6 (.q 7 (.q 8 (.q 9 (.q 10 (.q 11 .done)))))))))))) Try.mixed rfl (by kernel_rfl) ?_
  refine XT.q rfl rfl (Q.move rfl) ?_
  refine XT.q rfl rfl (Q.nilCheckE rfl (by first | assumption | omega)) ?_
  refine XT.q rfl rfl (Q.fieldQ rfl (by first | assumption | omega)) ?_
  refine XT.q rfl rfl (Q.fieldQ rfl (by first | assumption | omega)) ?_
  refine XT.q rfl rfl (Q.ldE rfl (by first | assumption | omega) rfl) ?_
  refine XT.q rfl rfl (Q.move rfl) ?_
  refine XT.q rfl rfl (Q.nilCheckE rfl (by first | assumption | omega)) ?_
  refine XT.q rfl rfl (Q.fieldQ rfl (by first | assumption | omega)) ?_
  refine XT.q rfl rfl (Q.ldE rfl (by first | assumption | omega) rfl) ?_
  refine XT.q rfl rfl (Q.move rfl) ?_
  refine XT.q rfl rfl (Q.min3 rfl rfl rfl) ?_
  refine XT.q rfl rfl (Q.assign rfl) ?_
  refine XT.done ?_
  refine XK.seq ?_
  refine XK.region rfl ?_
  refine XO.q (Q.move rfl) ?_
  refine XO.q (Q.nilCheckE rfl (by first | assumption | omega)) ?_
  refine XO.q (Q.fieldQ rfl (by first | assumption | omega)) ?_
  refine XO.q (Q.ldE rfl (by first | assumption | omega) rfl) ?_
  refine XO.q (Q.move rfl) ?_
  refine XO.q (Q.sub rfl rfl ⟨by omega, by omega⟩) ?_
  refine XO.q (Q.nilCheckE rfl (by first | assumption | omega)) ?_
  refine XO.q (Q.fieldQ rfl (by first | assumption | omega)) ?_
  refine XO.stE { bat := (cs.getD i default).bat, now := (cs.getD i default).now - giveC (cs.getD i default) need } rfl rfl rfl (by assumption) rfl rfl fun h2_8 O2_8 => ?_
  refine XO.done ?_
  refine XK.seq ?_
  refine XK.region rfl ?_
  refine XO.q (Q.move rfl) ?_
  refine XO.q (Q.assign rfl) ?_
  refine XO.done ?_
  refine XK.rt [h2_8] Try.func100 Try.results100 (.t rfl .n) ?_
  exact ⟨h2_8, rfl, rfl, O2_8⟩
theorem take_spec (v : Value) (h : PHeap) (cs : List BCell) [ic : OArr v encCell 5 163 h cs] (i : Nat) (hi : i < cs.length) (ck : CellOk (cs.getD i default)) (need : Int) (hn0 : 0 ≤ need) (hn1 : need ≤ 6000000) :
    Spec Try.prog 102 #[pat v 5 i 0, .int .i64 need] [h] [] (fun v' hs => ∃ h', v' = .int .i64 (takeC (cs.getD i default) need) ∧ hs = [h'] ∧ OArr v encCell 5 163 h' (cs.set i { bat := (cs.getD i default).bat, now := (cs.getD i default).now + takeC (cs.getD i default) need })) := by
  have g := takeC_ok ck hn0
  have n0 := ck.n0
  have nf := ck.nf
  have f1 := ck.f1
  unfold takeC at g
  refine Spec.intro (fn := Try.f102) (N := 32) Try.func102 rfl Try.ntmps102 rfl fun B => ?_
  refine XK.seq ?_
  refine XK.region rfl ?_
  refine XO.q (Q.assign rfl) ?_
  refine XO.done ?_
  refine XK.seq ?_
  refine XK.drawn [0, 1, 2, 3, 4, 5, 6, 7, 8, 9, 10, 11, 12, 13, 14, 15, 16, 17] [] [h] (.q 0 (.q 1 (.q 2 (.q 3 (.q 4 (.q 5 (.q 6 (.q 7 (.q 8 (.q 9 (.q 10 (.q 11 (.q 12 (.q 13 (.q 14 (.q 15 (.q 16 (.q 17 .done)))))))))))))))))) Try.mixed rfl (by kernel_rfl) ?_
  refine XT.q rfl rfl (Q.move rfl) ?_
  refine XT.q rfl rfl (Q.nilCheckE rfl (by first | assumption | omega)) ?_
  refine XT.q rfl rfl (Q.fieldQ rfl (by first | assumption | omega)) ?_
  refine XT.q rfl rfl (Q.fieldQ rfl (by first | assumption | omega)) ?_
  refine XT.q rfl rfl (Q.ldE rfl (by first | assumption | omega) rfl) ?_
  refine XT.q rfl rfl (Q.move rfl) ?_
  refine XT.q rfl rfl (Q.nilCheckE rfl (by first | assumption | omega)) ?_
  refine XT.q rfl rfl (Q.fieldQ rfl (by first | assumption | omega)) ?_
  refine XT.q rfl rfl (Q.fieldQ rfl (by first | assumption | omega)) ?_
  refine XT.q rfl rfl (Q.ldE rfl (by first | assumption | omega) rfl) ?_
  refine XT.q rfl rfl (Q.move rfl) ?_
  refine XT.q rfl rfl (Q.nilCheckE rfl (by first | assumption | omega)) ?_
  refine XT.q rfl rfl (Q.fieldQ rfl (by first | assumption | omega)) ?_
  refine XT.q rfl rfl (Q.ldE rfl (by first | assumption | omega) rfl) ?_
  refine XT.q rfl rfl (Q.sub rfl rfl ⟨by omega, by omega⟩) ?_
  refine XT.q rfl rfl (Q.move rfl) ?_
  refine XT.q rfl rfl (Q.min3 rfl rfl rfl) ?_
  refine XT.q rfl rfl (Q.assign rfl) ?_
  refine XT.done ?_
  refine XK.seq ?_
  refine XK.region rfl ?_
  refine XO.q (Q.move rfl) ?_
  refine XO.q (Q.nilCheckE rfl (by first | assumption | omega)) ?_
  refine XO.q (Q.fieldQ rfl (by first | assumption | omega)) ?_
  refine XO.q (Q.ldE rfl (by first | assumption | omega) rfl) ?_
  refine XO.q (Q.move rfl) ?_
  refine XO.q (Q.add rfl rfl ⟨by omega, by omega⟩) ?_
  refine XO.q (Q.nilCheckE rfl (by first | assumption | omega)) ?_
  refine XO.q (Q.fieldQ rfl (by first | assumption | omega)) ?_
  refine XO.stE { bat := (cs.getD i default).bat, now := (cs.getD i default).now + takeC (cs.getD i default) need } rfl rfl rfl (by assumption) rfl rfl fun h2_8 O2_8 => ?_
  refine XO.done ?_
  refine XK.seq ?_
  refine XK.region rfl ?_
  refine XO.q (Q.move rfl) ?_
  refine XO.q (Q.assign rfl) ?_
  refine XO.done ?_
  refine XK.rt [h2_8] Try.func102 Try.results102 (.t rfl .n) ?_
  exact ⟨h2_8, rfl, rfl, O2_8⟩
theorem energies_spec (p : Nat) (vb vg vs vc vn : Value) [ob : One vb] [on : One vn] (sv : Int) [os : One vs] [og : One vg] (hc : PHeap) (cs : List BCell) [ic : Arr vc encCell 5 hc cs] (hl : cs.length ≤ 8) :
    Spec Try.prog 91 #[ptr p 0] [] [blk p [vb, vg, vs, vc, vn, .int .i64 (sv)] 153, hc] (fun v hs => ∃ h', hs = [h'] ∧ OArr v encI 1 3 h' (energiesP cs)) := by
  have lc := ic.le
  refine Spec.intro (fn := Try.f91) (N := 22) Try.func91 rfl Try.ntmps91 rfl fun B => ?_
  refine XK.seq ?_
  refine XK.region rfl ?_
  refine XO.q (Q.assign rfl) ?_
  refine XO.done ?_
  refine XK.seq ?_
  refine XK.region rfl ?_
  refine XO.q (Q.assign rfl) ?_
  refine XO.done ?_
  refine XK.seq ?_
  refine XK.seq ?_
  refine XK.region rfl ?_
  refine XO.q (Q.move rfl) ?_
  refine XO.q (Q.nilCheck rfl) ?_
  refine XO.q (Q.fieldAddr rfl) ?_
  refine XO.q (Q.ld rfl rfl) ?_
  refine XO.len rfl fun l10 => ?_
  refine XO.q (Q.move rfl) ?_
  refine XO.done ?_
  refine XK.block ?_
  refine XK.while (X := Nat × PHeap × Value) [3, 5, 11, 12, 13, 14, 15, 16, 17, 18, 19, 20] (fun ⟨i, ko, vo⟩ => [(3, some (vo)), (11, some (.int .i64 (i : Nat)))]) (fun ⟨i, ko, vo⟩ => [ko]) (fun ⟨i, ko, vo⟩ => i ≤ cs.length ∧ OArr vo encI 1 3 ko (energiesP (cs.take i))) (fun ⟨i, ko, vo⟩ => cs.length - i) (0, emp, .slice none 0 0) [emp] rfl ⟨by omega, OArr.nil (fun _ => rfl)⟩ (.c rfl (.c rfl (.base 0 rfl rfl))) ?_
  rintro ⟨i, ko, vo⟩ ⟨hi, OE⟩ ih0
  dsimp only [List.cons_append, List.nil_append] at ih0 ⊢
  have le : (energiesP (cs.take i)).length = i := by unfold energiesP; rw [List.length_map, List.length_take]; omega
  refine XK.seq ?_
  refine XK.region rfl ?_
  refine XO.q (Q.lss rfl rfl) ?_
  refine XO.done ?_
  refine XK.seq ?_
  refine XK.if rfl (fun c0 => ?_) (fun c0 => ?_)
  · have _t0 := True.intro
    refine XK.skip ?_
    refine XK.seq ?_
    refine XK.block ?_
    refine XK.seq ?_
    refine XK.region rfl ?_
    refine XO.ix rfl rfl (by omega) (by omega) fun i13 => ?_
    refine XO.q (Q.ldEA [_, _, _, _, _] rfl (by first | assumption | omega) rfl rfl) ?_
    refine XO.alloc fun b5 => ?_
    refine XO.st rfl rfl rfl ?_
    refine XO.done ?_
    refine XK.region rfl ?_
    refine XO.q (Q.move rfl) ?_
    refine XO.q (Q.fieldAddr rfl) ?_
    refine XO.q (Q.ld rfl rfl) ?_
    refine XO.lit [_] [_] [(cs.getD i default).now] encI (by rfl) (by rfl) rfl (by rfl) (by exact .c 0 1 rfl rfl rfl (.n _)) (fun _ => rfl) (by rfl) rfl (by infer_instance) rfl fun v18 h18 O18 => ?_
    refine XO.append rfl rfl rfl rfl (by first | omega | (simp; omega)) fun v19 h19 O19 => ?_
    refine XO.q (Q.assign rfl) ?_
    refine XO.done ?_
    refine XK.inBlock ?_
    refine XK.region rfl ?_
    refine XO.q (Q.add rfl rfl ⟨by omega, by omega⟩) ?_
    refine XO.q (Q.move rfl) ?_
    refine XO.done ?_
    exact ih0 (i + 1, h19, v19) _ _ ⟨by dsimp only; omega, by dsimp only; rw [energies_snoc (by omega)]; exact O19⟩ (by first | omega | (dsimp only; omega)) (.c rfl (.c rfl (.base 26 rfl rfl))) inferInstance
  · have _t0 := True.intro
    refine XK.exit rfl ?_
    refine XK.seq ?_
    refine XK.region rfl ?_
    refine XO.q (Q.move rfl) ?_
    refine XO.q (Q.assign rfl) ?_
    refine XO.done ?_
    refine XK.rt [ko] Try.func91 Try.results91 (.t rfl .n) ?_
    have hil : i = cs.length := by omega
    subst hil
    rw [List.take_length] at OE
    exact ⟨ko, rfl, OE⟩
end Go.X

set_option linter.unusedSimpArgs false
set_option linter.unusedVariables false
set_option maxRecDepth 20000
namespace Go.X
open Go.Proofs
theorem begin_spec (b : BBank) (vb vg : Value) (hb hg : PHeap) [ib : Arr vb encBat 4 hb b.bats] [ig : Arr vg encGen 5 hg b.gens] (fs : List Int) (vf : Value) (hf : PHeap) [jf : Arr vf encI 1 hf fs] (ok : BOk b) (fk : FOk b fs) : Spec Try.prog 85 #[.agg #[vb, vg], vf] [] [hb, hg, hf] (fun v hs => ∃ p vs vc vn ks kc kn, v = ptr p 0 ∧ hs = [blk p [vb, vg, vs, vc, vn, .int .i64 0] 153, ks, kc, kn] ∧ OArr vs encI 1 3 ks (startsP b fs) ∧ OArr vc encCell 5 163 kc (begun b).cells ∧ OArr vn encI 1 3 kn (begun b).burnt) := by
  have lb := ib.le
  have lg := ig.le
  have n8 := ok.nb
  have n6 := ok.ng
  have nf := fk.n
  refine Spec.intro (fn := Try.f85) (N := 63) Try.func85 rfl Try.ntmps85 rfl fun B => ?_
  refine XK.seq ?_
  refine XK.region rfl ?_
  refine XO.box rfl fun b2 => ?_
  refine XO.q (Q.assign rfl) ?_
  refine XO.done ?_
  refine XK.seq ?_
  refine XK.drawn [0, 1, 2, 3, 5, 7] [b2] [] (.q 0 (.q 1 (.q 2 (.q 3 (.br 4 true (.q 5 (.br 6 true (.q 7 .done) .stop)) .stop))))) Try.mixed rfl (by kernel_rfl) ?_
  refine XT.q rfl rfl (Q.ldA [_, _] rfl rfl rfl) ?_
  refine XT.q rfl rfl (Q.fieldAddr rfl) ?_
  refine XT.q rfl rfl (Q.ld rfl rfl) ?_
  refine XT.q rfl rfl (Q.len rfl) ?_
  refine XT.make encI (0) rfl rfl rfl rfl rfl (by omega) (by omega) (fun _ => rfl) rfl rfl rfl (by dsimp only [encI]; infer_instance) (fun v14 h14 O14 => ⟨inferInstance, ?_⟩) XT.stop
  refine XT.q rfl rfl (Q.build [_, _, _, _, _, _] (.c 0 2 rfl rfl rfl (.c 4 1 rfl rfl rfl (.n _)))) ?_
  refine XT.box rfl rfl rfl (fun b16 => ⟨inferInstance, ?_⟩) XT.stop
  refine XT.q rfl rfl (Q.assign rfl) ?_
  refine XT.done ?_
  refine XK.seq ?_
  refine XK.seq ?_
  refine XK.region rfl ?_
  refine XO.q (Q.fieldAddr rfl) ?_
  refine XO.q (Q.ld rfl rfl) ?_
  refine XO.len rfl fun l19 => ?_
  refine XO.q (Q.move rfl) ?_
  refine XO.done ?_
  refine XK.block ?_
  refine XK.while (X := Nat × PHeap × Value) [7, 20, 21, 22, 23, 24, 25, 26, 27, 28, 29, 30, 31, 32, 33, 34, 35, 36, 37] (fun ⟨i, kc, vc⟩ => [(20, some (.int .i64 (i : Nat)))]) (fun ⟨i, kc, vc⟩ => [blk b16 [vb, vg, .slice none 0 0, vc, v14, .int .i64 0] 153, kc]) (fun ⟨i, kc, vc⟩ => i ≤ b.bats.length ∧ OArr vc encCell 5 163 kc ((b.bats.take i).map (fun x => ⟨x, x.energy⟩))) (fun ⟨i, kc, vc⟩ => b.bats.length - i) (0, emp, .slice none 0 0) [blk b16 [vb, vg, .slice none 0 0, .slice none 0 0, v14, .int .i64 0] 153, emp] rfl ⟨by omega, OArr.nil (fun _ => rfl)⟩ (.c rfl (.base 0 rfl rfl)) ?_
  rintro ⟨i, kc, vc⟩ ⟨hi, OC⟩ ih0
  dsimp only [List.cons_append, List.nil_append] at ih0 ⊢
  have lc : ((b.bats.take i).map (fun x => (⟨x, x.energy⟩ : BCell))).length = i := by rw [List.length_map, List.length_take]; omega
  refine XK.seq ?_
  refine XK.region rfl ?_
  refine XO.q (Q.lss rfl rfl) ?_
  refine XO.done ?_
  refine XK.seq ?_
  refine XK.if rfl (fun c0 => ?_) (fun c0 => ?_)
  · have _t0 := True.intro
    refine XK.skip ?_
    refine XK.seq ?_
    refine XK.block ?_
    refine XK.seq ?_
    refine XK.region rfl ?_
    refine XO.ix rfl rfl (by omega) (by omega) fun i22 => ?_
    refine XO.q (Q.ldEA [_, _, _, _] rfl (by first | assumption | omega) rfl rfl) ?_
    refine XO.alloc fun b7 => ?_
    refine XO.st rfl rfl rfl ?_
    refine XO.done ?_
    refine XK.drawn [0, 1, 2, 3, 5, 6, 7, 8, 11, 12] [b7] [] (.q 0 (.q 1 (.q 2 (.q 3 (.q 5 (.q 6 (.q 7 (.q 8 (.br 4 true (.br 9 true (.br 10 true (.q 11 (.q 12 (.br 13 true .done .stop))) .stop) .stop) (.br 9 true (.br 4 true (.br 10 true (.q 11 (.q 12 (.br 13 true .done .stop))) .stop) .stop) .stop)))))))))) Try.mixed rfl (by kernel_rfl) ?_
    refine XT.q rfl rfl (Q.move rfl) ?_
    refine XT.q rfl rfl (Q.move rfl) ?_
    refine XT.q rfl rfl (Q.nilCheck rfl) ?_
    refine XT.q rfl rfl (Q.fieldAddr rfl) ?_
    refine XT.q rfl rfl (Q.ldA [_, _, _, _] rfl rfl rfl) ?_
    refine XT.q rfl rfl (Q.fieldAddr rfl) ?_
    refine XT.q rfl rfl (Q.ld rfl rfl) ?_
    refine XT.q rfl rfl (Q.build [_, _, _, _, _] (.c 0 4 rfl rfl rfl (.c 4 1 rfl rfl rfl (.n _)))) ?_
    refine XT.qs rfl rfl (Q.ld rfl rfl) ⟨inferInstance, ?_⟩ ?_
    · skip
      refine XT.lit [_, _, _, _, _] [_, _, _, _, _] [⟨b.bats.getD i default, (b.bats.getD i default).energy⟩] encCell rfl rfl (by rfl) (by rfl) rfl (by rfl) (by exact .c 0 5 rfl rfl rfl (.n _)) (fun _ => rfl) (by rfl) rfl (by infer_instance) rfl (fun v33 h33 O33 => ⟨inferInstance, ?_⟩) XT.stop
      refine XT.append rfl rfl rfl rfl rfl rfl (by first | omega | (simp; omega)) (fun v34 h34 O34 => ⟨inferInstance, ?_⟩) XT.stop
      refine XT.q rfl rfl (Q.nilCheck rfl) ?_
      refine XT.q rfl rfl (Q.fieldAddr rfl) ?_
      refine XT.st rfl rfl rfl rfl rfl ⟨inferInstance, ?_⟩ XT.stop
      refine XT.done ?_
      refine XK.inBlock ?_
      refine XK.region rfl ?_
      refine XO.q (Q.add rfl rfl ⟨by omega, by omega⟩) ?_
      refine XO.q (Q.move rfl) ?_
      refine XO.done ?_
      exact ih0 (i + 1, h34, v34) _ _ ⟨by dsimp only; omega, by dsimp only; rw [cells_snoc (by omega)]; exact O34⟩ (by first | omega | (dsimp only; omega)) (.c rfl (.base 39 rfl rfl)) inferInstance
    · skip
      refine XT.lit [_, _, _, _, _] [_, _, _, _, _] [⟨b.bats.getD i default, (b.bats.getD i default).energy⟩] encCell rfl rfl (by rfl) (by rfl) rfl (by rfl) (by exact .c 0 5 rfl rfl rfl (.n _)) (fun _ => rfl) (by rfl) rfl (by infer_instance) rfl (fun v33 h33 O33 => ⟨inferInstance, ?_⟩) XT.stop
      refine XT.qs rfl rfl (Q.ld rfl rfl) ⟨inferInstance, ?_⟩ XT.stop
      refine XT.append rfl rfl rfl rfl rfl rfl (by first | omega | (simp; omega)) (fun v34 h34 O34 => ⟨inferInstance, ?_⟩) XT.stop
      refine XT.q rfl rfl (Q.nilCheck rfl) ?_
      refine XT.q rfl rfl (Q.fieldAddr rfl) ?_
      refine XT.st rfl rfl rfl rfl rfl ⟨inferInstance, ?_⟩ XT.stop
      refine XT.done ?_
      refine XK.inBlock ?_
      refine XK.region rfl ?_
      refine XO.q (Q.add rfl rfl ⟨by omega, by omega⟩) ?_
      refine XO.q (Q.move rfl) ?_
      refine XO.done ?_
      exact ih0 (i + 1, h34, v34) _ _ ⟨by dsimp only; omega, by dsimp only; rw [cells_snoc (by omega)]; exact O34⟩ (by first | omega | (dsimp only; omega)) (.c rfl (.base 39 rfl rfl)) inferInstance
  · have _t0 := True.intro
    have hil : i = b.bats.length := by omega
    subst hil
    rw [List.take_length] at OC
    clear ih0 lc hi c0
    refine XK.exit rfl ?_
    refine XK.seq ?_
    refine XK.seq ?_
    refine XK.region rfl ?_
    refine XO.q (Q.fieldAddr rfl) ?_
    refine XO.q (Q.ld rfl rfl) ?_
    refine XO.len rfl fun l40 => ?_
    refine XO.q (Q.move rfl) ?_
    refine XO.done ?_
    refine XK.block ?_
    refine XK.while (X := Nat × PHeap × Value) [8, 9, 41, 42, 43, 44, 45, 46, 47, 48, 49, 50, 51, 52, 53, 54, 55, 56, 57, 58, 59, 60, 61] (fun ⟨i, ks, vs⟩ => [(41, some (.int .i64 (i : Nat)))]) (fun ⟨i, ks, vs⟩ => [blk b16 [vb, vg, vs, vc, v14, .int .i64 0] 153, ks]) (fun ⟨i, ks, vs⟩ => i ≤ b.gens.length ∧ OArr vs encI 1 3 ks (startsTo b.gens fs i)) (fun ⟨i, ks, vs⟩ => b.gens.length - i) (0, emp, .slice none 0 0) [blk b16 [vb, vg, .slice none 0 0, vc, v14, .int .i64 0] 153, emp] rfl ⟨by omega, OArr.nil (fun _ => rfl)⟩ (.c rfl (.base 0 rfl rfl)) ?_
    rintro ⟨i, ks, vs⟩ ⟨hi, OS⟩ ih1
    dsimp only [List.cons_append, List.nil_append] at ih1 ⊢
    have ls := startsTo_len b.gens fs i
    refine XK.seq ?_
    refine XK.region rfl ?_
    refine XO.q (Q.lss rfl rfl) ?_
    refine XO.done ?_
    refine XK.seq ?_
    refine XK.if rfl (fun c1 => ?_) (fun c1 => ?_)
    · have _t1 := True.intro
      refine XK.skip ?_
      refine XK.seq ?_
      refine XK.block ?_
      refine XK.seq ?_
      refine XK.region rfl ?_
      refine XO.q (Q.move rfl) ?_
      refine XO.ix rfl rfl (by omega) (by omega) fun i44 => ?_
      refine XO.q (Q.ldEA [_, _, _, _, _] rfl (by first | assumption | omega) rfl rfl) ?_
      refine XO.alloc fun b9 => ?_
      refine XO.q (Q.assign rfl) ?_
      refine XO.st rfl rfl rfl ?_
      refine XO.done ?_
      refine XK.drawn [0, 1, 2, 3, 5, 6, 7, 8, 9, 13, 14] [b9] [] (.q 0 (.q 1 (.q 2 (.q 3 (.q 5 (.q 6 (.q 7 (.q 8 (.q 9 (.br 4 true (.br 10 true (.br 11 true (.br 12 true (.q 13 (.q 14 (.br 15 true .done .stop))) .stop) .stop) .stop) (.br 10 true (.br 4 true (.br 11 true (.br 12 true (.q 13 (.q 14 (.br 15 true .done .stop))) .stop) .stop) (.br 11 true (.br 4 true (.br 12 true (.q 13 (.q 14 (.br 15 true .done .stop))) .stop) .stop) .stop)) .stop))))))))))) Try.mixed rfl (by kernel_rfl) ?_
      refine XT.q rfl rfl (Q.move rfl) ?_
      refine XT.q rfl rfl (Q.move rfl) ?_
      refine XT.q rfl rfl (Q.nilCheck rfl) ?_
      refine XT.q rfl rfl (Q.fieldAddr rfl) ?_
      refine XT.q rfl rfl (Q.ldA [_, _, _, _, _] rfl rfl rfl) ?_
      refine XT.q rfl rfl (Q.move rfl) ?_
      refine XT.q rfl rfl (Q.move rfl) ?_
      refine XT.ix rfl rfl rfl rfl (by omega) (by omega) fun i54 => ?_
      refine XT.q rfl rfl (Q.ldE rfl (by first | assumption | omega) rfl) ?_
      refine XT.qs rfl rfl (Q.ld rfl rfl) ⟨inferInstance, ?_⟩ ?_
      · skip
        have fi := fk.f i (by omega)
        refine XT.call rfl rfl Try.call73 rfl rfl rfl (start_spec _ (ok.gen _ (getD_memB (by omega))) _ fi.1 fi.2) (fun v56 s56 R56 => ?_) XT.stop
        obtain ⟨rfl, rfl⟩ := R56
        dsimp only [List.cons_append, List.nil_append]
        refine ⟨inferInstance, ?_⟩
        refine XT.lit [_] [_] [startP (b.gens.getD i default) (fs.getD i default)] encI rfl rfl (by rfl) (by rfl) rfl (by rfl) (by exact .c 0 1 rfl rfl rfl (.n _)) (fun _ => rfl) (by rfl) rfl (by infer_instance) rfl (fun v57 h57 O57 => ⟨inferInstance, ?_⟩) XT.stop
        refine XT.append rfl rfl rfl rfl rfl rfl (by first | omega | (simp; omega)) (fun v58 h58 O58 => ⟨inferInstance, ?_⟩) XT.stop
        refine XT.q rfl rfl (Q.nilCheck rfl) ?_
        refine XT.q rfl rfl (Q.fieldAddr rfl) ?_
        refine XT.st rfl rfl rfl rfl rfl ⟨inferInstance, ?_⟩ XT.stop
        refine XT.done ?_
        refine XK.inBlock ?_
        refine XK.region rfl ?_
        refine XO.q (Q.add rfl rfl ⟨by omega, by omega⟩) ?_
        refine XO.q (Q.move rfl) ?_
        refine XO.done ?_
        exact ih1 (i + 1, h58, v58) _ _ ⟨by dsimp only; omega, by dsimp only; exact O58⟩ (by first | omega | (dsimp only; omega)) (.c rfl (.base 47 rfl rfl)) inferInstance
      · skip
        have fi := fk.f i (by omega)
        refine XT.call rfl rfl Try.call73 rfl rfl rfl (start_spec _ (ok.gen _ (getD_memB (by omega))) _ fi.1 fi.2) (fun v56 s56 R56 => ?_) XT.stop
        obtain ⟨rfl, rfl⟩ := R56
        dsimp only [List.cons_append, List.nil_append]
        refine ⟨inferInstance, ?_⟩
        refine XT.qs rfl rfl (Q.ld rfl rfl) ⟨inferInstance, ?_⟩ ?_
        · skip
          refine XT.lit [_] [_] [startP (b.gens.getD i default) (fs.getD i default)] encI rfl rfl (by rfl) (by rfl) rfl (by rfl) (by exact .c 0 1 rfl rfl rfl (.n _)) (fun _ => rfl) (by rfl) rfl (by infer_instance) rfl (fun v57 h57 O57 => ⟨inferInstance, ?_⟩) XT.stop
          refine XT.append rfl rfl rfl rfl rfl rfl (by first | omega | (simp; omega)) (fun v58 h58 O58 => ⟨inferInstance, ?_⟩) XT.stop
          refine XT.q rfl rfl (Q.nilCheck rfl) ?_
          refine XT.q rfl rfl (Q.fieldAddr rfl) ?_
          refine XT.st rfl rfl rfl rfl rfl ⟨inferInstance, ?_⟩ XT.stop
          refine XT.done ?_
          refine XK.inBlock ?_
          refine XK.region rfl ?_
          refine XO.q (Q.add rfl rfl ⟨by omega, by omega⟩) ?_
          refine XO.q (Q.move rfl) ?_
          refine XO.done ?_
          exact ih1 (i + 1, h58, v58) _ _ ⟨by dsimp only; omega, by dsimp only; exact O58⟩ (by first | omega | (dsimp only; omega)) (.c rfl (.base 47 rfl rfl)) inferInstance
        · skip
          refine XT.lit [_] [_] [startP (b.gens.getD i default) (fs.getD i default)] encI rfl rfl (by rfl) (by rfl) rfl (by rfl) (by exact .c 0 1 rfl rfl rfl (.n _)) (fun _ => rfl) (by rfl) rfl (by infer_instance) rfl (fun v57 h57 O57 => ⟨inferInstance, ?_⟩) XT.stop
          refine XT.qs rfl rfl (Q.ld rfl rfl) ⟨inferInstance, ?_⟩ XT.stop
          refine XT.append rfl rfl rfl rfl rfl rfl (by first | omega | (simp; omega)) (fun v58 h58 O58 => ⟨inferInstance, ?_⟩) XT.stop
          refine XT.q rfl rfl (Q.nilCheck rfl) ?_
          refine XT.q rfl rfl (Q.fieldAddr rfl) ?_
          refine XT.st rfl rfl rfl rfl rfl ⟨inferInstance, ?_⟩ XT.stop
          refine XT.done ?_
          refine XK.inBlock ?_
          refine XK.region rfl ?_
          refine XO.q (Q.add rfl rfl ⟨by omega, by omega⟩) ?_
          refine XO.q (Q.move rfl) ?_
          refine XO.done ?_
          exact ih1 (i + 1, h58, v58) _ _ ⟨by dsimp only; omega, by dsimp only; exact O58⟩ (by first | omega | (dsimp only; omega)) (.c rfl (.base 47 rfl rfl)) inferInstance
    · have _t1 := True.intro
      refine XK.exit rfl ?_
      refine XK.seq ?_
      refine XK.region rfl ?_
      refine XO.q (Q.move rfl) ?_
      refine XO.q (Q.assign rfl) ?_
      refine XO.done ?_
      refine XK.rt [blk b16 [vb, vg, vs, vc, v14, .int .i64 0] 153, ks, kc, h14] Try.func85 Try.results85 (.t rfl .n) ?_
      have hil : i = b.gens.length := by omega
      subst hil
      exact ⟨b16, vs, vc, v14, ks, kc, h14, rfl, rfl, OS, OC, O14⟩
theorem generate0 (p : Nat) (vb vg vs vc vn : Value) [ob : One vb] [oc : One vc] [on : One vn] (sv : Int) (gens : List BGen) (sts : List Int) (pk : PlayOk gens sts) (hg hs : PHeap) [ig : Arr vg encGen 5 hg gens] [is : Arr vs encI 1 hs sts] (t : Int) (ht0 : 0 ≤ t) (ht : t ≤ 20000) (load : Int) (hn0 : 0 ≤ load) (hn1 : load ≤ 1000000) (vu : Value) (hu : PHeap) [iu : OArr vu encI 1 3 hu (List.replicate sts.length 0)] :
    Spec Try.prog 99 #[ptr p 0, .int .i64 t, .int .i64 load, vu] [hu] [blk p [vb, vg, vs, vc, vn, .int .i64 (sv)] 153, hg, hs] (fun v hs' => ∃ h', v = .int .i64 (gen0 gens sts t load).2 ∧ hs' = [h'] ∧ OArr vu encI 1 3 h' (gen0 gens sts t load).1) :=
  generate_spec p vb vg vs vc vn sv gens sts pk hg hs t ht0 ht load hn0 (by omega) vu hu (List.replicate sts.length 0) (zero_used fun j hj => (canAt_ok pk ht hj).1)
theorem generate1 (p : Nat) (vb vg vs vc vn : Value) [ob : One vb] [oc : One vc] [on : One vn] (sv : Int) (gens : List BGen) (sts : List Int) (pk : PlayOk gens sts) (hg hs : PHeap) [ig : Arr vg encGen 5 hg gens] [is : Arr vs encI 1 hs sts] (t : Int) (ht0 : 0 ≤ t) (ht : t ≤ 20000) (load : Int) (hn0 : 0 ≤ load) (hn1 : load ≤ 1000000) {nc k : Nat} {s : BSt} (so : StOk sts nc k s) (vu : Value) (hu : PHeap) [iu : OArr vu encI 1 3 hu (gen0 gens sts t load).1] :
    Spec Try.prog 99 #[ptr p 0, .int .i64 t, .int .i64 (take0 gens sts t load s).2, vu] [hu] [blk p [vb, vg, vs, vc, vn, .int .i64 (sv)] 153, hg, hs] (fun v hs' => ∃ h', v = .int .i64 (gen1 gens sts t load s).2 ∧ hs' = [h'] ∧ OArr vu encI 1 3 h' (gen1 gens sts t load s).1) :=
  generate_spec p vb vg vs vc vn sv gens sts pk hg hs t ht0 ht (take0 gens sts t load s).2 (take0_ok pk ht hn0 so).2.1 (take0_ok pk ht hn0 so).2.2 vu hu (gen0 gens sts t load).1 (gen0_ok pk ht hn0).1
set_option maxHeartbeats 1000000 in
theorem second_spec (p : Nat) (vb vg vs vc vn : Value) [ob : One vb] (gens : List BGen) (sts : List Int) (pk : PlayOk gens sts) (hg hs : PHeap) [ig : Arr vg encGen 5 hg gens] [is : Arr vs encI 1 hs sts] (s : BSt) (hc hn : PHeap) [ic : OArr vc encCell 5 163 hc s.cells] [jn : OArr vn encI 1 3 hn s.burnt] {nc k : Nat} (so : StOk sts nc k s) (hk : k ≤ 20000)
    (t : Int) (ht0 : 0 ≤ t) (ht : t ≤ 20000) (load : Int) (hn0 : 0 ≤ load) (hn1 : load ≤ 1000000) (strict : Bool) :
    Spec Try.prog 87 #[ptr p 0, .int .i64 t, .int .i64 load, .bool strict] [blk p [vb, vg, vs, vc, vn, .int .i64 (s.served)] 153, hc, hn] [hg, hs] (fun v hs' => ∃ vc' hc' hn', v = .int .i64 (secondP gens sts t load strict s).1 ∧ hs' = [blk p [vb, vg, vs, vc', vn, .int .i64 (secondP gens sts t load strict s).2.served] 153, hc', hn'] ∧ OArr vc' encCell 5 163 hc' (secondP gens sts t load strict s).2.cells ∧ OArr vn encI 1 3 hn' (secondP gens sts t load strict s).2.burnt) := by
  have lc := ic.arr.le
  have ls := is.le
  have n8 := so.nc8
  have cl := so.c.len
  have n6 := pk.ng
  have ns := pk.n
  have s0 := so.s0
  have s1 := so.s1
  have bl := so.b.len
  have g0 := gen0_ok pk ht hn0
  have gl := g0.1.len
  have v0 := give0_ok pk ht hn0 so
  have t0 := take0_ok pk ht hn0 so
  have p0 := spare0_ok pk ht hn0
  have g1 := gen1_ok pk ht hn0 so
  have g1l := g1.len
  have hca := fun j hj => canAt_ok (i := j) pk ht hj
  have hgv := fun i hi => giveTo_ok so.c g0.2.1 i hi
  have hsp := fun i hi => spareTo_ok g0.1 (fun j hj => (hca j hj).2) i hi
  have p0 : 0 ≤ (spareTo (canAt gens sts t) (gen0 gens sts t load).1 sts.length) ∧ (spareTo (canAt gens sts t) (gen0 gens sts t load).1 sts.length) ≤ 6000000 := p0
  have htk := fun i hi => takeTo_ok so.c p0.1 i hi
  refine Spec.intro (fn := Try.f87) (N := 141) Try.func87 rfl Try.ntmps87 rfl fun B => ?_
  refine XK.seq ?_
  refine XK.region rfl ?_
  refine XO.q (Q.assign rfl) ?_
  refine XO.done ?_
  refine XK.seq ?_
  refine XK.region rfl ?_
  refine XO.q (Q.move rfl) ?_
  refine XO.q (Q.nilCheck rfl) ?_
  refine XO.q (Q.fieldAddr rfl) ?_
  refine XO.q (Q.ld rfl rfl) ?_
  refine XO.call Try.call98 rfl rfl rfl (cloneC vc hc s.cells (by omega)) fun v23 s23 R23 => ?_
  obtain ⟨k23, rfl, O23⟩ := R23
  dsimp only [List.cons_append, List.nil_append]
  refine XO.q (Q.assign rfl) ?_
  refine XO.done ?_
  refine XK.seq ?_
  refine XK.region rfl ?_
  refine XO.q (Q.move rfl) ?_
  refine XO.q (Q.nilCheck rfl) ?_
  refine XO.q (Q.fieldAddr rfl) ?_
  refine XO.q (Q.ld rfl rfl) ?_
  refine XO.len rfl fun l28 => ?_
  refine XO.make encI (0) rfl rfl rfl (by omega) (by omega) (fun _ => rfl) rfl rfl rfl (by dsimp only [encI]; infer_instance) fun v29 h29 O29 => ?_
  refine XO.q (Q.assign rfl) ?_
  refine XO.done ?_
  refine XK.seq ?_
  refine XK.region rfl ?_
  refine XO.q (Q.move rfl) ?_
  refine XO.q (Q.move rfl) ?_
  refine XO.q (Q.move rfl) ?_
  refine XO.q (Q.move rfl) ?_
  refine XO.call Try.call99 rfl rfl rfl (generate0 p vb vg vs vc vn s.served gens sts pk hg hs t ht0 ht load hn0 hn1 v29 h29) fun v34 s34 R34 => ?_
  obtain ⟨k34, rfl, rfl, O34⟩ := R34
  dsimp only [List.cons_append, List.nil_append]
  refine XO.q (Q.assign rfl) ?_
  refine XO.done ?_
  refine XK.seq ?_
  refine XK.seq ?_
  refine XK.region rfl ?_
  refine XO.q (Q.move rfl) ?_
  refine XO.q (Q.gtr rfl rfl) ?_
  refine XO.done ?_
  refine XK.if rfl (fun c0 => ?_) (fun c0 => ?_)
  · have _t0 := True.intro
    refine XK.seq ?_
    refine XK.seq ?_
    refine XK.region rfl ?_
    refine XO.q (Q.move rfl) ?_
    refine XO.q (Q.nilCheck rfl) ?_
    refine XO.q (Q.fieldAddr rfl) ?_
    refine XO.q (Q.ld rfl rfl) ?_
    refine XO.len rfl fun l41 => ?_
    refine XO.q (Q.move rfl) ?_
    refine XO.done ?_
    refine XK.block ?_
    refine XK.while (X := Nat × PHeap) [11, 12, 42, 43, 44, 45, 46, 47, 48, 49, 50, 51, 52, 53, 54, 55] (fun ⟨i, kc⟩ => [(11, some (.int .i64 ((giveTo s.cells (gen0 gens sts t load).2 (i)).2))), (42, some (.int .i64 (i : Nat)))]) (fun ⟨i, kc⟩ => [kc]) (fun ⟨i, kc⟩ => i ≤ s.cells.length ∧ OArr vc encCell 5 163 kc (giveTo s.cells (gen0 gens sts t load).2 (i)).1) (fun ⟨i, kc⟩ => s.cells.length - i) (0, hc) [hc] rfl ⟨by omega, ic⟩ (.c rfl (.c rfl (.base 0 rfl rfl))) ?_
    rintro ⟨i, kc⟩ ⟨hi, OG⟩ ih0
    dsimp only [List.cons_append, List.nil_append] at ih0 ⊢
    have gvi := hgv i (by omega)
    have gvl := gvi.1.len
    refine XK.seq ?_
    refine XK.region rfl ?_
    refine XO.q (Q.lss rfl rfl) ?_
    refine XO.done ?_
    refine XK.seq ?_
    refine XK.if rfl (fun c1 => ?_) (fun c1 => ?_)
    · have _t1 := True.intro
      have gci := giveC_ok (gvi.1.ok i (by omega)) gvi.2.1
      refine XK.skip ?_
      refine XK.seq ?_
      refine XK.block ?_
      refine XK.seq ?_
      refine XK.region rfl ?_
      refine XO.q (Q.move rfl) ?_
      refine XO.q (Q.assign rfl) ?_
      refine XO.done ?_
      refine XK.region rfl ?_
      refine XO.q (Q.move rfl) ?_
      refine XO.q (Q.move rfl) ?_
      refine XO.q (Q.nilCheck rfl) ?_
      refine XO.q (Q.fieldAddr rfl) ?_
      refine XO.q (Q.ld rfl rfl) ?_
      refine XO.q (Q.move rfl) ?_
      refine XO.ix rfl rfl (by omega) (by omega) fun i51 => ?_
      refine XO.q (Q.move rfl) ?_
      refine XO.call Try.call100 rfl rfl rfl (give_spec vc kc (giveTo s.cells (gen0 gens sts t load).2 (i)).1 i (by omega) (gvi.1.ok i (by omega)) (giveTo s.cells (gen0 gens sts t load).2 (i)).2 gvi.2.1 (by omega)) fun v53 s53 R53 => ?_
      obtain ⟨k53, rfl, rfl, O53⟩ := R53
      dsimp only [List.cons_append, List.nil_append]
      refine XO.q (Q.sub rfl rfl ⟨by omega, by omega⟩) ?_
      refine XO.q (Q.assign rfl) ?_
      refine XO.done ?_
      refine XK.inBlock ?_
      refine XK.region rfl ?_
      refine XO.q (Q.add rfl rfl ⟨by omega, by omega⟩) ?_
      refine XO.q (Q.move rfl) ?_
      refine XO.done ?_
      exact ih0 (i + 1, k53) _ _ ⟨by dsimp only; omega, by dsimp only; exact O53⟩ (by first | omega | (dsimp only; omega)) (.c rfl (.c rfl (.base 34 rfl rfl))) inferInstance
    · have _t1 := True.intro
      have hil : i = s.cells.length := by omega
      subst hil
      clear ih0
      have v0 : 0 ≤ (giveTo s.cells (gen0 gens sts t load).2 (s.cells.length)).2 ∧ (giveTo s.cells (gen0 gens sts t load).2 (s.cells.length)).2 ≤ load := v0.2
      refine XK.exit rfl ?_
      refine XK.seq ?_
      refine XK.region rfl ?_
      refine XO.q (Q.move rfl) ?_
      refine XO.q (Q.gtr rfl rfl) ?_
      refine XO.q (Q.move rfl) ?_
      refine XO.q (Quiet.guardT rfl rfl fun g59 p59 => Q.move rfl) ?_
      refine XO.q (Q.and rfl (fun hp => lzv hp rfl)) ?_
      refine XO.done ?_
      refine XK.if rfl (fun c2 => ?_) (fun c2 => ?_)
      · have _t2 := True.intro
        refine XK.seq ?_
        refine XK.region rfl ?_
        refine XO.q (Q.move rfl) ?_
        refine XO.q (Q.move rfl) ?_
        refine XO.q (Q.nilCheck rfl) ?_
        refine XO.q (Q.fieldAddr rfl) ?_
        refine XO.st rfl rfl rfl ?_
        refine XO.done ?_
        refine XK.seq ?_
        refine XK.region rfl ?_
        refine XO.q (Q.move rfl) ?_
        refine XO.q (Q.assign rfl) ?_
        refine XO.done ?_
        refine XK.rt [blk p [vb, vg, vs, v23, vn, .int .i64 (s.served)] 153, k23, hn] Try.func87 Try.results87 (.t rfl .n) ?_
        have e : secondP gens sts t load strict s = ((give0 gens sts t load s).2, s) := by
          unfold secondP
          rw [if_pos c0, if_pos ⟨c2.1, by simpa using c2.2⟩]
        rw [e]
        exact ⟨v23, k23, hn, rfl, rfl, O23, jn⟩
      · have _t2 := True.intro
        refine XK.skip ?_
        refine XK.seq ?_
        refine XK.seq ?_
        refine XK.region rfl ?_
        refine XO.q (Q.move rfl) ?_
        refine XO.len rfl fun l113 => ?_
        refine XO.q (Q.move rfl) ?_
        refine XO.done ?_
        refine XK.block ?_
        refine XK.while (X := Nat × PHeap) [17, 18, 114, 115, 116, 117, 118, 119, 120, 121, 122, 123, 124, 125, 126, 127, 128, 129] (fun ⟨i, kn⟩ => [(114, some (.int .i64 (i : Nat)))]) (fun ⟨i, kn⟩ => [kn]) (fun ⟨i, kn⟩ => i ≤ sts.length ∧ OArr vn encI 1 3 kn (addTo s.burnt (gen0 gens sts t load).1 i)) (fun ⟨i, kn⟩ => sts.length - i) (0, hn) [hn] rfl ⟨by omega, jn⟩ (.c rfl (.base 0 rfl rfl)) ?_
        rintro ⟨i, kn⟩ ⟨hi, OB⟩ ih1
        dsimp only [List.cons_append, List.nil_append] at ih1 ⊢
        obtain ⟨al, aa⟩ := addTo_at (bs := s.burnt) (us := (gen0 gens sts t load).1) i (by omega)
        refine XK.seq ?_
        refine XK.region rfl ?_
        refine XO.q (Q.lss rfl rfl) ?_
        refine XO.done ?_
        refine XK.seq ?_
        refine XK.if rfl (fun c3 => ?_) (fun c3 => ?_)
        · have _t3 := True.intro
          have ai := aa i
          rw [if_neg (by omega)] at ai
          have sb := so.b.b i (by omega)
          have ub := g0.1.b i (by omega)
          have cb := hca i (by omega)
          refine XK.skip ?_
          refine XK.seq ?_
          refine XK.block ?_
          refine XK.seq ?_
          refine XK.region rfl ?_
          refine XO.q (Q.move rfl) ?_
          refine XO.ix rfl rfl (by omega) (by omega) fun i117 => ?_
          refine XO.q (Q.ldE rfl (by first | assumption | omega) rfl) ?_
          refine XO.q (Q.assign rfl) ?_
          refine XO.q (Q.assign rfl) ?_
          refine XO.done ?_
          refine XK.region rfl ?_
          refine XO.q (Q.move rfl) ?_
          refine XO.q (Q.nilCheck rfl) ?_
          refine XO.q (Q.fieldAddr rfl) ?_
          refine XO.q (Q.ld rfl rfl) ?_
          refine XO.q (Q.move rfl) ?_
          refine XO.ix rfl rfl (by omega) (by omega) fun i124 => ?_
          refine XO.q (Q.ldE rfl (by first | assumption | omega) rfl) ?_
          refine XO.q (Q.move rfl) ?_
          refine XO.q (Q.add rfl rfl ⟨by omega, by omega⟩) ?_
          refine XO.ix rfl rfl (by omega) (by omega) fun i128 => ?_
          refine XO.stE _ rfl rfl rfl (by assumption) rfl rfl fun h29_10 O29_10 => ?_
          refine XO.done ?_
          refine XK.inBlock ?_
          refine XK.region rfl ?_
          refine XO.q (Q.add rfl rfl ⟨by omega, by omega⟩) ?_
          refine XO.q (Q.move rfl) ?_
          refine XO.done ?_
          exact ih1 (i + 1, h29_10) _ _ ⟨by dsimp only; omega, by dsimp only; exact O29_10⟩ (by first | omega | (dsimp only; omega)) (.c rfl (.base 37 rfl rfl)) inferInstance
        · have _t3 := True.intro
          refine XK.exit rfl ?_
          refine XK.seq ?_
          refine XK.region rfl ?_
          refine XO.q (Q.move rfl) ?_
          refine XO.q (Q.nilCheck rfl) ?_
          refine XO.q (Q.fieldAddr rfl) ?_
          refine XO.q (Q.ld rfl rfl) ?_
          refine XO.q (Q.move rfl) ?_
          refine XO.q (Q.move rfl) ?_
          refine XO.q (Q.sub rfl rfl ⟨by omega, by omega⟩) ?_
          refine XO.q (Q.add rfl rfl ⟨by omega, by omega⟩) ?_
          refine XO.q (Q.nilCheck rfl) ?_
          refine XO.q (Q.fieldAddr rfl) ?_
          refine XO.st rfl rfl rfl ?_
          refine XO.done ?_
          refine XK.seq ?_
          refine XK.region rfl ?_
          refine XO.q (Q.move rfl) ?_
          refine XO.q (Q.assign rfl) ?_
          refine XO.done ?_
          refine XK.rt [blk p [vb, vg, vs, vc, vn, .int .i64 (s.served + (load - (giveTo s.cells (gen0 gens sts t load).2 (s.cells.length)).2))] 153, kc, kn] Try.func87 Try.results87 (.t rfl .n) ?_
          have hil : i = sts.length := by omega
          subst hil
          have e : secondP gens sts t load strict s = ((give0 gens sts t load s).2, ⟨(give0 gens sts t load s).1, addTo s.burnt (gen0 gens sts t load).1 sts.length, s.served + (load - (give0 gens sts t load s).2)⟩) := by
            unfold secondP
            rw [if_pos c0, if_neg (by exact c2)]
          rw [e]
          exact ⟨vc, kc, kn, rfl, rfl, OG, OB⟩
  · have _t0 := True.intro
    refine XK.seq ?_
    refine XK.region rfl ?_
    refine XO.q (Q.assign rfl) ?_
    refine XO.done ?_
    refine XK.seq ?_
    refine XK.seq ?_
    refine XK.region rfl ?_
    refine XO.q (Q.move rfl) ?_
    refine XO.q (Q.nilCheck rfl) ?_
    refine XO.q (Q.fieldAddr rfl) ?_
    refine XO.q (Q.ld rfl rfl) ?_
    refine XO.len rfl fun l70 => ?_
    refine XO.q (Q.move rfl) ?_
    refine XO.done ?_
    refine XK.block ?_
    refine XK.while (X := Nat) [13, 14, 71, 72, 73, 74, 75, 76, 77, 78, 79, 80, 81, 82, 83, 84, 85] (fun i => [(13, some (.int .i64 (spareTo (canAt gens sts t) (gen0 gens sts t load).1 i))), (71, some (.int .i64 (i : Nat)))]) (fun i => []) (fun i => i ≤ sts.length) (fun i => sts.length - i) (0) [] rfl (by omega) (.c rfl (.c rfl (.base 0 rfl rfl))) ?_
    rintro i hi ih2
    dsimp only [List.cons_append, List.nil_append] at ih2 ⊢
    have spi := hsp i hi
    refine XK.seq ?_
    refine XK.region rfl ?_
    refine XO.q (Q.lss rfl rfl) ?_
    refine XO.done ?_
    refine XK.seq ?_
    refine XK.if rfl (fun c4 => ?_) (fun c4 => ?_)
    · have _t4 := True.intro
      have ubi := g0.1.b i (by omega)
      have cbi := hca i (by omega)
      refine XK.skip ?_
      refine XK.seq ?_
      refine XK.block ?_
      refine XK.seq ?_
      refine XK.region rfl ?_
      refine XO.q (Q.move rfl) ?_
      refine XO.q (Q.assign rfl) ?_
      refine XO.done ?_
      refine XK.drawn [0, 1, 2, 3, 5, 6, 7, 8, 9, 10, 11] [] [k34] (.q 0 (.q 1 (.q 2 (.q 3 (.q 5 (.q 6 (.q 7 (.q 8 (.br 4 true (.q 9 (.q 10 (.q 11 .done))) .stop))))))))) Try.mixed rfl (by kernel_rfl) ?_
      refine XT.q rfl rfl (Q.move rfl) ?_
      refine XT.q rfl rfl (Q.move rfl) ?_
      refine XT.q rfl rfl (Q.move rfl) ?_
      refine XT.q rfl rfl (Q.move rfl) ?_
      refine XT.q rfl rfl (Q.move rfl) ?_
      refine XT.q rfl rfl (Q.move rfl) ?_
      refine XT.ix rfl rfl rfl rfl (by omega) (by omega) fun i81 => ?_
      refine XT.q rfl rfl (Q.ldE rfl (by first | assumption | omega) rfl) ?_
      refine XT.call rfl rfl Try.call101 rfl rfl rfl (can_spec p vb vg vs vc vn s.served gens sts pk hg hs i (by omega) t ht0 ht) (fun v78 s78 R78 => ?_) XT.stop
      obtain ⟨rfl, rfl⟩ := R78
      dsimp only [List.cons_append, List.nil_append]
      refine ⟨inferInstance, ?_⟩
      refine XT.q rfl rfl (Q.sub rfl rfl ⟨by omega, by omega⟩) ?_
      refine XT.q rfl rfl (Q.add rfl rfl ⟨by omega, by omega⟩) ?_
      refine XT.q rfl rfl (Q.assign rfl) ?_
      refine XT.done ?_
      refine XK.inBlock ?_
      refine XK.region rfl ?_
      refine XO.q (Q.add rfl rfl ⟨by omega, by omega⟩) ?_
      refine XO.q (Q.move rfl) ?_
      refine XO.done ?_
      exact ih2 (i + 1) _ _ (by omega) (by first | omega | (dsimp only; omega)) (.c rfl (.c rfl (.base 36 rfl rfl))) inferInstance
    · have _t4 := True.intro
      have hil : i = sts.length := by omega
      subst hil
      clear ih2
      refine XK.exit rfl ?_
      refine XK.seq ?_
      refine XK.region rfl ?_
      refine XO.q (Q.assign rfl) ?_
      refine XO.done ?_
      refine XK.seq ?_
      refine XK.seq ?_
      refine XK.region rfl ?_
      refine XO.q (Q.move rfl) ?_
      refine XO.q (Q.nilCheck rfl) ?_
      refine XO.q (Q.fieldAddr rfl) ?_
      refine XO.q (Q.ld rfl rfl) ?_
      refine XO.len rfl fun l90 => ?_
      refine XO.q (Q.move rfl) ?_
      refine XO.done ?_
      refine XK.block ?_
      refine XK.while (X := Nat × PHeap) [15, 16, 91, 92, 93, 94, 95, 96, 97, 98, 99, 100, 101, 102, 103, 104, 105, 106] (fun ⟨i, kc⟩ => [(15, some (.int .i64 ((takeTo s.cells (spareTo (canAt gens sts t) (gen0 gens sts t load).1 sts.length) (i)).2))), (91, some (.int .i64 (i : Nat)))]) (fun ⟨i, kc⟩ => [kc]) (fun ⟨i, kc⟩ => i ≤ s.cells.length ∧ OArr vc encCell 5 163 kc (takeTo s.cells (spareTo (canAt gens sts t) (gen0 gens sts t load).1 sts.length) (i)).1) (fun ⟨i, kc⟩ => s.cells.length - i) (0, hc) [hc] rfl ⟨by omega, ic⟩ (.c rfl (.c rfl (.base 0 rfl rfl))) ?_
      rintro ⟨i, kc⟩ ⟨hi, OT⟩ ih3
      dsimp only [List.cons_append, List.nil_append] at ih3 ⊢
      have tki := htk i (by omega)
      have tkl := tki.1.len
      refine XK.seq ?_
      refine XK.region rfl ?_
      refine XO.q (Q.lss rfl rfl) ?_
      refine XO.done ?_
      refine XK.seq ?_
      refine XK.if rfl (fun c5 => ?_) (fun c5 => ?_)
      · have _t5 := True.intro
        have tci := takeC_ok (tki.1.ok i (by omega)) (need := (spareTo (canAt gens sts t) (gen0 gens sts t load).1 sts.length) - (takeTo s.cells (spareTo (canAt gens sts t) (gen0 gens sts t load).1 sts.length) (i)).2) (by omega)
        refine XK.skip ?_
        refine XK.seq ?_
        refine XK.block ?_
        refine XK.seq ?_
        refine XK.region rfl ?_
        refine XO.q (Q.move rfl) ?_
        refine XO.q (Q.assign rfl) ?_
        refine XO.done ?_
        refine XK.region rfl ?_
        refine XO.q (Q.move rfl) ?_
        refine XO.q (Q.move rfl) ?_
        refine XO.q (Q.nilCheck rfl) ?_
        refine XO.q (Q.fieldAddr rfl) ?_
        refine XO.q (Q.ld rfl rfl) ?_
        refine XO.q (Q.move rfl) ?_
        refine XO.ix rfl rfl (by omega) (by omega) fun i100 => ?_
        refine XO.q (Q.move rfl) ?_
        refine XO.q (Q.move rfl) ?_
        refine XO.q (Q.sub rfl rfl ⟨by omega, by omega⟩) ?_
        refine XO.call Try.call102 rfl rfl rfl (take_spec vc kc (takeTo s.cells (spareTo (canAt gens sts t) (gen0 gens sts t load).1 sts.length) (i)).1 i (by omega) (tki.1.ok i (by omega)) ((spareTo (canAt gens sts t) (gen0 gens sts t load).1 sts.length) - (takeTo s.cells (spareTo (canAt gens sts t) (gen0 gens sts t load).1 sts.length) (i)).2) (by omega) (by omega)) fun v104 s104 R104 => ?_
        obtain ⟨k104, rfl, rfl, O104⟩ := R104
        dsimp only [List.cons_append, List.nil_append]
        refine XO.q (Q.add rfl rfl ⟨by omega, by omega⟩) ?_
        refine XO.q (Q.assign rfl) ?_
        refine XO.done ?_
        refine XK.inBlock ?_
        refine XK.region rfl ?_
        refine XO.q (Q.add rfl rfl ⟨by omega, by omega⟩) ?_
        refine XO.q (Q.move rfl) ?_
        refine XO.done ?_
        exact ih3 (i + 1, k104) _ _ ⟨by dsimp only; omega, by dsimp only; exact O104⟩ (by first | omega | (dsimp only; omega)) (.c rfl (.c rfl (.base 38 rfl rfl))) inferInstance
      · have _t5 := True.intro
        have hil : i = s.cells.length := by omega
        subst hil
        clear ih3
        refine XK.exit rfl ?_
        refine XK.region rfl ?_
        refine XO.q (Q.move rfl) ?_
        refine XO.q (Q.move rfl) ?_
        refine XO.q (Q.move rfl) ?_
        refine XO.q (Q.move rfl) ?_
        refine XO.call Try.call99 rfl rfl rfl (generate1 p vb vg vs vc vn s.served gens sts pk hg hs t ht0 ht load hn0 hn1 so v29 k34) fun v111 s111 R111 => ?_
        obtain ⟨k111, rfl, rfl, O111⟩ := R111
        dsimp only [List.cons_append, List.nil_append]
        refine XO.done ?_
        refine XK.seq ?_
        refine XK.seq ?_
        refine XK.region rfl ?_
        refine XO.q (Q.move rfl) ?_
        refine XO.len rfl fun l113 => ?_
        refine XO.q (Q.move rfl) ?_
        refine XO.done ?_
        refine XK.block ?_
        refine XK.while (X := Nat × PHeap) [17, 18, 114, 115, 116, 117, 118, 119, 120, 121, 122, 123, 124, 125, 126, 127, 128, 129] (fun ⟨i, kn⟩ => [(114, some (.int .i64 (i : Nat)))]) (fun ⟨i, kn⟩ => [kn]) (fun ⟨i, kn⟩ => i ≤ sts.length ∧ OArr vn encI 1 3 kn (addTo s.burnt (gen1 gens sts t load s).1 i)) (fun ⟨i, kn⟩ => sts.length - i) (0, hn) [hn] rfl ⟨by omega, jn⟩ (.c rfl (.base 0 rfl rfl)) ?_
        rintro ⟨i, kn⟩ ⟨hi, OB⟩ ih4
        dsimp only [List.cons_append, List.nil_append] at ih4 ⊢
        obtain ⟨al, aa⟩ := addTo_at (bs := s.burnt) (us := (gen1 gens sts t load s).1) i (by omega)
        refine XK.seq ?_
        refine XK.region rfl ?_
        refine XO.q (Q.lss rfl rfl) ?_
        refine XO.done ?_
        refine XK.seq ?_
        refine XK.if rfl (fun c6 => ?_) (fun c6 => ?_)
        · have _t6 := True.intro
          have ai := aa i
          rw [if_neg (by omega)] at ai
          have sb := so.b.b i (by omega)
          have ub := g1.b i (by omega)
          have cb := hca i (by omega)
          refine XK.skip ?_
          refine XK.seq ?_
          refine XK.block ?_
          refine XK.seq ?_
          refine XK.region rfl ?_
          refine XO.q (Q.move rfl) ?_
          refine XO.ix rfl rfl (by omega) (by omega) fun i117 => ?_
          refine XO.q (Q.ldE rfl (by first | assumption | omega) rfl) ?_
          refine XO.q (Q.assign rfl) ?_
          refine XO.q (Q.assign rfl) ?_
          refine XO.done ?_
          refine XK.region rfl ?_
          refine XO.q (Q.move rfl) ?_
          refine XO.q (Q.nilCheck rfl) ?_
          refine XO.q (Q.fieldAddr rfl) ?_
          refine XO.q (Q.ld rfl rfl) ?_
          refine XO.q (Q.move rfl) ?_
          refine XO.ix rfl rfl (by omega) (by omega) fun i124 => ?_
          refine XO.q (Q.ldE rfl (by first | assumption | omega) rfl) ?_
          refine XO.q (Q.move rfl) ?_
          refine XO.q (Q.add rfl rfl ⟨by omega, by omega⟩) ?_
          refine XO.ix rfl rfl (by omega) (by omega) fun i128 => ?_
          refine XO.stE _ rfl rfl rfl (by assumption) rfl rfl fun h29_10 O29_10 => ?_
          refine XO.done ?_
          refine XK.inBlock ?_
          refine XK.region rfl ?_
          refine XO.q (Q.add rfl rfl ⟨by omega, by omega⟩) ?_
          refine XO.q (Q.move rfl) ?_
          refine XO.done ?_
          exact ih4 (i + 1, h29_10) _ _ ⟨by dsimp only; omega, by dsimp only; exact O29_10⟩ (by first | omega | (dsimp only; omega)) (.c rfl (.base 37 rfl rfl)) inferInstance
        · have _t6 := True.intro
          refine XK.exit rfl ?_
          refine XK.seq ?_
          refine XK.region rfl ?_
          refine XO.q (Q.move rfl) ?_
          refine XO.q (Q.nilCheck rfl) ?_
          refine XO.q (Q.fieldAddr rfl) ?_
          refine XO.q (Q.ld rfl rfl) ?_
          refine XO.q (Q.move rfl) ?_
          refine XO.q (Q.move rfl) ?_
          refine XO.q (Q.sub rfl rfl ⟨by omega, by omega⟩) ?_
          refine XO.q (Q.add rfl rfl ⟨by omega, by omega⟩) ?_
          refine XO.q (Q.nilCheck rfl) ?_
          refine XO.q (Q.fieldAddr rfl) ?_
          refine XO.st rfl rfl rfl ?_
          refine XO.done ?_
          refine XK.seq ?_
          refine XK.region rfl ?_
          refine XO.q (Q.move rfl) ?_
          refine XO.q (Q.assign rfl) ?_
          refine XO.done ?_
          refine XK.rt [blk p [vb, vg, vs, vc, vn, .int .i64 (s.served + (load - (gen0 gens sts t load).2))] 153, kc, kn] Try.func87 Try.results87 (.t rfl .n) ?_
          have hil : i = sts.length := by omega
          subst hil
          have e : secondP gens sts t load strict s = ((gen0 gens sts t load).2, ⟨(take0 gens sts t load s).1, addTo s.burnt (gen1 gens sts t load s).1 sts.length, s.served + (load - (gen0 gens sts t load).2)⟩) := by
            unfold secondP
            rw [if_neg c0]
          rw [e]
          exact ⟨vc, kc, kn, rfl, rfl, OT, OB⟩
end Go.X

set_option linter.unusedSimpArgs false
set_option linter.unusedVariables false
set_option maxRecDepth 20000
namespace Go.X
open Go.Proofs
def secItems (pw : List Int) : List (List Value) := (List.range pw.length).map (fun k => [.int .i64 (k : Nat), .int .i64 (pw.getD k default)])
theorem secItems_len (pw : List Int) : (secItems pw).length = pw.length := by simp [secItems]
theorem secItems_at {pw : List Int} {i : Nat} (hi : i < pw.length) : (secItems pw).getD i [] = [.int .i64 (i : Nat), .int .i64 (pw.getD i default)] := by
  rw [List.getD_eq_getElem?_getD, secItems, List.getElem?_map, List.getElem?_range hi]; rfl
theorem secItems_two {pw : List Int} : ∀ i, i < (secItems pw).length → ((secItems pw).getD i []).length = 2 := fun i hi => by
  rw [secItems_len] at hi
  rw [secItems_at hi]; rfl
theorem seconds1 (b : Nat) (l : List BSpan) (vl : Value) (hl : PHeap) [il : Arr vl encSpan 2 hl l] (lk : LOk l) : It Try.prog (.func (.func 97) #[] #[ptr b 0]) (secItems (powers l)) [blk b [vl] 26, hl] := by
  intro f Hr QQ XX hy q hq
  refine VSpec.fn (P := Try.prog) (g := 97) (fst := []) (vs := [f]) (cap := [ptr b 0]) (A := [f, ptr b 0]) (Hm := [q]) Try.call97 rfl ?_
  dsimp only [List.cons_append, List.nil_append]
  rw [secItems_len] at *
  have ll := il.le
  have hpl := powers_len lk
  have ln := lk.n
  have hca := cnt_all l
  have hcall : ∀ i j : Nat, i < l.length → (j : Int) < (l.getD i default).seconds → ∀ q, QQ (cnt l i + j) q →
      VSpec Try.prog f [.int .i64 ((cnt l i + j : Nat) : Int), .int .i64 (l.getD i default).power] [q] Hr (fun v hs => ∃ bb q', v = .bool bb ∧ hs = [q'] ∧ (bb = true → QQ (cnt l i + j + 1) q') ∧ (bb = false → XX q')) := by
    intro i j hi hj q hq
    obtain ⟨h1, h2⟩ := powers_at l hi hj
    have := hy _ h1 q hq
    rwa [secItems_at h1, h2] at this
  refine Spec.intro (fn := Try.f97) (N := 26) Try.func97 rfl Try.ntmps97 rfl fun B => ?_
  refine XK.seq ?_
  refine XK.region rfl ?_
  refine XO.q (Q.assign rfl) ?_
  refine XO.done ?_
  refine XK.seq ?_
  refine XK.region rfl ?_
  refine XO.q (Q.ld rfl rfl) ?_
  refine XO.len rfl fun l7 => ?_
  refine XO.q (Q.move rfl) ?_
  refine XO.done ?_
  refine XK.block ?_
  refine XK.while (X := Nat × PHeap) [3, 5, 8, 9, 10, 11, 12, 13, 14, 15, 16, 17, 18, 19, 20, 21, 22, 23, 24, 25] (fun ⟨i, q1⟩ => [(3, some (.int .i64 ((cnt l i : Nat) : Int))), (8, some (.int .i64 (i : Nat)))]) (fun ⟨i, q1⟩ => [q1]) (fun ⟨i, q1⟩ => i ≤ l.length ∧ QQ (cnt l i) q1) (fun ⟨i, q1⟩ => l.length - i) (0, q) [q] rfl ⟨by omega, hq⟩ (.c rfl (.c rfl (.base 0 rfl rfl))) ?_
  rintro ⟨i, q1⟩ ⟨hi, hQ⟩ ih0
  dsimp only [List.cons_append, List.nil_append] at ih0 ⊢
  refine XK.seq ?_
  refine XK.region rfl ?_
  refine XO.q (Q.lss rfl rfl) ?_
  refine XO.done ?_
  refine XK.seq ?_
  refine XK.if rfl (fun c0 => ?_) (fun c0 => ?_)
  · have _t0 := True.intro
    have sk := lk.s _ (getD_memB (show i < l.length by omega))
    refine XK.skip ?_
    refine XK.seq ?_
    refine XK.block ?_
    refine XK.seq ?_
    refine XK.region rfl ?_
    refine XO.ix rfl rfl (by omega) (by omega) fun i10 => ?_
    refine XO.q (Q.ldEA [_, _] rfl (by first | assumption | omega) rfl rfl) ?_
    refine XO.alloc fun b5 => ?_
    refine XO.st rfl rfl rfl ?_
    refine XO.done ?_
    refine XK.seq ?_
    refine XK.region rfl ?_
    refine XO.q (Q.fieldAddr rfl) ?_
    refine XO.q (Q.ld rfl rfl) ?_
    refine XO.q (Q.move rfl) ?_
    refine XO.done ?_
    refine XK.block ?_
    refine XK.while (X := Nat × PHeap) [3, 14, 15, 16, 17, 18, 19, 20, 21, 22, 23, 24] (fun ⟨j, q2⟩ => [(3, some (.int .i64 ((cnt l i + j : Nat) : Int))), (14, some (.int .i64 (j : Nat)))]) (fun ⟨j, q2⟩ => [q2]) (fun ⟨j, q2⟩ => (j : Int) ≤ (l.getD i default).seconds ∧ QQ (cnt l i + j) q2) (fun ⟨j, q2⟩ => (l.getD i default).seconds.toNat - j) (0, q1) [q1] rfl ⟨by omega, hQ⟩ (.c rfl (.c rfl (.base 0 rfl rfl))) ?_
    rintro ⟨j, q2⟩ ⟨hj, hQ2⟩ ih1
    dsimp only [List.cons_append, List.nil_append] at ih1 ⊢
    refine XK.seq ?_
    refine XK.region rfl ?_
    refine XO.q (Q.lss rfl rfl) ?_
    refine XO.done ?_
    refine XK.seq ?_
    refine XK.if rfl (fun c1 => ?_) (fun c1 => ?_)
    · have _t1 := True.intro
      obtain ⟨hp1, hp2⟩ := powers_at l (i := i) (j := j) (by omega) (by omega)
      refine XK.skip ?_
      refine XK.seq ?_
      refine XK.block ?_
      refine XK.seq ?_
      refine XK.seq ?_
      refine XK.region rfl ?_
      refine XO.q (Q.move rfl) ?_
      refine XO.q (Q.move rfl) ?_
      refine XO.q (Q.fieldAddr rfl) ?_
      refine XO.q (Q.ld rfl rfl) ?_
      refine XO.vcall rfl rfl (hcall i j (by omega) (by omega) q2 hQ2) fun v20 s20 R20 => ?_
      obtain ⟨bb, q3, rfl, rfl, hT, hF⟩ := R20
      dsimp only [List.cons_append, List.nil_append]
      refine XO.q (Q.not rfl) ?_
      refine XO.done ?_
      refine XK.if rfl (fun c2 => ?_) (fun c2 => ?_)
      · have _t2 := True.intro
        refine XK.rt [q3] Try.func97 Try.results97 (.n) ?_
        exact ⟨q3, rfl, .inr (hF (by cases bb <;> simp_all))⟩
      · have _t2 := True.intro
        refine XK.skip ?_
        refine XK.region rfl ?_
        refine XO.q (Q.move rfl) ?_
        refine XO.q (Q.add rfl rfl ⟨by omega, by omega⟩) ?_
        rw [show ((cnt l i + j : Nat) : Int) + 1 = ((cnt l i + j + 1 : Nat) : Int) from rfl]
        refine XO.q (Q.assign rfl) ?_
        refine XO.done ?_
        refine XK.inBlock ?_
        refine XK.region rfl ?_
        refine XO.q (Q.add rfl rfl ⟨by omega, by omega⟩) ?_
        refine XO.q (Q.move rfl) ?_
        refine XO.done ?_
        exact ih1 (j + 1, q3) _ _ ⟨by dsimp only; omega, hT (by cases bb <;> simp_all)⟩ (by dsimp only; omega) (.c rfl (.c rfl (.base 26 rfl rfl))) inferInstance
    · have _t1 := True.intro
      refine XK.exit rfl ?_
      refine XK.inBlock ?_
      refine XK.region rfl ?_
      refine XO.q (Q.add rfl rfl ⟨by omega, by omega⟩) ?_
      refine XO.q (Q.move rfl) ?_
      refine XO.done ?_
      have hjn : cnt l i + j = cnt l (i + 1) := by rw [cnt]; omega
      rw [hjn] at hQ2 ⊢
      exact ih0 (i + 1, q2) _ _ ⟨by dsimp only; omega, hQ2⟩ (by first | omega | (dsimp only; omega)) (.c rfl (.c rfl (.base 46 rfl rfl))) inferInstance
  · have _t0 := True.intro
    refine XK.exit rfl ?_
    refine XK.fn [q1] Try.func97 Try.results97 (.n) ?_
    have hil : i = l.length := by omega
    subst hil
    rw [hca] at hQ
    exact ⟨q1, rfl, .inl hQ⟩
theorem seconds_spec (vl : Value) [ol : One vl] : Spec Try.prog 86 #[vl] [] [] (fun v hs => ∃ b, v = .func (.func 97) #[] #[ptr b 0] ∧ hs = [blk b [vl] 26]) := by
  refine Spec.intro (fn := Try.f86) (N := 4) Try.func86 rfl Try.ntmps86 rfl fun B => ?_
  refine XK.seq ?_
  refine XK.region rfl ?_
  refine XO.box rfl fun b1 => ?_
  refine XO.q (Q.assign rfl) ?_
  refine XO.done ?_
  refine XK.seq ?_
  refine XK.region rfl ?_
  refine XO.q (Q.func (fun _ he => rfl) (fun _ he => evs_rel he rfl)) ?_
  refine XO.q (Q.assign rfl) ?_
  refine XO.done ?_
  refine XK.rt [blk b1 [vl] 26] Try.func86 Try.results86 (.t rfl .n) ?_
  exact ⟨b1, rfl, rfl⟩
abbrev resV (r : BRes) (ve vn : Value) : Value := .agg #[.int .i64 r.dark, ve, vn, .int .i64 r.served]
theorem dark_second {gens : List BGen} {sts : List Int} {t load : Int} {s : BSt} (h : 0 < (secondP gens sts t load true s).1) : (secondP gens sts t load true s).2 = s := by
  unfold secondP at h ⊢
  split
  · rename_i h1
    rw [if_pos h1] at h
    split
    · rfl
    · rename_i h2
      rw [if_neg h2] at h
      exact absurd ⟨h, rfl⟩ h2
  · rename_i h1
    rw [if_neg h1] at h
    exact absurd h h1
set_option maxHeartbeats 1000000 in
theorem run_nil (b : BBank) (vb vg : Value) (hb hg : PHeap) [ib : Arr vb encBat 4 hb b.bats] [ig : Arr vg encGen 5 hg b.gens] (l : List BSpan) (vl : Value) (hl : PHeap) [il : Arr vl encSpan 2 hl l] (fs : List Int) (vf : Value) (hf : PHeap) [jf : Arr vf encI 1 hf fs] (ok : BOk b) (lk : LOk l) (fk : FOk b fs) : Spec Try.prog 64 #[.agg #[vb, vg], vl, vf, .nilFunc] [] [hb, hg, hl, hf]
    (fun v hs => ∃ ve vn ke kn, v = resV (runP b (powers l) fs) ve vn ∧ hs = [ke, kn] ∧ OArr ve encI 1 3 ke (runP b (powers l) fs).energy ∧ OArr vn encI 1 3 kn (runP b (powers l) fs).burnt) := by
  have ln := lk.n
  have hpw := pwOk lk
  have pk := playOk ok fk
  have b0 := begun_ok ok fk
  have hst : ∀ i, i ≤ (powers l).length → StOk (startsP b fs) b.bats.length i (stateP b (powers l) fs true i) := fun i hi => playTo_ok pk hpw b0 true i hi
  have hla := fun i hi => lackAt_ok (i := i) pk hpw b0 true hi
  have hn2 := hpw.n
  have n8 := ok.nb
  refine Spec.intro (fn := Try.f64) (N := 47) Try.func64 rfl Try.ntmps64 rfl fun B => ?_
  refine XK.seq ?_
  refine XK.region rfl ?_
  refine XO.box rfl fun b4 => ?_
  refine XO.box rfl fun b7 => ?_
  refine XO.alloc fun b8 => ?_
  refine XO.done ?_
  refine XK.seq ?_
  refine XK.region rfl ?_
  refine XO.q (Q.ldA [_, _] rfl rfl rfl) ?_
  refine XO.q (Q.move rfl) ?_
  refine XO.call Try.call85 rfl rfl rfl (begin_spec b vb vg hb hg fs vf hf ok fk) fun v16 s16 R16 => ?_
  obtain ⟨p, vs, vc, vn, ks, kc, kn, rfl, rfl, OS, OC, ON⟩ := R16
  dsimp only [List.cons_append, List.nil_append]
  refine XO.alloc fun b9 => ?_
  refine XO.st rfl rfl rfl ?_
  refine XO.done ?_
  refine XK.seq ?_
  refine XK.region rfl ?_
  refine XO.alloc fun b10 => ?_
  refine XO.st rfl rfl rfl ?_
  refine XO.done ?_
  refine XK.seq ?_
  refine XK.region rfl ?_
  refine XO.q (Q.ld rfl rfl) ?_
  refine XO.q (Q.func (fun _ he => evs_rel he rfl) (fun _ he => rfl)) ?_
  refine XO.alloc fun b11 => ?_
  refine XO.st rfl rfl rfl ?_
  refine XO.done ?_
  refine XK.seq ?_
  refine XK.seq ?_
  refine XK.region rfl ?_
  refine XO.q (Q.move rfl) ?_
  refine XO.call Try.call86 rfl rfl rfl (seconds_spec vl) fun v20 s20 R20 => ?_
  obtain ⟨bs, rfl, rfl⟩ := R20
  dsimp only [List.cons_append, List.nil_append]
  refine XO.done ?_
  refine XK.block ?_
  refine XK.range (X := Nat × Value × PHeap × PHeap × Int) (ps := [21, 22]) (secItems (powers l)) (fun ⟨m, vc1, kc1, kn1, dk⟩ => [blk p [vb, vg, vs, vc1, vn, .int .i64 (stateP b (powers l) fs true (m)).served] 153, kc1, kn1, blk b10 [.int .i64 dk] 3]) (fun i ⟨m, vc1, kc1, kn1, dk⟩ => m = i ∧ m ≤ (powers l).length ∧ dk = -1 ∧ OArr vc1 encCell 5 163 kc1 (stateP b (powers l) fs true (m)).cells ∧ OArr vn encI 1 3 kn1 (stateP b (powers l) fs true (m)).burnt ∧ (∀ j, j < m → isDark b (powers l) fs j = false)) (fun j0 ⟨m, vc1, kc1, kn1, dk⟩ => j0 = Code.exit 0 ∧ m < (powers l).length ∧ dk = m ∧ isDark b (powers l) fs m = true ∧ OArr vc1 encCell 5 163 kc1 (stateP b (powers l) fs true (m)).cells ∧ OArr vn encI 1 3 kn1 (stateP b (powers l) fs true (m)).burnt ∧ (∀ j, j < m → isDark b (powers l) fs j = false)) (0, vc, kc, kn, -1) [blk p [vb, vg, vs, vc, vn, .int .i64 0] 153, kc, kn, blk b10 [.int .i64 (-1)] 3] rfl ⟨rfl, by omega, rfl, OC, ON, fun j hj => by omega⟩ rfl (seconds1 bs l vl hl lk) rfl (secItems_two) ?_ ?_ ?_
  · rintro lq rec B' i ⟨m, vc1, kc1, kn1, dk⟩ hi ⟨hmi, hm, hdk, C1, N1, D1⟩
    dsimp only [List.cons_append, List.nil_append]
    rw [secItems_len] at hi
    subst hmi
    subst hdk
    rw [secItems_at hi]
    dsimp only [pars]
    refine XK.seq ?_
    refine XK.region rfl ?_
    refine XO.q (Q.assign rfl) ?_
    refine XO.done ?_
    refine XK.region rfl ?_
    refine XO.q (Q.assign rfl) ?_
    refine XO.done ?_
    refine XK.beginRound ?_
    refine XK.block ?_
    refine XK.seq ?_
    refine XK.seq ?_
    refine XK.region rfl ?_
    refine XO.q (Q.ld rfl rfl) ?_
    refine XO.q (Q.move rfl) ?_
    refine XO.q (Q.move rfl) ?_
    refine XO.vcall rfl rfl (VSpec.fn (fst := [ptr p 0]) (cap := []) Try.call87 rfl (second_spec p vb vg vs vc1 vn b.gens (startsP b fs) pk hg ks (stateP b (powers l) fs true (m)) kc1 kn1 (hst m (by omega)) (by omega) ((m : Nat) : Int) (by omega) (by omega) ((powers l).getD m default) (hpw.p m (by omega)).1 (hpw.p m (by omega)).2 true)) fun v26 s26 R26 => ?_
    obtain ⟨vc2, kc2, kn2, rfl, rfl, C2, N2⟩ := R26
    dsimp only [List.cons_append, List.nil_append]
    have hd : isDark b (powers l) fs m = decide (0 < (secondP b.gens (startsP b fs) ((m : Nat) : Int) ((powers l).getD m default) true (stateP b (powers l) fs true (m))).1) := rfl
    have es : (secondP b.gens (startsP b fs) ((m : Nat) : Int) ((powers l).getD m default) true (stateP b (powers l) fs true (m))).2 = (stateP b (powers l) fs true (m + 1)) := rfl
    rw [es] at C2 N2 ⊢
    refine XO.q (Q.gtr rfl rfl) ?_
    refine XO.done ?_
    refine XK.if rfl (fun c0 => ?_) (fun c0 => ?_)
    · have _t0 := True.intro
      refine XK.seq ?_
      refine XK.region rfl ?_
      refine XO.q (Q.move rfl) ?_
      refine XO.st rfl rfl rfl ?_
      refine XO.done ?_
      have e : (stateP b (powers l) fs true (m + 1)) = (stateP b (powers l) fs true (m)) := dark_second c0
      rw [e] at C2 N2 ⊢
      exact XK.leave (j := some (.exit 0)) [blk p [vb, vg, vs, vc2, vn, .int .i64 (stateP b (powers l) fs true (m)).served] 153, kc2, kn2, blk b10 [.int .i64 ((m : Nat) : Int)] 3] ⟨rfl, rfl⟩ ⟨(m, vc2, kc2, kn2, (m : Int)), ⟨rfl, hi, rfl, by rw [hd]; exact decide_eq_true c0, C2, N2, D1⟩, rfl⟩
    · have _t0 := True.intro
      refine XK.skip ?_
      refine XK.seq ?_
      refine XK.region rfl ?_
      refine XO.q (Q.ld rfl rfl) ?_
      refine XO.q (Q.neqNilN rfl) ?_
      refine XO.done ?_
      refine XK.if rfl (fun c1 => ?_) (fun c1 => ?_)
      · have _t1 := True.intro
        simp at c1
      · have _t1 := True.intro
        refine XK.skip ?_
        refine XK.inBlock ?_
        exact XK.leave (j := none) [blk p [vb, vg, vs, vc2, vn, .int .i64 (stateP b (powers l) fs true (m + 1)).served] 153, kc2, kn2, blk b10 [.int .i64 (-1)] 3] trivial ⟨(m + 1, vc2, kc2, kn2, -1), ⟨rfl, by dsimp only; omega, rfl, C2, N2, fun j hj => (by rcases Nat.lt_or_ge j m with h3 | h3; exact D1 j h3; rw [show j = m by dsimp only at hj; omega, hd]; exact decide_eq_false c0)⟩, rfl⟩
  · rintro ⟨m, vc1, kc1, kn1, dk⟩ ⟨hmi, hm, hdk, C1, N1, D1⟩
    dsimp only [List.cons_append, List.nil_append]
    rw [secItems_len] at hmi
    subst hdk
    refine XK.inBlock ?_
    refine XK.seq ?_
    refine XK.drawn [0, 1, 3, 4, 5, 6, 7, 8, 9, 10, 11] [b9, b10, p] [] (.q 0 (.q 1 (.q 3 (.q 4 (.q 5 (.q 6 (.q 7 (.q 8 (.q 9 (.q 10 (.br 2 true (.q 11 (.br 12 false .done .stop)) .stop))))))))))) Try.mixed rfl (by kernel_rfl) ?_
    refine XT.q rfl rfl (Q.ld rfl rfl) ?_
    refine XT.q rfl rfl (Q.ld rfl rfl) ?_
    refine XT.q rfl rfl (Q.ld rfl rfl) ?_
    refine XT.q rfl rfl (Q.nilCheck rfl) ?_
    refine XT.q rfl rfl (Q.fieldAddr rfl) ?_
    refine XT.q rfl rfl (Q.ld rfl rfl) ?_
    refine XT.q rfl rfl (Q.ld rfl rfl) ?_
    refine XT.q rfl rfl (Q.nilCheck rfl) ?_
    refine XT.q rfl rfl (Q.fieldAddr rfl) ?_
    refine XT.q rfl rfl (Q.ld rfl rfl) ?_
    refine XT.call rfl rfl Try.call91 rfl rfl rfl (energies_spec p vb vg vs vc1 vn (stateP b (powers l) fs true (m)).served kc1 (stateP b (powers l) fs true (m)).cells (by rw [(hst (m) (by omega)).c.len]; exact n8)) (fun v37 s37 R37 => ?_) XT.stop
    obtain ⟨k37, rfl, O37⟩ := R37
    dsimp only [List.cons_append, List.nil_append]
    refine ⟨inferInstance, ?_⟩
    refine XT.q rfl rfl (Q.build [_, _, _, _] (.c 0 1 rfl rfl rfl (.c 1 1 rfl rfl rfl (.c 2 1 rfl rfl rfl (.c 3 1 rfl rfl rfl (.n _)))))) ?_
    refine XT.st rfl rfl rfl rfl rfl ⟨inferInstance, ?_⟩ XT.stop
    refine XT.done ?_
    refine XK.rt [k37, kn1] Try.func64 Try.results64 (.cell [_, _, _, _] rfl rfl rfl (.n)) ?_
    subst hmi
    obtain ⟨er, ee⟩ := run_never D1
    rw [er]
    exact ⟨v37, vn, k37, kn1, rfl, rfl, O37, N1⟩
  · rintro _ ⟨m, vc1, kc1, kn1, dk⟩ ⟨rfl, hm, hdk, hdm, C1, N1, D1⟩
    dsimp only [List.cons_append, List.nil_append]
    subst hdk
    refine XK.exit rfl ?_
    refine XK.seq ?_
    refine XK.drawn [0, 1, 3, 4, 5, 6, 7, 8, 9, 10, 11] [b9, b10, p] [] (.q 0 (.q 1 (.q 3 (.q 4 (.q 5 (.q 6 (.q 7 (.q 8 (.q 9 (.q 10 (.br 2 true (.q 11 (.br 12 false .done .stop)) .stop))))))))))) Try.mixed rfl (by kernel_rfl) ?_
    refine XT.q rfl rfl (Q.ld rfl rfl) ?_
    refine XT.q rfl rfl (Q.ld rfl rfl) ?_
    refine XT.q rfl rfl (Q.ld rfl rfl) ?_
    refine XT.q rfl rfl (Q.nilCheck rfl) ?_
    refine XT.q rfl rfl (Q.fieldAddr rfl) ?_
    refine XT.q rfl rfl (Q.ld rfl rfl) ?_
    refine XT.q rfl rfl (Q.ld rfl rfl) ?_
    refine XT.q rfl rfl (Q.nilCheck rfl) ?_
    refine XT.q rfl rfl (Q.fieldAddr rfl) ?_
    refine XT.q rfl rfl (Q.ld rfl rfl) ?_
    refine XT.call rfl rfl Try.call91 rfl rfl rfl (energies_spec p vb vg vs vc1 vn (stateP b (powers l) fs true (m)).served kc1 (stateP b (powers l) fs true (m)).cells (by rw [(hst (m) (by omega)).c.len]; exact n8)) (fun v37 s37 R37 => ?_) XT.stop
    obtain ⟨k37, rfl, O37⟩ := R37
    dsimp only [List.cons_append, List.nil_append]
    refine ⟨inferInstance, ?_⟩
    refine XT.q rfl rfl (Q.build [_, _, _, _] (.c 0 1 rfl rfl rfl (.c 1 1 rfl rfl rfl (.c 2 1 rfl rfl rfl (.c 3 1 rfl rfl rfl (.n _)))))) ?_
    refine XT.st rfl rfl rfl rfl rfl ⟨inferInstance, ?_⟩ XT.stop
    refine XT.done ?_
    refine XK.rt [k37, kn1] Try.func64 Try.results64 (.cell [_, _, _, _] rfl rfl rfl (.n)) ?_
    obtain ⟨er, ee⟩ := run_here hm D1 hdm
    rw [er]
    exact ⟨v37, vn, k37, kn1, rfl, rfl, O37, N1⟩
end Go.X

set_option linter.unusedSimpArgs false
set_option linter.unusedVariables false
set_option maxRecDepth 20000
namespace Go.X
open Go.Proofs
theorem lack_spec (b : BBank) (vb vg : Value) (hb hg : PHeap) [ib : Arr vb encBat 4 hb b.bats] [ig : Arr vg encGen 5 hg b.gens] (l : List BSpan) (vl : Value) (hl : PHeap) [il : Arr vl encSpan 2 hl l] (fs : List Int) (vf : Value) (hf : PHeap) [jf : Arr vf encI 1 hf fs] (ok : BOk b) (lk : LOk l) (fk : FOk b fs) : Spec Try.prog 58 #[.agg #[vb, vg], vl, vf] [] [hb, hg, hl, hf] (fun v hs => v = .int .i64 (lackP b (powers l) fs) ∧ hs = []) := by
  have ln := lk.n
  have hpw := pwOk lk
  have pk := playOk ok fk
  have b0 := begun_ok ok fk
  have hst : ∀ i, i ≤ (powers l).length → StOk (startsP b fs) b.bats.length i (stateP b (powers l) fs false i) := fun i hi => playTo_ok pk hpw b0 false i hi
  have hla := fun i hi => lackAt_ok (i := i) pk hpw b0 false hi
  have hn2 := hpw.n
  have n8 := ok.nb
  have hlk := fun i hi => lackTo_ok ok fk hpw i hi
  refine Spec.intro (fn := Try.f58) (N := 25) Try.func58 rfl Try.ntmps58 rfl fun B => ?_
  refine XK.seq ?_
  refine XK.region rfl ?_
  refine XO.box rfl fun b3 => ?_
  refine XO.q (Q.assign rfl) ?_
  refine XO.done ?_
  refine XK.seq ?_
  refine XK.region rfl ?_
  refine XO.q (Q.ldA [_, _] rfl rfl rfl) ?_
  refine XO.q (Q.move rfl) ?_
  refine XO.call Try.call85 rfl rfl rfl (begin_spec b vb vg hb hg fs vf hf ok fk) fun v13 s13 R13 => ?_
  obtain ⟨p, vs, vc, vn, ks, kc, kn, rfl, rfl, OS, OC, ON⟩ := R13
  dsimp only [List.cons_append, List.nil_append]
  refine XO.alloc fun b7 => ?_
  refine XO.st rfl rfl rfl ?_
  refine XO.done ?_
  refine XK.seq ?_
  refine XK.region rfl ?_
  refine XO.alloc fun b8 => ?_
  refine XO.st rfl rfl rfl ?_
  refine XO.done ?_
  refine XK.seq ?_
  refine XK.seq ?_
  refine XK.region rfl ?_
  refine XO.q (Q.move rfl) ?_
  refine XO.call Try.call86 rfl rfl rfl (seconds_spec vl) fun v15 s15 R15 => ?_
  obtain ⟨bs, rfl, rfl⟩ := R15
  dsimp only [List.cons_append, List.nil_append]
  refine XO.done ?_
  refine XK.block ?_
  refine XK.range (X := Nat × Value × PHeap × PHeap) (ps := [16, 17]) (secItems (powers l)) (fun ⟨m, vc1, kc1, kn1⟩ => [blk p [vb, vg, vs, vc1, vn, .int .i64 (stateP b (powers l) fs false (m)).served] 153, kc1, kn1, blk b8 [.int .i64 (lackTo b (powers l) fs m)] 3]) (fun i ⟨m, vc1, kc1, kn1⟩ => m = i ∧ OArr vc1 encCell 5 163 kc1 (stateP b (powers l) fs false (m)).cells ∧ OArr vn encI 1 3 kn1 (stateP b (powers l) fs false (m)).burnt) (fun _ _ => False) (0, vc, kc, kn) [blk p [vb, vg, vs, vc, vn, .int .i64 0] 153, kc, kn, blk b8 [.int .i64 0] 3] rfl ⟨rfl, OC, ON⟩ rfl (seconds1 bs l vl hl lk) rfl (secItems_two) ?_ ?_ (fun _ _ hJ => hJ.elim)
  · rintro lq rec B' i ⟨m, vc1, kc1, kn1⟩ hi ⟨hmi, C1, N1⟩
    dsimp only [List.cons_append, List.nil_append]
    rw [secItems_len] at hi
    subst hmi
    have lm := hlk m (by omega)
    have la := hla m (by omega)
    rw [secItems_at hi]
    dsimp only [pars]
    refine XK.seq ?_
    refine XK.region rfl ?_
    refine XO.q (Q.assign rfl) ?_
    refine XO.done ?_
    refine XK.region rfl ?_
    refine XO.q (Q.assign rfl) ?_
    refine XO.done ?_
    refine XK.beginRound ?_
    refine XK.block ?_
    refine XK.drawn [1, 2, 3, 5] [b7] [] (.q 1 (.q 2 (.q 3 (.br 0 true (.br 4 true (.q 5 (.br 6 false .done .stop)) .stop) (.br 4 true (.br 0 true (.q 5 (.br 6 false .done .stop)) .stop) .stop))))) Try.mixed rfl (by kernel_rfl) ?_
    refine XT.q rfl rfl (Q.ld rfl rfl) ?_
    refine XT.q rfl rfl (Q.move rfl) ?_
    refine XT.q rfl rfl (Q.move rfl) ?_
    refine XT.qs rfl rfl (Q.ld rfl rfl) ⟨inferInstance, ?_⟩ ?_
    · skip
      refine XT.call rfl rfl Try.call87 rfl rfl rfl (second_spec p vb vg vs vc1 vn b.gens (startsP b fs) pk hg ks (stateP b (powers l) fs false (m)) kc1 kn1 (hst m (by omega)) (by omega) ((m : Nat) : Int) (by omega) (by omega) ((powers l).getD m default) (hpw.p m (by omega)).1 (hpw.p m (by omega)).2 false) (fun v22 s22 R22 => ?_) XT.stop
      obtain ⟨vc2, kc2, kn2, rfl, rfl, C2, N2⟩ := R22
      dsimp only [List.cons_append, List.nil_append]
      refine ⟨inferInstance, ?_⟩
      have es : (secondP b.gens (startsP b fs) ((m : Nat) : Int) ((powers l).getD m default) false (stateP b (powers l) fs false (m))).2 = (stateP b (powers l) fs false (m + 1)) := rfl
      rw [es] at C2 N2 ⊢
      have el : (secondP b.gens (startsP b fs) ((m : Nat) : Int) ((powers l).getD m default) false (stateP b (powers l) fs false (m))).1 = lackAt b.gens (startsP b fs) false (powers l) (begun b) m := rfl
      rw [el]
      refine XT.q rfl rfl (Q.add rfl rfl ⟨by omega, by omega⟩) ?_
      refine XT.st rfl rfl rfl rfl rfl ⟨inferInstance, ?_⟩ XT.stop
      refine XT.done ?_
      refine XK.inBlock ?_
      exact XK.leave (j := none) [blk p [vb, vg, vs, vc2, vn, .int .i64 (stateP b (powers l) fs false (m + 1)).served] 153, kc2, kn2, blk b8 [.int .i64 (lackTo b (powers l) fs m + lackAt b.gens (startsP b fs) false (powers l) (begun b) m)] 3] trivial ⟨(m + 1, vc2, kc2, kn2), ⟨rfl, C2, N2⟩, rfl⟩
    · skip
      refine XT.call rfl rfl Try.call87 rfl rfl rfl (second_spec p vb vg vs vc1 vn b.gens (startsP b fs) pk hg ks (stateP b (powers l) fs false (m)) kc1 kn1 (hst m (by omega)) (by omega) ((m : Nat) : Int) (by omega) (by omega) ((powers l).getD m default) (hpw.p m (by omega)).1 (hpw.p m (by omega)).2 false) (fun v22 s22 R22 => ?_) XT.stop
      obtain ⟨vc2, kc2, kn2, rfl, rfl, C2, N2⟩ := R22
      dsimp only [List.cons_append, List.nil_append]
      refine ⟨inferInstance, ?_⟩
      have es : (secondP b.gens (startsP b fs) ((m : Nat) : Int) ((powers l).getD m default) false (stateP b (powers l) fs false (m))).2 = (stateP b (powers l) fs false (m + 1)) := rfl
      rw [es] at C2 N2 ⊢
      have el : (secondP b.gens (startsP b fs) ((m : Nat) : Int) ((powers l).getD m default) false (stateP b (powers l) fs false (m))).1 = lackAt b.gens (startsP b fs) false (powers l) (begun b) m := rfl
      rw [el]
      refine XT.qs rfl rfl (Q.ld rfl rfl) ⟨inferInstance, ?_⟩ XT.stop
      refine XT.q rfl rfl (Q.add rfl rfl ⟨by omega, by omega⟩) ?_
      refine XT.st rfl rfl rfl rfl rfl ⟨inferInstance, ?_⟩ XT.stop
      refine XT.done ?_
      refine XK.inBlock ?_
      exact XK.leave (j := none) [blk p [vb, vg, vs, vc2, vn, .int .i64 (stateP b (powers l) fs false (m + 1)).served] 153, kc2, kn2, blk b8 [.int .i64 (lackTo b (powers l) fs m + lackAt b.gens (startsP b fs) false (powers l) (begun b) m)] 3] trivial ⟨(m + 1, vc2, kc2, kn2), ⟨rfl, C2, N2⟩, rfl⟩
  · rintro ⟨m, vc1, kc1, kn1⟩ ⟨hmi, C1, N1⟩
    dsimp only [List.cons_append, List.nil_append]
    rw [secItems_len] at hmi
    subst hmi
    refine XK.inBlock ?_
    refine XK.seq ?_
    refine XK.region rfl ?_
    refine XO.q (Q.ld rfl rfl) ?_
    refine XO.q (Q.assign rfl) ?_
    refine XO.done ?_
    refine XK.rt [] Try.func58 Try.results58 (.t rfl .n) ?_
    exact ⟨rfl, rfl⟩
theorem Run_spec (b : BBank) (vb vg : Value) (hb hg : PHeap) [ib : Arr vb encBat 4 hb b.bats] [ig : Arr vg encGen 5 hg b.gens] (l : List BSpan) (vl : Value) (hl : PHeap) [il : Arr vl encSpan 2 hl l] (fs : List Int) (vf : Value) (hf : PHeap) [jf : Arr vf encI 1 hf fs] : Spec Try.prog 30 #[.agg #[vb, vg], vl, vf] [] [hb, hg, hl, hf] (fun v hs => ∃ ve vn ke kn, v = .tuple #[resV (if readyP b l fs = 0 then runP b (powers l) fs else ⟨0, [], [], 0⟩) ve vn, .int .i64 (readyP b l fs)] ∧ hs = [ke, kn] ∧ OArr ve encI 1 3 ke (if readyP b l fs = 0 then runP b (powers l) fs else ⟨0, [], [], 0⟩).energy ∧ OArr vn encI 1 3 kn (if readyP b l fs = 0 then runP b (powers l) fs else ⟨0, [], [], 0⟩).burnt) := by
  refine Spec.intro (fn := Try.f30) (N := 21) Try.func30 rfl Try.ntmps30 rfl fun B => ?_
  refine XK.seq ?_
  refine XK.region rfl ?_
  refine XO.box rfl fun b3 => ?_
  refine XO.alloc fun b6 => ?_
  refine XO.q (Q.assign rfl) ?_
  refine XO.done ?_
  refine XK.seq ?_
  refine XK.seq ?_
  refine XK.region rfl ?_
  refine XO.q (Q.ldA [_, _] rfl rfl rfl) ?_
  refine XO.q (Q.move rfl) ?_
  refine XO.q (Q.move rfl) ?_
  refine XO.call Try.call63 rfl rfl rfl (ready_spec b vb vg hb hg l vl hl fs vf hf) fun v12 s12 R12 => ?_
  obtain ⟨rfl, rfl⟩ := R12
  dsimp only [List.cons_append, List.nil_append]
  refine XO.q (Q.assign rfl) ?_
  refine XO.done ?_
  refine XK.seq ?_
  refine XK.region rfl ?_
  refine XO.q (Q.move rfl) ?_
  refine XO.q (Q.neq rfl rfl) ?_
  refine XO.done ?_
  refine XK.if rfl (fun c0 => ?_) (fun c0 => ?_)
  · have _t0 := True.intro
    refine XK.seq ?_
    refine XK.region rfl ?_
    refine XO.q (Q.build [_, _, _, _] (.n _)) ?_
    refine XO.q (Q.move rfl) ?_
    refine XO.st rfl rfl rfl ?_
    refine XO.q (Q.assign rfl) ?_
    refine XO.done ?_
    refine XK.rt [emp, emp] Try.func30 Try.results30 (.cell [_, _, _, _] rfl rfl rfl (.t rfl .n)) ?_
    rw [if_neg c0]
    exact ⟨.slice none 0 0, .slice none 0 0, emp, emp, rfl, rfl, OArr.nil (fun _ => rfl), OArr.nil (fun _ => rfl)⟩
  · have _t0 := True.intro
    refine XK.skip ?_
    refine XK.seq ?_
    refine XK.region rfl ?_
    refine XO.q (Q.ldA [_, _] rfl rfl rfl) ?_
    refine XO.q (Q.move rfl) ?_
    refine XO.q (Q.move rfl) ?_
    have rk := readyP_iff.1 (Decidable.of_not_not c0)
    refine XO.call Try.call64 rfl rfl rfl (run_nil b vb vg hb hg l vl hl fs vf hf rk.ob rk.ol rk.of) fun v20 s20 R20 => ?_
    obtain ⟨ve, vn, ke, kn, rfl, rfl, OE, OB⟩ := R20
    dsimp only [List.cons_append, List.nil_append]
    refine XO.st rfl rfl rfl ?_
    refine XO.q (Q.assign rfl) ?_
    refine XO.done ?_
    refine XK.rt [ke, kn] Try.func30 Try.results30 (.cell [_, _, _, _] rfl rfl rfl (.t rfl .n)) ?_
    have e0 := Decidable.of_not_not c0
    rw [if_pos e0, e0]
    exact ⟨ve, vn, ke, kn, rfl, rfl, OE, OB⟩
theorem search_spec (b : BBank) (vb vg : Value) (hb hg : PHeap) [ib : Arr vb encBat 4 hb b.bats] [ig : Arr vg encGen 5 hg b.gens] (l : List BSpan) (vl : Value) (hl : PHeap) [il : Arr vl encSpan 2 hl l] (most : Int) : Spec Try.prog 52 #[.agg #[vb, vg], vl, .int .i64 most] [] [hb, hg, hl] (fun v hs => v = .int .i64 (searchP b l most) ∧ hs = []) := by
  have lg := ig.le
  refine Spec.intro (fn := Try.f52) (N := 44) Try.func52 rfl Try.ntmps52 rfl fun B => ?_
  refine XK.seq ?_
  refine XK.region rfl ?_
  refine XO.box rfl fun b3 => ?_
  refine XO.q (Q.assign rfl) ?_
  refine XO.done ?_
  refine XK.seq ?_
  refine XK.seq ?_
  refine XK.region rfl ?_
  refine XO.q (Q.ldA [_, _] rfl rfl rfl) ?_
  refine XO.call Try.call38 rfl rfl rfl (Check_spec b vb vg hb hg) fun v13 s13 R13 => ?_
  obtain ⟨rfl, rfl⟩ := R13
  dsimp only [List.cons_append, List.nil_append]
  refine XO.q (Q.assign rfl) ?_
  refine XO.done ?_
  refine XK.seq ?_
  refine XK.region rfl ?_
  refine XO.q (Q.move rfl) ?_
  refine XO.q (Q.neq rfl rfl) ?_
  refine XO.done ?_
  refine XK.if rfl (fun c0 => ?_) (fun c0 => ?_)
  · have _t0 := True.intro
    refine XK.seq ?_
    refine XK.region rfl ?_
    refine XO.q (Q.move rfl) ?_
    refine XO.q (Q.assign rfl) ?_
    refine XO.done ?_
    refine XK.rt [] Try.func52 Try.results52 (.t rfl .n) ?_
    exact ⟨by rw [searchP, if_pos c0], rfl⟩
  · have _t0 := True.intro
    have bk := bcheck_iff.1 (Decidable.of_not_not c0)
    refine XK.skip ?_
    refine XK.seq ?_
    refine XK.region rfl ?_
    refine XO.q (Q.move rfl) ?_
    refine XO.call Try.call79 rfl rfl rfl (loaded_spec l vl hl) fun v19 s19 R19 => ?_
    obtain ⟨rfl, rfl⟩ := R19
    dsimp only [List.cons_append, List.nil_append]
    refine XO.q (Q.move rfl) ?_
    refine XO.q (Q.extract rfl rfl) ?_
    refine XO.q (Q.extract rfl rfl) ?_
    refine XO.q (Q.assign rfl) ?_
    refine XO.q (Q.assign rfl) ?_
    refine XO.done ?_
    refine XK.seq ?_
    refine XK.block ?_
    refine XK.seq ?_
    refine XK.region rfl ?_
    refine XO.q (Q.move rfl) ?_
    refine XO.q (Q.neq rfl rfl) ?_
    refine XO.q (Q.assign rfl) ?_
    refine XO.done ?_
    refine XK.if rfl (fun c1 => ?_) (fun c1 => ?_)
    · have _t1 := True.intro
      refine XK.seq ?_
      refine XK.region rfl ?_
      refine XO.q (Q.move rfl) ?_
      refine XO.q (Q.assign rfl) ?_
      refine XO.done ?_
      refine XK.rt [] Try.func52 Try.results52 (.t rfl .n) ?_
      exact ⟨by rw [searchP, if_neg c0, if_pos c1], rfl⟩
    · have _t1 := True.intro
      have lk := loadedP_iff.1 (Decidable.of_not_not c1)
      have lo := loaded_bound lk
      have cb := fun i hi => casesTo_bound bk lo.1 lo.2 i hi
      refine XK.seq ?_
      refine XK.region rfl ?_
      refine XO.q (Q.move rfl) ?_
      refine XO.q (Q.lss rfl rfl) ?_
      refine XO.q (Q.assign rfl) ?_
      refine XO.done ?_
      refine XK.if rfl (fun c2 => ?_) (fun c2 => ?_)
      · have _t2 := True.intro
        refine XK.seq ?_
        refine XK.region rfl ?_
        refine XO.q (Q.assign rfl) ?_
        refine XO.done ?_
        refine XK.rt [] Try.func52 Try.results52 (.t rfl .n) ?_
        exact ⟨by rw [searchP, if_neg c0, if_neg c1, if_pos c2], rfl⟩
      · have _t2 := True.intro
        refine XK.skip ?_
        refine XK.inBlock ?_
        refine XK.seq ?_
        refine XK.seq ?_
        refine XK.region rfl ?_
        refine XO.q (Q.fieldAddr rfl) ?_
        refine XO.q (Q.ld rfl rfl) ?_
        refine XO.len rfl fun l31 => ?_
        refine XO.q (Q.move rfl) ?_
        refine XO.done ?_
        refine XK.block ?_
        refine XK.while (X := Nat) [8, 11, 32, 33, 34, 35, 36, 37, 38, 39, 40, 41] (fun i => [(8, some (.int .i64 (casesTo b (loadedP l).1 i))), (32, some (.int .i64 (i : Nat)))]) (fun i => []) (fun i => i ≤ b.gens.length) (fun i => b.gens.length - i) (0) [] rfl (by omega) (.c rfl (.c rfl (.base 0 rfl rfl))) ?_
        rintro i hi ih0
        dsimp only [List.cons_append, List.nil_append] at ih0 ⊢
        refine XK.seq ?_
        refine XK.region rfl ?_
        refine XO.q (Q.lss rfl rfl) ?_
        refine XO.done ?_
        refine XK.seq ?_
        refine XK.if rfl (fun c3 => ?_) (fun c3 => ?_)
        · have _t3 := True.intro
          have ci := cb i (by omega)
          have gk := bk.gen _ (getD_memB (show i < b.gens.length by omega))
          have g0 := gk.t0
          have g1 := gk.t1
          have mu := mulLe (a := casesTo b (loadedP l).1 i) (b := (b.gens.getD i default).tries + 1) (m := 933120000) (n := 6) ci.1 ci.2 (by omega) (by omega)
          refine XK.skip ?_
          refine XK.seq ?_
          refine XK.block ?_
          refine XK.seq ?_
          refine XK.region rfl ?_
          refine XO.ix rfl rfl (by omega) (by omega) fun i34 => ?_
          refine XO.q (Q.ldEA [_, _, _, _, _] rfl (by first | assumption | omega) rfl rfl) ?_
          refine XO.alloc fun b11 => ?_
          refine XO.st rfl rfl rfl ?_
          refine XO.done ?_
          refine XK.region rfl ?_
          refine XO.q (Q.move rfl) ?_
          refine XO.q (Q.fieldAddr rfl) ?_
          refine XO.q (Q.ld rfl rfl) ?_
          refine XO.q (Q.add rfl rfl ⟨by omega, by omega⟩) ?_
          refine XO.q (Q.mul rfl rfl ⟨by omega, by omega⟩) ?_
          refine XO.q (Q.assign rfl) ?_
          refine XO.done ?_
          refine XK.inBlock ?_
          refine XK.region rfl ?_
          refine XO.q (Q.add rfl rfl ⟨by omega, by omega⟩) ?_
          refine XO.q (Q.move rfl) ?_
          refine XO.done ?_
          exact ih0 (i + 1) _ _ (by omega) (by first | omega | (dsimp only; omega)) (.c rfl (.c rfl (.base 26 rfl rfl))) inferInstance
        · have _t3 := True.intro
          refine XK.exit rfl ?_
          refine XK.seq ?_
          refine XK.seq ?_
          refine XK.region rfl ?_
          refine XO.q (Q.move rfl) ?_
          refine XO.q (Q.gtr rfl rfl) ?_
          refine XO.done ?_
          refine XK.if rfl (fun c4 => ?_) (fun c4 => ?_)
          · have _t4 := True.intro
            refine XK.seq ?_
            refine XK.region rfl ?_
            refine XO.q (Q.assign rfl) ?_
            refine XO.done ?_
            refine XK.rt [] Try.func52 Try.results52 (.t rfl .n) ?_
            have hil : i = b.gens.length := by omega
            subst hil
            exact ⟨by rw [searchP, if_neg c0, if_neg c1, if_neg c2, if_pos c4], rfl⟩
          · have _t4 := True.intro
            refine XK.skip ?_
            refine XK.seq ?_
            refine XK.region rfl ?_
            refine XO.q (Q.assign rfl) ?_
            refine XO.done ?_
            refine XK.rt [] Try.func52 Try.results52 (.t rfl .n) ?_
            have hil : i = b.gens.length := by omega
            subst hil
            exact ⟨by rw [searchP, if_neg c0, if_neg c1, if_neg c2, if_neg c4], rfl⟩
end Go.X

set_option linter.unusedSimpArgs false
set_option linter.unusedVariables false
set_option maxRecDepth 20000
namespace Go.X
open Go.Proofs
/-- What lists yields. -/
def ListY (items : List (List Int)) (i : Nat) (K : PHeap) (vs : List Value) : Prop := ∃ sl, vs = [sl] ∧ Arr sl encI 1 K (items.getD i default)
theorem lists1 (b : BBank) (vb vg : Value) (hb hg : PHeap) [ib : Arr vb encBat 4 hb b.bats] [ig : Arr vg encGen 5 hg b.gens] (ok : BOk b) (most : Int) (hm0 : 0 ≤ most) (hm1 : most ≤ 9223372036854775807) (b1 b2 : Nat) (f : Value) (Hr : List PHeap) (Qc : Nat → PHeap → PHeap → Prop) (Xc : PHeap → PHeap → Prop)
    (mono : ∀ i K K' q, leH K K' → Qc i K q → Qc i K' q)
    (round : ∀ i, i < (listsP b most).length → ∀ K vs q, ListY (listsP b most) i K vs → Qc i K q → VSpec Try.prog f vs [q] (K :: Hr) (fun v hs => ∃ b q', v = .bool b ∧ hs = [q'] ∧ (b = true → Qc (i + 1) K q') ∧ (b = false → Xc K q')))
    (q : PHeap) (hQ : Qc 0 emp q) : Spec Try.prog 84 #[f, ptr b1 0, ptr b2 0] [q, blk b1 [vb, vg] 25, blk b2 [.int .i64 most] 3] (hg :: Hr) (fun _ hs => ∃ q' K, hs = [q', K] ∧ (Qc (listsP b most).length K q' ∨ Xc K q')) := by
  have lg := ig.le
  have n6 := ok.ng
  have hne := listsP_ne ok hm0
  have hfirst := lists_first ok hm0
  have htl : (triesP b).length = b.gens.length := by simp [triesP]
  refine Spec.intro (fn := Try.f84) (N := 56) Try.func84 rfl Try.ntmps84 rfl fun B => ?_
  refine XK.scope ?_
  refine XK.seq ?_
  refine XK.region rfl ?_
  refine XO.q (Q.fieldAddr rfl) ?_
  refine XO.q (Q.ld rfl rfl) ?_
  refine XO.len rfl fun l9 => ?_
  refine XO.make encI (0) rfl rfl rfl (by omega) (by omega) (fun _ => rfl) rfl rfl rfl (by dsimp only [encI]; infer_instance) fun v10 h10 O10 => ?_
  refine XO.q (Q.assign rfl) ?_
  refine XO.done ?_
  refine XK.seq ?_
  refine XK.region rfl ?_
  refine XO.q (Q.ld rfl rfl) ?_
  refine XO.q (Q.assign rfl) ?_
  refine XO.done ?_
  refine XK.seq ?_
  refine XK.label ?_
  refine XK.block ?_
  refine XK.while (X := Nat × PHeap × PHeap × PHeap) [5, 6, 12, 13, 14, 15, 16, 17, 18, 19, 20, 21, 22, 23, 24, 25, 26, 27, 28, 29, 30, 31, 32, 33, 34, 35, 36, 37, 38, 39, 40, 41, 42, 43, 44, 45, 46, 47, 48, 49, 50, 51, 52, 53, 54, 55] (fun ⟨k, kn, K, q1⟩ => [(5, some (.int .i64 (leftK most (listsP b most) k)))]) (fun ⟨k, kn, K, q1⟩ => [q1, kn, K, blk b1 [vb, vg] 25, blk b2 [.int .i64 most] 3]) (fun ⟨k, kn, K, q1⟩ => k < (listsP b most).length ∧ OArr v10 encI 1 3 kn ((listsP b most).getD k default) ∧ Qc k K q1) (fun ⟨k, kn, K, q1⟩ => (listsP b most).length - k) (0, h10, emp, q) [q, h10, emp, blk b1 [vb, vg] 25, blk b2 [.int .i64 most] 3] rfl ⟨hne, by rw [hfirst]; exact O10, hQ⟩ (.c rfl (.base 0 rfl rfl)) ?_
  rintro ⟨k, kn, K, q1⟩ ⟨hk, ON, hq⟩ ih0
  dsimp only [List.cons_append, List.nil_append] at ih0 ⊢
  have fk := (lists_in ok hm0 hk).1
  have fs := (lists_in ok hm0 hk).2
  have fl := fk.n
  rw [leftK_eq ok hm0]
  refine XK.block ?_
  refine XK.seq ?_
  refine XK.seq ?_
  refine XK.region rfl ?_
  refine XO.q (Q.move rfl) ?_
  refine XO.q (Q.move rfl) ?_
  refine XO.call Try.call35 rfl rfl rfl (cloneI v10 kn ((listsP b most).getD k default) (by omega)) fun v14 s14 R14 => ?_
  obtain ⟨k14, rfl, O14⟩ := R14
  dsimp only [List.cons_append, List.nil_append]
  refine XO.cat K k14 fun leK le14 => ?_
  have A14 : Arr v14 encI 1 (cat K k14) ((listsP b most).getD k default) := Arr.le_heap (OArr.arr (s := O14)) le14
  clear O14
  refine XO.vcall rfl rfl (round k hk (cat K k14) _ q1 ⟨v14, rfl, A14⟩ (mono k K (cat K k14) q1 leK hq)) fun v15 s15 R15 => ?_
  obtain ⟨bb, q2, rfl, rfl, hT, hF⟩ := R15
  dsimp only [List.cons_append, List.nil_append]
  refine XO.q (Q.not rfl) ?_
  refine XO.done ?_
  refine XK.if rfl (fun c0 => ?_) (fun c0 => ?_)
  · have _t0 := True.intro
    refine XK.rt [q2, cat K k14] Try.func84 Try.results84 (.n) ?_
    exact ⟨q2, cat K k14, rfl, .inr (hF (by cases bb <;> simp_all))⟩
  · have _t0 := True.intro
    refine XK.skip ?_
    refine XK.seq ?_
    refine XK.seq ?_
    refine XK.region rfl ?_
    refine XO.q (Q.move rfl) ?_
    refine XO.len rfl fun l18 => ?_
    refine XO.q (Q.sub rfl rfl ⟨by omega, by omega⟩) ?_
    refine XO.q (Q.assign rfl) ?_
    refine XO.done ?_
    refine XK.block ?_
    refine XK.while (X := Nat × PHeap) [5, 6, 20, 21, 22, 23, 24, 25, 26, 27, 28, 29, 30, 31, 32, 33, 34, 35, 36, 37, 38, 39, 40, 41, 42, 43, 44, 45, 46, 47, 48, 49, 50, 51, 52, 53, 54, 55] (fun ⟨j, km⟩ => [(5, some (.int .i64 (most - sumL (((listsP b most).getD k default).take j)))), (6, some (.int .i64 ((j : Int) - 1)))]) (fun ⟨j, km⟩ => [km]) (fun ⟨j, km⟩ => j ≤ ((listsP b most).getD k default).length ∧ stepL ((triesP b).drop j) (most - sumL (((listsP b most).getD k default).take j)) (((listsP b most).getD k default).drop j) = none ∧ OArr v10 encI 1 3 km (((listsP b most).getD k default).take (j) ++ List.replicate (((listsP b most).getD k default).length - (j)) 0)) (fun ⟨j, km⟩ => j) (((listsP b most).getD k default).length, kn) [kn] rfl ⟨Nat.le_refl _, step_start (by omega) _, by rw [List.take_length, Nat.sub_self, List.replicate_zero, List.append_nil]; exact ON⟩ (.c rfl (.c rfl (.base 0 rfl rfl))) ?_
    rintro ⟨j, km⟩ ⟨hj, hn, OM⟩ ih1
    dsimp only [List.cons_append, List.nil_append] at ih1 ⊢
    refine XK.seq ?_
    refine XK.seq ?_
    refine XK.region rfl ?_
    refine XO.q (Q.move rfl) ?_
    refine XO.q (Q.geq rfl rfl) ?_
    refine XO.done ?_
    refine XK.if rfl (fun c1 => ?_) (fun c1 => ?_)
    · have _t1 := True.intro
      obtain ⟨i, rfl⟩ : ∃ i, j = i + 1 := ⟨j - 1, by omega⟩
      rw [show ((i + 1 : Nat) : Int) - 1 = (i : Int) by omega]
      have na := now_at (x := ((listsP b most).getD k default)) (i := i) (by omega)
      have nl := now_len (x := ((listsP b most).getD k default)) (i := i + 1) (by omega)
      have xi := fk.f i (by omega)
      have sp := sumL_nonneg (fun i hi => (fk.f i (by omega)).1) (i + 1) hj
      have sq := sumL_nonneg (fun i hi => (fk.f i (by omega)).1) i (by omega)
      have ss := sumL_take_succ (x := ((listsP b most).getD k default)) (i := i) (by omega)
      have tg := (ok.gen _ (getD_memB (show i < b.gens.length by omega))).t1
      refine XK.skip ?_
      refine XK.seq ?_
      refine XK.block ?_
      refine XK.seq ?_
      refine XK.seq ?_
      refine XK.drawn [0, 1, 2, 3, 4, 5, 6, 7, 8, 9, 10, 11, 12, 13, 14] [b1] [km] (.q 0 (.q 1 (.q 2 (.q 3 (.q 4 (.q 5 (.q 6 (.q 7 (.q 8 (.q 9 (.q 10 (.q 11 (.q 12 (.q 13 (.q 14 .done))))))))))))))) Try.mixed rfl (by kernel_rfl) ?_
      refine XT.q rfl rfl (Q.move rfl) ?_
      refine XT.q rfl rfl (Q.move rfl) ?_
      refine XT.ix rfl rfl rfl rfl (by omega) (by omega) fun i26 => ?_
      refine XT.q rfl rfl (Q.ldE rfl (by first | assumption | omega) rfl) ?_
      refine XT.q rfl rfl (Q.fieldAddr rfl) ?_
      refine XT.q rfl rfl (Q.ld rfl rfl) ?_
      refine XT.q rfl rfl (Q.move rfl) ?_
      refine XT.ix rfl rfl rfl rfl (by omega) (by omega) fun i31 => ?_
      refine XT.q rfl rfl (Q.fieldQ rfl (by first | assumption | omega)) ?_
      refine XT.q rfl rfl (Q.ldE rfl (by first | assumption | omega) rfl) ?_
      refine XT.q rfl rfl (Q.lss rfl rfl) ?_
      refine XT.q rfl rfl (Q.move rfl) ?_
      refine XT.q rfl rfl (Quiet.guardT rfl rfl fun g36 p36 => Q.move rfl) ?_
      refine XT.q rfl rfl (Quiet.guardT rfl rfl fun g37 p37 => Q.gtr (lzv g37 rfl) rfl) ?_
      refine XT.q rfl rfl (Q.and rfl (fun hp => lzv hp rfl)) ?_
      refine XT.done ?_
      refine XK.if rfl (fun c2 => ?_) (fun c2 => ?_)
      · have _t2 := True.intro
        obtain ⟨nk, ne, nf⟩ := next_found ok hm0 hk (by omega) hn (by rw [← na]; exact c2.1) (by have := c2.2; omega)
        refine XK.seq ?_
        refine XK.region rfl ?_
        refine XO.q (Q.move rfl) ?_
        refine XO.q (Q.move rfl) ?_
        refine XO.ix rfl rfl (by omega) (by omega) fun i41 => ?_
        refine XO.q (Q.ldE rfl (by first | assumption | omega) rfl) ?_
        refine XO.q (Q.add rfl rfl ⟨by omega, by omega⟩) ?_
        refine XO.ix rfl rfl (by omega) (by omega) fun i44 => ?_
        refine XO.stE _ rfl rfl rfl (by assumption) rfl rfl fun h7_6 O7_6 => ?_
        rw [na, now_set (by omega), ← ne] at O7_6
        refine XO.done ?_
        refine XK.seq ?_
        refine XK.region rfl ?_
        refine XO.q (Q.move rfl) ?_
        refine XO.q (Q.sub rfl rfl ⟨by omega, by omega⟩) ?_
        rw [nf]
        refine XO.q (Q.assign rfl) ?_
        refine XO.done ?_
        refine XK.exit rfl ?_
        exact ih0 (k + 1, h7_6, cat K k14, q2) _ _ ⟨nk, O7_6, hT (by cases bb <;> simp_all)⟩ (by first | omega | (dsimp only; omega)) (.c rfl (.base 122 rfl rfl)) inferInstance
      · have _t2 := True.intro
        obtain ⟨nn, nf⟩ := next_not ok hm0 hk (by omega) hn (fun hh => c2 ⟨by rw [na]; exact hh.1, by have := hh.2; omega⟩)
        refine XK.skip ?_
        refine XK.seq ?_
        refine XK.region rfl ?_
        refine XO.q (Q.move rfl) ?_
        refine XO.q (Q.move rfl) ?_
        refine XO.q (Q.move rfl) ?_
        refine XO.ix rfl rfl (by omega) (by omega) fun i50 => ?_
        refine XO.q (Q.ldE rfl (by first | assumption | omega) rfl) ?_
        refine XO.q (Q.add rfl rfl ⟨by omega, by omega⟩) ?_
        rw [na, nf]
        refine XO.q (Q.assign rfl) ?_
        refine XO.done ?_
        refine XK.region rfl ?_
        refine XO.q (Q.move rfl) ?_
        refine XO.q (Q.move rfl) ?_
        refine XO.ix rfl rfl (by omega) (by omega) fun i55 => ?_
        refine XO.stE _ rfl rfl rfl (by assumption) rfl rfl fun h10_3 O10_3 => ?_
        rw [now_zero (by omega)] at O10_3
        refine XO.done ?_
        refine XK.inBlock ?_
        refine XK.region rfl ?_
        refine XO.q (Q.move rfl) ?_
        refine XO.q (Q.sub rfl rfl ⟨by omega, by omega⟩) ?_
        refine XO.q (Q.assign rfl) ?_
        refine XO.done ?_
        exact ih1 (i, h10_3) _ _ ⟨by dsimp only; omega, nn, O10_3⟩ (by first | omega | (dsimp only; omega)) (.c rfl (.c rfl (.base 70 rfl rfl))) inferInstance
    · have _t1 := True.intro
      have hj0 : j = 0 := by omega
      subst hj0
      have hend := next_end ok hm0 hk hn
      refine XK.exit rfl ?_
      refine XK.rt [q2, cat K k14] Try.func84 Try.results84 (.n) ?_
      exact ⟨q2, cat K k14, rfl, .inl (by rw [← hend]; exact hT (by cases bb <;> simp_all))⟩
theorem lists_spec (b : BBank) (vb vg : Value) (hb hg : PHeap) [ib : Arr vb encBat 4 hb b.bats] [ig : Arr vg encGen 5 hg b.gens] (ok : BOk b) (most : Int) (hm0 : 0 ≤ most) (hm1 : most ≤ 9223372036854775807) : Spec Try.prog 57 #[.agg #[vb, vg], .int .i64 most] [] [] (fun v hs => ∃ k1 k2, hs = [k1, k2] ∧ ItK Try.prog v (listsP b most).length (ListY (listsP b most)) [k1, k2] [hg]) := by
  refine Spec.intro (fn := Try.f57) (N := 6) Try.func57 rfl Try.ntmps57 rfl fun B => ?_
  refine XK.seq ?_
  refine XK.region rfl ?_
  refine XO.box rfl fun b2 => ?_
  refine XO.box rfl fun b3 => ?_
  refine XO.q (Q.assign rfl) ?_
  refine XO.done ?_
  refine XK.seq ?_
  refine XK.region rfl ?_
  refine XO.q (Q.func (fun _ he => rfl) (fun _ he => evs_rel he rfl)) ?_
  refine XO.q (Q.assign rfl) ?_
  refine XO.done ?_
  refine XK.rt [blk b2 [vb, vg] 25, blk b3 [.int .i64 most] 3] Try.func57 Try.results57 (.t rfl .n) ?_
  exact ⟨_, _, rfl, fun f Hr Qc Xc mono round q hQ => VSpec.fn (fst := []) (cap := [ptr b2 0, ptr b3 0]) Try.call84 rfl (lists1 b vb vg hb hg ok most hm0 hm1 b2 b3 f Hr Qc Xc mono round q hQ)⟩
set_option maxHeartbeats 1000000 in
theorem worst_spec (b : BBank) (vb vg : Value) (hb hg : PHeap) [ib : Arr vb encBat 4 hb b.bats] [ig : Arr vg encGen 5 hg b.gens] (l : List BSpan) (vl : Value) (hl : PHeap) [il : Arr vl encSpan 2 hl l] (ok : BOk b) (lk : LOk l) (most : Int) (hm0 : 0 ≤ most) (hm1 : most ≤ 9223372036854775807) : Spec Try.prog 53 #[.agg #[vb, vg], vl, .int .i64 most] [] [hb, hg, hl]
    (fun v hs => ∃ vw ve vn K ke kn, v = .tuple #[vw, resV (worstP b (powers l) most).2 ve vn] ∧ hs = [K, ke, kn] ∧ One vw ∧ Arr vw encI 1 K (worstP b (powers l) most).1 ∧ OArr ve encI 1 3 ke (worstP b (powers l) most).2.energy ∧ OArr vn encI 1 3 kn (worstP b (powers l) most).2.burnt) := by
  have hfk := fun k hk => (lists_in ok hm0 (k := k) hk).1
  have hnil : OArr (.slice none 0 0) encI 1 3 emp ([] : List Int) := OArr.nil (fun _ => rfl)
  refine Spec.intro (fn := Try.f53) (N := 43) Try.func53 rfl Try.ntmps53 rfl fun B => ?_
  refine XK.seq ?_
  refine XK.region rfl ?_
  refine XO.box rfl fun b3 => ?_
  refine XO.box rfl fun b4 => ?_
  refine XO.q (Q.assign rfl) ?_
  refine XO.alloc fun b7 => ?_
  refine XO.done ?_
  refine XK.seq ?_
  refine XK.region rfl ?_
  refine XO.alloc fun b8 => ?_
  refine XO.done ?_
  refine XK.seq ?_
  refine XK.region rfl ?_
  refine XO.alloc fun b9 => ?_
  refine XO.done ?_
  refine XK.seq ?_
  refine XK.region rfl ?_
  refine XO.alloc fun b10 => ?_
  refine XO.st rfl rfl rfl ?_
  refine XO.done ?_
  refine XK.seq ?_
  refine XK.seq ?_
  refine XK.region rfl ?_
  refine XO.q (Q.ldA [_, _] rfl rfl rfl) ?_
  refine XO.q (Q.move rfl) ?_
  refine XO.call Try.call57 rfl rfl rfl (lists_spec b vb vg hb hg ok most hm0 hm1) fun v15 s15 R15 => ?_
  obtain ⟨k1, k2, rfl, hit⟩ := R15
  dsimp only [List.cons_append, List.nil_append]
  refine XO.done ?_
  refine XK.block ?_
  refine XK.rangeK (X := Nat × Value × Value × Value × PHeap × PHeap × (List Int × BRes)) (ps := [16]) (fun ⟨k, vw, ve, vn, ke, kn, w⟩ => [blk b8 [vw] 39, blk b9 [.int .i64 w.2.dark, ve, vn, .int .i64 w.2.served] 41, blk b10 [.bool (flagP k)] 4, ke, kn]) (fun i ⟨k, vw, ve, vn, ke, kn, w⟩ K0 => k = i ∧ w = (worstTo b (powers l) (listsP b most) (k)) ∧ One vw ∧ Arr vw encI 1 K0 w.1 ∧ OArr ve encI 1 3 ke w.2.energy ∧ OArr vn encI 1 3 kn w.2.burnt) (fun j0 ⟨k, vw, ve, vn, ke, kn, w⟩ K0 => False) (0, .slice none 0 0, .slice none 0 0, .slice none 0 0, emp, emp, ([], ⟨0, [], [], 0⟩)) [blk b8 [.slice none 0 0] 39, blk b9 [.int .i64 0, .slice none 0 0, .slice none 0 0, .int .i64 0] 41, blk b10 [.bool true] 4, emp, emp] rfl (hit) rfl (fun i x K K' hle hI => ⟨hI.1, hI.2.1, hI.2.2.1, Arr.le_heap hI.2.2.2.1 hle, hI.2.2.2.2⟩) (⟨rfl, rfl, inferInstance, OArr.arr (s := hnil), hnil, hnil⟩) rfl (fun i K vs hY => by obtain ⟨sl, rfl, _⟩ := hY; rfl) ?_ ?_ (fun _ _ _ hJ => hJ.elim)
  · rintro lq rec B' i ⟨k, vw, ve, vn, ke, kn, w⟩ K0 vs hi ⟨vx, rfl, ax⟩ ⟨hki, hw, ow, AW, OE, OB⟩
    dsimp only [List.cons_append, List.nil_append]
    subst hki
    have e1 := worstTo_succ b (powers l) (listsP b most) k
    rw [← hw] at e1
    refine XK.region rfl ?_
    refine XO.q (Q.assign rfl) ?_
    refine XO.done ?_
    refine XK.beginRound ?_
    refine XK.block ?_
    refine XK.seq ?_
    refine XK.region rfl ?_
    refine XO.q (Q.ldA [_, _] rfl rfl rfl) ?_
    refine XO.q (Q.ld rfl rfl) ?_
    refine XO.q (Q.move rfl) ?_
    refine XO.call Try.call64 rfl rfl rfl (run_nil b vb vg hb hg l vl hl ((listsP b most).getD k default) vx K0 ok lk (hfk k (by omega))) fun v20 s20 R20 => ?_
    obtain ⟨ve2, vn2, ke2, kn2, rfl, rfl, E2, N2⟩ := R20
    dsimp only [List.cons_append, List.nil_append]
    refine XO.alloc fun b12 => ?_
    refine XO.st rfl rfl rfl ?_
    refine XO.done ?_
    refine XK.seq ?_
    refine XK.region rfl ?_
    refine XO.q (Q.ld rfl rfl) ?_
    refine XO.q (Q.move rfl) ?_
    refine XO.q (Quiet.guardF rfl rfl fun g23 p23 => Q.fieldAddr rfl) ?_
    refine XO.q (Quiet.guardF rfl rfl fun g24 p24 => Q.ld (lzv g24 rfl) rfl) ?_
    refine XO.q (Quiet.guardF rfl rfl fun g25 p25 => Q.geq (lzv g25 rfl) rfl) ?_
    refine XO.q (Quiet.guardF rfl rfl fun g26 p26 => Q.move (lzv g26 rfl)) ?_
    refine XO.q (Quiet.guard2 rfl rfl fun g27a g27b => have p27a := bpF g27a; have p27b := bpT g27b; Q.fieldAddr rfl) ?_
    refine XO.q (Quiet.guard2 rfl rfl fun g28a g28b => have p28a := bpF g28a; have p28b := bpT g28b; Q.ld (lzv g28b (lzv g28a rfl)) rfl) ?_
    refine XO.q (Quiet.guard2 rfl rfl fun g29a g29b => have p29a := bpF g29a; have p29b := bpT g29b; Q.lss (lzv g29b (lzv g29a rfl)) rfl) ?_
    refine XO.q (Quiet.guard2 rfl rfl fun g30a g30b => have p30a := bpF g30a; have p30b := bpT g30b; Q.move (lzv g30b (lzv g30a rfl))) ?_
    refine XO.q (Quiet.guard3 rfl rfl fun g31a g31b g31c => have p31a := bpF g31a; have p31b := bpT g31b; have p31c := bpF g31c; Q.fieldAddr rfl) ?_
    refine XO.q (Quiet.guard3 rfl rfl fun g32a g32b g32c => have p32a := bpF g32a; have p32b := bpT g32b; have p32c := bpF g32c; Q.ld (lzv g32c (lzv g32b (lzv g32a rfl))) rfl) ?_
    refine XO.q (Quiet.guard3 rfl rfl fun g33a g33b g33c => have p33a := bpF g33a; have p33b := bpT g33b; have p33c := bpF g33c; Q.fieldAddr rfl) ?_
    refine XO.q (Quiet.guard3 rfl rfl fun g34a g34b g34c => have p34a := bpF g34a; have p34b := bpT g34b; have p34c := bpF g34c; Q.ld (lzv g34c (lzv g34b (lzv g34a rfl))) rfl) ?_
    refine XO.q (Quiet.guard3 rfl rfl fun g35a g35b g35c => have p35a := bpF g35a; have p35b := bpT g35b; have p35c := bpF g35c; Q.lss (lzv g35c (lzv g35b (lzv g35a rfl))) (lzv g35c (lzv g35b (lzv g35a rfl)))) ?_
    refine XO.q (Quiet.guard2 rfl rfl fun g36a g36b => have p36a := bpF g36a; have p36b := bpT g36b; Q.or (lzv g36b (lzv g36a rfl)) (fun hp => (lzv hp (lzv g36b (lzv g36a rfl))))) ?_
    refine XO.q (Quiet.guardF rfl rfl fun g37 p37 => Q.and (lzv g37 rfl) (fun hp => (lzv hp (lzv g37 rfl)))) ?_
    refine XO.q (Q.or rfl (fun hp => lzv hp rfl)) ?_
    refine XO.done ?_
    refine XK.if rfl (fun c0 => ?_) (fun c0 => ?_)
    · have _t0 := True.intro
      refine XK.drawn [0, 1] [b12] [] (.q 0 (.q 1 (.br 2 true (.br 3 false (.br 4 false .done .stop) .stop) .stop))) Try.mixed rfl (by kernel_rfl) ?_
      refine XT.q rfl rfl (Q.move rfl) ?_
      refine XT.q rfl rfl (Q.ldA [_, _, _, _] rfl rfl rfl) ?_
      refine XT.st rfl rfl rfl rfl rfl ⟨inferInstance, ?_⟩ XT.stop
      refine XT.st rfl rfl rfl rfl rfl ⟨inferInstance, ?_⟩ XT.stop
      refine XT.st rfl rfl rfl rfl rfl ⟨inferInstance, ?_⟩ XT.stop
      refine XT.done ?_
      refine XK.inBlock ?_
      have e2 : (worstTo b (powers l) (listsP b most) (k + 1)) = (((listsP b most).getD k default), (runP b (powers l) ((listsP b most).getD k default))) := by rw [e1, if_pos (better_iff.2 c0)]
      exact XK.leave (j := none) [blk b8 [vx] 39, blk b9 [.int .i64 (runP b (powers l) ((listsP b most).getD k default)).dark, ve2, vn2, .int .i64 (runP b (powers l) ((listsP b most).getD k default)).served] 41, blk b10 [.bool false] 4, ke2, kn2] trivial ⟨(k + 1, vx, ve2, vn2, ke2, kn2, (((listsP b most).getD k default), (runP b (powers l) ((listsP b most).getD k default)))), ⟨rfl, e2.symm, inferInstance, ax, E2, N2⟩, rfl⟩
    · have _t0 := True.intro
      refine XK.skip ?_
      refine XK.inBlock ?_
      have e2 : (worstTo b (powers l) (listsP b most) (k + 1)) = w := by rw [e1, if_neg (fun h => c0 (better_iff.1 h))]
      rw [show flagP k = false from Bool.eq_false_iff.2 (fun h => c0 (.inl h))]
      exact XK.leave (j := none) [blk b8 [vw] 39, blk b9 [.int .i64 w.2.dark, ve, vn, .int .i64 w.2.served] 41, blk b10 [.bool false] 4, ke, kn] trivial ⟨(k + 1, vw, ve, vn, ke, kn, w), ⟨rfl, e2.symm, ow, AW, OE, OB⟩, rfl⟩
  · rintro ⟨k, vw, ve, vn, ke, kn, w⟩ K0 ⟨hki, hw, ow, AW, OE, OB⟩
    dsimp only [List.cons_append, List.nil_append]
    subst hki
    refine XK.inBlock ?_
    refine XK.seq ?_
    refine XK.drawn [0, 1, 2] [b8, b9] [] (.q 0 (.q 1 (.q 2 (.br 3 false .done .stop)))) Try.mixed rfl (by kernel_rfl) ?_
    refine XT.q rfl rfl (Q.ld rfl rfl) ?_
    refine XT.q rfl rfl (Q.ldA [_, _, _, _] rfl rfl rfl) ?_
    refine XT.q rfl rfl (Q.assign rfl) ?_
    refine XT.st rfl rfl rfl rfl rfl ⟨inferInstance, ?_⟩ XT.stop
    refine XT.done ?_
    refine XK.rt [K0, ke, kn] Try.func53 Try.results53 (.t rfl (.cell [_, _, _, _] rfl rfl rfl (.n))) ?_
    subst hw
    exact ⟨vw, ve, vn, K0, ke, kn, rfl, rfl, ow, AW, OE, OB⟩
end Go.X

set_option linter.unusedSimpArgs false
set_option linter.unusedVariables false
set_option maxRecDepth 20000
namespace Go.X
open Go.Proofs
theorem Worst_spec (b : BBank) (vb vg : Value) (hb hg : PHeap) [ib : Arr vb encBat 4 hb b.bats] [ig : Arr vg encGen 5 hg b.gens] (l : List BSpan) (vl : Value) (hl : PHeap) [il : Arr vl encSpan 2 hl l] (most : Int) (hm1 : most ≤ 9223372036854775807) : Spec Try.prog 17 #[.agg #[vb, vg], vl, .int .i64 most] [] [hb, hg, hl]
    (fun v hs => ∃ vw ve vn K ke kn, v = .tuple #[vw, resV (if searchP b l most = 0 then worstP b (powers l) most else ([], ⟨0, [], [], 0⟩)).2 ve vn, .int .i64 (searchP b l most)] ∧ hs = [K, ke, kn] ∧ One vw ∧ Arr vw encI 1 K (if searchP b l most = 0 then worstP b (powers l) most else ([], ⟨0, [], [], 0⟩)).1 ∧ OArr ve encI 1 3 ke (if searchP b l most = 0 then worstP b (powers l) most else ([], ⟨0, [], [], 0⟩)).2.energy ∧ OArr vn encI 1 3 kn (if searchP b l most = 0 then worstP b (powers l) most else ([], ⟨0, [], [], 0⟩)).2.burnt) := by
  have hnil : OArr (.slice none 0 0) encI 1 3 emp ([] : List Int) := OArr.nil (fun _ => rfl)
  refine Spec.intro (fn := Try.f17) (N := 29) Try.func17 rfl Try.ntmps17 rfl fun B => ?_
  refine XK.seq ?_
  refine XK.region rfl ?_
  refine XO.box rfl fun b3 => ?_
  refine XO.q (Q.assign rfl) ?_
  refine XO.alloc fun b7 => ?_
  refine XO.q (Q.assign rfl) ?_
  refine XO.done ?_
  refine XK.seq ?_
  refine XK.seq ?_
  refine XK.region rfl ?_
  refine XO.q (Q.ldA [_, _] rfl rfl rfl) ?_
  refine XO.q (Q.move rfl) ?_
  refine XO.q (Q.move rfl) ?_
  refine XO.call Try.call52 rfl rfl rfl (search_spec b vb vg hb hg l vl hl most) fun v15 s15 R15 => ?_
  obtain ⟨rfl, rfl⟩ := R15
  dsimp only [List.cons_append, List.nil_append]
  refine XO.q (Q.assign rfl) ?_
  refine XO.done ?_
  refine XK.seq ?_
  refine XK.region rfl ?_
  refine XO.q (Q.move rfl) ?_
  refine XO.q (Q.neq rfl rfl) ?_
  refine XO.done ?_
  refine XK.if rfl (fun c0 => ?_) (fun c0 => ?_)
  · have _t0 := True.intro
    refine XK.seq ?_
    refine XK.region rfl ?_
    refine XO.q (Q.build [_, _, _, _] (.n _)) ?_
    refine XO.q (Q.move rfl) ?_
    refine XO.q (Q.assign rfl) ?_
    refine XO.st rfl rfl rfl ?_
    refine XO.q (Q.assign rfl) ?_
    refine XO.done ?_
    refine XK.rt [emp, emp, emp] Try.func17 Try.results17 (.t rfl (.cell [_, _, _, _] rfl rfl rfl (.t rfl .n))) ?_
    rw [if_neg c0]
    exact ⟨.slice none 0 0, .slice none 0 0, .slice none 0 0, emp, emp, emp, rfl, rfl, inferInstance, OArr.arr (s := hnil), hnil, hnil⟩
  · have _t0 := True.intro
    refine XK.skip ?_
    refine XK.seq ?_
    refine XK.region rfl ?_
    refine XO.q (Q.ldA [_, _] rfl rfl rfl) ?_
    refine XO.q (Q.move rfl) ?_
    refine XO.q (Q.move rfl) ?_
    have sk := searchP_iff.1 (Decidable.of_not_not c0)
    refine XO.call Try.call53 rfl rfl rfl (worst_spec b vb vg hb hg l vl hl sk.ob sk.ol most sk.m0 hm1) fun v24 s24 R24 => ?_
    obtain ⟨vw, ve, vn, K, ke, kn, rfl, rfl, ow, AW, OE, OB⟩ := R24
    dsimp only [List.cons_append, List.nil_append]
    refine XO.q (Q.move rfl) ?_
    refine XO.q (Q.extract rfl rfl) ?_
    refine XO.q (Q.extract rfl rfl) ?_
    refine XO.alloc fun b11 => ?_
    refine XO.q (Q.assign rfl) ?_
    refine XO.st rfl rfl rfl ?_
    refine XO.done ?_
    refine XK.seq ?_
    refine XK.drawn [0, 1, 2, 4] [b11] [] (.q 0 (.q 1 (.q 2 (.br 3 true (.q 4 .done) .stop)))) Try.mixed rfl (by kernel_rfl) ?_
    refine XT.q rfl rfl (Q.move rfl) ?_
    refine XT.q rfl rfl (Q.ldA [_, _, _, _] rfl rfl rfl) ?_
    refine XT.q rfl rfl (Q.assign rfl) ?_
    refine XT.st rfl rfl rfl rfl rfl ⟨inferInstance, ?_⟩ XT.stop
    refine XT.q rfl rfl (Q.assign rfl) ?_
    refine XT.done ?_
    refine XK.rt [K, ke, kn] Try.func17 Try.results17 (.t rfl (.cell [_, _, _, _] rfl rfl rfl (.t rfl .n))) ?_
    have e0 := Decidable.of_not_not c0
    rw [if_pos e0, e0]
    exact ⟨vw, ve, vn, K, ke, kn, rfl, rfl, ow, AW, OE, OB⟩
theorem Least_spec (b : BBank) (vb vg : Value) (hb hg : PHeap) [ib : Arr vb encBat 4 hb b.bats] [ig : Arr vg encGen 5 hg b.gens] (l : List BSpan) (vl : Value) (hl : PHeap) [il : Arr vl encSpan 2 hl l] (most : Int) (hm1 : most ≤ 9223372036854775807) : Spec Try.prog 20 #[.agg #[vb, vg], vl, .int .i64 most] [] [hb, hg, hl] (fun v hs => v = .tuple #[.int .i64 (if searchP b l most = 0 then leastP b (powers l) most else 0), .int .i64 (searchP b l most)] ∧ hs = []) := by
  refine Spec.intro (fn := Try.f20) (N := 29) Try.func20 rfl Try.ntmps20 rfl fun B => ?_
  refine XK.seq ?_
  refine XK.region rfl ?_
  refine XO.box rfl fun b3 => ?_
  refine XO.box rfl fun b4 => ?_
  refine XO.q (Q.assign rfl) ?_
  refine XO.q (Q.assign rfl) ?_
  refine XO.done ?_
  refine XK.seq ?_
  refine XK.seq ?_
  refine XK.region rfl ?_
  refine XO.q (Q.ldA [_, _] rfl rfl rfl) ?_
  refine XO.q (Q.ld rfl rfl) ?_
  refine XO.q (Q.move rfl) ?_
  refine XO.call Try.call52 rfl rfl rfl (search_spec b vb vg hb hg l vl hl most) fun v14 s14 R14 => ?_
  obtain ⟨rfl, rfl⟩ := R14
  dsimp only [List.cons_append, List.nil_append]
  refine XO.q (Q.assign rfl) ?_
  refine XO.done ?_
  refine XK.seq ?_
  refine XK.region rfl ?_
  refine XO.q (Q.move rfl) ?_
  refine XO.q (Q.neq rfl rfl) ?_
  refine XO.done ?_
  refine XK.if rfl (fun c0 => ?_) (fun c0 => ?_)
  · have _t0 := True.intro
    refine XK.seq ?_
    refine XK.region rfl ?_
    refine XO.q (Q.move rfl) ?_
    refine XO.q (Q.assign rfl) ?_
    refine XO.q (Q.assign rfl) ?_
    refine XO.done ?_
    refine XK.rt [] Try.func20 Try.results20 (.t rfl (.t rfl .n)) ?_
    exact ⟨by rw [if_neg c0], rfl⟩
  · have _t0 := True.intro
    refine XK.skip ?_
    refine XK.seq ?_
    refine XK.region rfl ?_
    refine XO.alloc fun b9 => ?_
    refine XO.st rfl rfl rfl ?_
    refine XO.done ?_
    refine XK.seq ?_
    refine XK.seq ?_
    refine XK.region rfl ?_
    refine XO.q (Q.ldA [_, _] rfl rfl rfl) ?_
    refine XO.q (Q.move rfl) ?_
    have sk := searchP_iff.1 (Decidable.of_not_not c0)
    refine XO.call Try.call57 rfl rfl rfl (lists_spec b vb vg hb hg sk.ob most sk.m0 hm1) fun v20 s20 R20 => ?_
    obtain ⟨k1, k2, rfl, hit⟩ := R20
    dsimp only [List.cons_append, List.nil_append]
    refine XO.done ?_
    refine XK.block ?_
    refine XK.rangeK (X := Nat) (ps := [21]) (fun k => [blk b9 [.int .i64 (leastTo b (powers l) (listsP b most) (k))] 3]) (fun i k K0 => k = i) (fun j0 k K0 => False) (0) [blk b9 [.int .i64 0] 3] rfl (hit) rfl (fun i x K K' hle hI => hI) (rfl) rfl (fun i K vs hY => by obtain ⟨sl, rfl, _⟩ := hY; rfl) ?_ ?_ (fun _ _ _ hJ => hJ.elim)
    · rintro lq rec B' i k K0 vs hi ⟨vx, rfl, ax⟩ hki
      dsimp only [List.cons_append, List.nil_append]
      subst hki
      refine XK.region rfl ?_
      refine XO.q (Q.assign rfl) ?_
      refine XO.done ?_
      refine XK.beginRound ?_
      refine XK.block ?_
      refine XK.drawn [1, 2, 3, 5] [b3, b4] [] (.q 1 (.q 2 (.q 3 (.br 0 true (.br 4 true (.q 5 (.br 6 false .done .stop)) .stop) (.br 4 true (.br 0 true (.q 5 (.br 6 false .done .stop)) .stop) .stop))))) Try.mixed rfl (by kernel_rfl) ?_
      refine XT.q rfl rfl (Q.ldA [_, _] rfl rfl rfl) ?_
      refine XT.q rfl rfl (Q.ld rfl rfl) ?_
      refine XT.q rfl rfl (Q.move rfl) ?_
      refine XT.qs rfl rfl (Q.ld rfl rfl) ⟨inferInstance, ?_⟩ ?_
      · skip
        refine XT.call rfl rfl Try.call58 rfl rfl rfl (lack_spec b vb vg hb hg l vl hl ((listsP b most).getD k default) vx K0 sk.ob sk.ol (lists_in sk.ob sk.m0 (k := k) (by omega)).1) (fun v26 s26 R26 => ?_) XT.stop
        obtain ⟨rfl, rfl⟩ := R26
        dsimp only [List.cons_append, List.nil_append]
        refine ⟨inferInstance, ?_⟩
        refine XT.q rfl rfl (Q.max rfl rfl) ?_
        refine XT.st rfl rfl rfl rfl rfl ⟨inferInstance, ?_⟩ XT.stop
        refine XT.done ?_
        refine XK.inBlock ?_
        exact XK.leave (j := none) [blk b9 [.int .i64 (max (leastTo b (powers l) (listsP b most) (k)) (lackP b (powers l) ((listsP b most).getD k default)))] 3] trivial ⟨(k + 1), rfl, rfl⟩
      · skip
        refine XT.call rfl rfl Try.call58 rfl rfl rfl (lack_spec b vb vg hb hg l vl hl ((listsP b most).getD k default) vx K0 sk.ob sk.ol (lists_in sk.ob sk.m0 (k := k) (by omega)).1) (fun v26 s26 R26 => ?_) XT.stop
        obtain ⟨rfl, rfl⟩ := R26
        dsimp only [List.cons_append, List.nil_append]
        refine ⟨inferInstance, ?_⟩
        refine XT.qs rfl rfl (Q.ld rfl rfl) ⟨inferInstance, ?_⟩ XT.stop
        refine XT.q rfl rfl (Q.max rfl rfl) ?_
        refine XT.st rfl rfl rfl rfl rfl ⟨inferInstance, ?_⟩ XT.stop
        refine XT.done ?_
        refine XK.inBlock ?_
        exact XK.leave (j := none) [blk b9 [.int .i64 (max (leastTo b (powers l) (listsP b most) (k)) (lackP b (powers l) ((listsP b most).getD k default)))] 3] trivial ⟨(k + 1), rfl, rfl⟩
    · rintro k K0 hki
      dsimp only [List.cons_append, List.nil_append]
      subst hki
      refine XK.inBlock ?_
      refine XK.seq ?_
      refine XK.region rfl ?_
      refine XO.q (Q.ld rfl rfl) ?_
      refine XO.q (Q.assign rfl) ?_
      refine XO.q (Q.assign rfl) ?_
      refine XO.done ?_
      refine XK.rt [] Try.func20 Try.results20 (.t rfl (.t rfl .n)) ?_
      have e0 := Decidable.of_not_not c0
      exact ⟨by rw [if_pos e0, e0]; rfl, rfl⟩
theorem Hold_spec (b : BBank) (vb vg : Value) (hb hg : PHeap) [ib : Arr vb encBat 4 hb b.bats] [ig : Arr vg encGen 5 hg b.gens] (power most : Int) (hm1 : most ≤ 9223372036854775807) : Spec Try.prog 22 #[.agg #[vb, vg], .int .i64 power, .int .i64 most] [] [hb, hg] (fun v hs => v = .tuple #[.int .i64 (holdP b power most).1, .int .i64 (holdP b power most).2] ∧ hs = []) := by
  refine Spec.intro (fn := Try.f22) (N := 46) Try.func22 rfl Try.ntmps22 rfl fun B => ?_
  refine XK.seq ?_
  refine XK.region rfl ?_
  refine XO.box rfl fun b3 => ?_
  refine XO.q (Q.assign rfl) ?_
  refine XO.q (Q.assign rfl) ?_
  refine XO.done ?_
  refine XK.seq ?_
  refine XK.seq ?_
  refine XK.region rfl ?_
  refine XO.q (Q.ldA [_, _] rfl rfl rfl) ?_
  refine XO.call Try.call38 rfl rfl rfl (Check_spec b vb vg hb hg) fun v14 s14 R14 => ?_
  obtain ⟨rfl, rfl⟩ := R14
  dsimp only [List.cons_append, List.nil_append]
  refine XO.q (Q.assign rfl) ?_
  refine XO.done ?_
  refine XK.seq ?_
  refine XK.region rfl ?_
  refine XO.q (Q.move rfl) ?_
  refine XO.q (Q.neq rfl rfl) ?_
  refine XO.done ?_
  refine XK.if rfl (fun c0 => ?_) (fun c0 => ?_)
  · have _t0 := True.intro
    refine XK.seq ?_
    refine XK.region rfl ?_
    refine XO.q (Q.move rfl) ?_
    refine XO.q (Q.assign rfl) ?_
    refine XO.q (Q.assign rfl) ?_
    refine XO.done ?_
    refine XK.rt [] Try.func22 Try.results22 (.t rfl (.t rfl .n)) ?_
    exact ⟨by rw [holdP, if_pos c0], rfl⟩
  · have _t0 := True.intro
    refine XK.skip ?_
    refine XK.seq ?_
    refine XK.seq ?_
    refine XK.region rfl ?_
    refine XO.q (Q.move rfl) ?_
    refine XO.lit [_] [_] [power] encI (by rfl) (by rfl) rfl (by rfl) (by exact .c 0 1 rfl rfl rfl (.n _)) (fun _ => rfl) (by rfl) rfl (by infer_instance) rfl fun v19 h19 O19 => ?_
    refine XO.call Try.call59 rfl rfl rfl (within_spec 1000000 v19 h19 [power]) fun v20 s20 R20 => ?_
    obtain ⟨rfl, rfl⟩ := R20
    dsimp only [List.cons_append, List.nil_append]
    refine XO.q (Q.not rfl) ?_
    refine XO.done ?_
    refine XK.if rfl (fun c1 => ?_) (fun c1 => ?_)
    · have _t1 := True.intro
      refine XK.seq ?_
      refine XK.region rfl ?_
      refine XO.q (Q.assign rfl) ?_
      refine XO.q (Q.assign rfl) ?_
      refine XO.done ?_
      refine XK.rt [] Try.func22 Try.results22 (.t rfl (.t rfl .n)) ?_
      exact ⟨by rw [holdP, if_neg c0, if_pos (by simpa using c1)], rfl⟩
    · have _t1 := True.intro
      refine XK.skip ?_
      refine XK.seq ?_
      refine XK.region rfl ?_
      refine XO.q (Q.move rfl) ?_
      refine XO.q (Q.build [_, _] (.c 0 1 rfl rfl rfl (.c 1 1 rfl rfl rfl (.n _)))) ?_
      refine XO.q (Q.move rfl) ?_
      refine XO.q (Q.build [_, _] (.c 0 1 rfl rfl rfl (.c 1 1 rfl rfl rfl (.n _)))) ?_
      refine XO.lit [_, _, _, _] [_, _, _, _] (holdLoad power) encSpan (by rfl) (by rfl) rfl (by rfl) (by exact .c 0 2 rfl rfl rfl (.c 2 2 rfl rfl rfl (.n _))) (fun _ => rfl) (by rfl) rfl (by infer_instance) rfl fun v26 h26 O26 => ?_
      refine XO.q (Q.assign rfl) ?_
      refine XO.done ?_
      refine XK.seq ?_
      refine XK.seq ?_
      refine XK.region rfl ?_
      refine XO.q (Q.ldA [_, _] rfl rfl rfl) ?_
      refine XO.q (Q.move rfl) ?_
      refine XO.q (Q.move rfl) ?_
      refine XO.call Try.call52 rfl rfl rfl (search_spec b vb vg hb hg (holdLoad power) v26 h26 most) fun v30 s30 R30 => ?_
      obtain ⟨rfl, rfl⟩ := R30
      dsimp only [List.cons_append, List.nil_append]
      refine XO.q (Q.assign rfl) ?_
      refine XO.done ?_
      refine XK.seq ?_
      refine XK.region rfl ?_
      refine XO.q (Q.move rfl) ?_
      refine XO.q (Q.neq rfl rfl) ?_
      refine XO.done ?_
      refine XK.if rfl (fun c2 => ?_) (fun c2 => ?_)
      · have _t2 := True.intro
        refine XK.seq ?_
        refine XK.region rfl ?_
        refine XO.q (Q.move rfl) ?_
        refine XO.q (Q.assign rfl) ?_
        refine XO.q (Q.assign rfl) ?_
        refine XO.done ?_
        refine XK.rt [] Try.func22 Try.results22 (.t rfl (.t rfl .n)) ?_
        exact ⟨by rw [holdP, if_neg c0, if_neg (by simpa using c1), if_pos c2], rfl⟩
      · have _t2 := True.intro
        refine XK.skip ?_
        refine XK.seq ?_
        refine XK.region rfl ?_
        refine XO.q (Q.ldA [_, _] rfl rfl rfl) ?_
        refine XO.q (Q.move rfl) ?_
        refine XO.q (Q.move rfl) ?_
        have sk := searchP_iff.1 (Decidable.of_not_not c2)
        refine XO.call Try.call53 rfl rfl rfl (worst_spec b vb vg hb hg (holdLoad power) v26 h26 sk.ob sk.ol most sk.m0 hm1) fun v38 s38 R38 => ?_
        obtain ⟨vw, ve, vn, K, ke, kn, rfl, rfl, ow, AW, OE, OB⟩ := R38
        dsimp only [List.cons_append, List.nil_append]
        refine XO.q (Q.move rfl) ?_
        refine XO.q (Q.extract rfl rfl) ?_
        refine XO.q (Q.extract rfl rfl) ?_
        refine XO.alloc fun b12 => ?_
        refine XO.q (Q.assign rfl) ?_
        refine XO.st rfl rfl rfl ?_
        refine XO.done ?_
        refine XK.seq ?_
        refine XK.seq ?_
        refine XK.region rfl ?_
        refine XO.q (Q.fieldAddr rfl) ?_
        refine XO.q (Q.ld rfl rfl) ?_
        refine XO.q (Q.lss rfl rfl) ?_
        refine XO.done ?_
        refine XK.if rfl (fun c3 => ?_) (fun c3 => ?_)
        · have _t3 := True.intro
          refine XK.seq ?_
          refine XK.region rfl ?_
          refine XO.q (Q.assign rfl) ?_
          refine XO.q (Q.assign rfl) ?_
          refine XO.done ?_
          refine XK.rt [] Try.func22 Try.results22 (.t rfl (.t rfl .n)) ?_
          exact ⟨by rw [holdP, if_neg c0, if_neg (by simpa using c1), if_neg c2, if_pos c3], rfl⟩
        · have _t3 := True.intro
          refine XK.skip ?_
          refine XK.seq ?_
          refine XK.region rfl ?_
          refine XO.q (Q.fieldAddr rfl) ?_
          refine XO.q (Q.ld rfl rfl) ?_
          refine XO.q (Q.assign rfl) ?_
          refine XO.q (Q.assign rfl) ?_
          refine XO.done ?_
          refine XK.rt [] Try.func22 Try.results22 (.t rfl (.t rfl .n)) ?_
          exact ⟨by rw [holdP, if_neg c0, if_neg (by simpa using c1), if_neg c2, if_neg c3], rfl⟩
theorem example06 : Spec Try.prog 47 #[] [] [] (fun v hs => ∃ vb vg vl kb kg kl, v = .tuple #[.agg #[vb, vg], vl] ∧ hs = [kb, kg, kl] ∧ OArr vb encBat 4 73 kb exB.bats ∧ OArr vg encGen 5 85 kg exB.gens ∧ OArr vl encSpan 2 38 kl exL) := by
  refine Spec.intro (fn := Try.f47) (N := 9) Try.func47 rfl Try.ntmps47 rfl fun B => ?_
  refine XK.seq ?_
  refine XK.region rfl ?_
  refine XO.alloc fun b0 => ?_
  refine XO.q (Q.assign rfl) ?_
  refine XO.done ?_
  refine XK.seq ?_
  refine XK.region rfl ?_
  refine XO.q (Q.build [_, _, _, _] (.c 0 1 rfl rfl rfl (.c 1 1 rfl rfl rfl (.c 2 1 rfl rfl rfl (.c 3 1 rfl rfl rfl (.n _)))))) ?_
  refine XO.lit [_, _, _, _] [_, _, _, _] [⟨1000, 1000, 100, 10⟩] encBat (by rfl) (by rfl) rfl (by rfl) (by exact .c 0 4 rfl rfl rfl (.n _)) (fun _ => rfl) (by rfl) rfl (by infer_instance) rfl fun v3 h3 O3 => ?_
  refine XO.q (Q.build [_, _, _, _, _] (.c 0 1 rfl rfl rfl (.c 1 1 rfl rfl rfl (.c 2 1 rfl rfl rfl (.c 3 1 rfl rfl rfl (.c 4 1 rfl rfl rfl (.n _))))))) ?_
  refine XO.lit [_, _, _, _, _] [_, _, _, _, _] [⟨100, 20, 5, 2, 2⟩] encGen (by rfl) (by rfl) rfl (by rfl) (by exact .c 0 5 rfl rfl rfl (.n _)) (fun _ => rfl) (by rfl) rfl (by infer_instance) rfl fun v5 h5 O5 => ?_
  refine XO.q (Q.build [_, _] (.c 0 1 rfl rfl rfl (.c 1 1 rfl rfl rfl (.n _)))) ?_
  refine XO.q (Q.build [_, _] (.c 0 1 rfl rfl rfl (.c 1 1 rfl rfl rfl (.n _)))) ?_
  refine XO.lit [_, _] [_, _] [⟨60, 100⟩] encSpan (by rfl) (by rfl) rfl (by rfl) (by exact .c 0 2 rfl rfl rfl (.n _)) (fun _ => rfl) (by rfl) rfl (by infer_instance) rfl fun v8 h8 O8 => ?_
  refine XO.st rfl rfl rfl ?_
  refine XO.q (Q.assign rfl) ?_
  refine XO.done ?_
  refine XK.rt [h3, h5, h8] Try.func47 Try.results47 (.cell [_, _] rfl rfl rfl (.t rfl .n)) ?_
  exact ⟨v3, v5, v8, h3, h5, h8, rfl, rfl, O3, O5, O8⟩
theorem awake06 : Spec Try.prog 14 #[] [] [] (fun v hs => v = .bool true ∧ hs = []) := by
  refine Spec.intro (fn := Try.f14) (N := 84) Try.func14 rfl Try.ntmps14 rfl fun B => ?_
  refine XK.seq ?_
  refine XK.region rfl ?_
  refine XO.q (Q.assign rfl) ?_
  refine XO.done ?_
  refine XK.seq ?_
  refine XK.region rfl ?_
  refine XO.call Try.call47 rfl rfl rfl (example06) fun v13 s13 R13 => ?_
  obtain ⟨vb, vg, vl, kb, kg, kl, rfl, rfl, Ob, Og, Ol⟩ := R13
  dsimp only [List.cons_append, List.nil_append]
  refine XO.q (Q.move rfl) ?_
  refine XO.q (Q.extract rfl rfl) ?_
  refine XO.q (Q.extract rfl rfl) ?_
  refine XO.alloc fun b1 => ?_
  refine XO.st rfl rfl rfl ?_
  refine XO.q (Q.assign rfl) ?_
  refine XO.done ?_
  refine XK.seq ?_
  refine XK.region rfl ?_
  refine XO.q (Q.ldA [_, _] rfl rfl rfl) ?_
  refine XO.q (Q.move rfl) ?_
  refine XO.lit [_] [_] [0] encI (by rfl) (by rfl) rfl (by rfl) (by exact .c 0 1 rfl rfl rfl (.n _)) (fun _ => rfl) (by rfl) rfl (by infer_instance) rfl fun v19 h19 O19 => ?_
  refine XO.call Try.call30 rfl rfl rfl (Run_spec exB vb vg kb kg exL vl kl [0] v19 h19) fun v20 s20 R20 => ?_
  obtain ⟨ve, vn, ke, kn, rfl, rfl, OE, OB⟩ := R20
  dsimp only [List.cons_append, List.nil_append]
  rw [if_pos ex_ready] at OE
  rw [ex_ready, if_pos rfl]
  rw [ex_energy] at OE
  dsimp only [resV]
  rw [show (runP exB (powers exL) [0]).dark = -1 from ex_dark]
  refine XO.q (Q.move rfl) ?_
  refine XO.q (Q.extract rfl rfl) ?_
  refine XO.q (Q.extract rfl rfl) ?_
  refine XO.alloc fun b3 => ?_
  refine XO.st rfl rfl rfl ?_
  refine XO.q (Q.assign rfl) ?_
  refine XO.done ?_
  refine XK.seq ?_
  refine XK.region rfl ?_
  refine XO.q (Q.ldA [_, _] rfl rfl rfl) ?_
  refine XO.q (Q.move rfl) ?_
  refine XO.call Try.call17 rfl rfl rfl (Worst_spec exB vb vg kb kg exL vl kl 1 (by decide)) fun v26 s26 R26 => ?_
  obtain ⟨vw, ve2, vn2, K, ke2, kn2, rfl, rfl, ow, AW, OE2, OB2⟩ := R26
  dsimp only [List.cons_append, List.nil_append]
  rw [if_pos ex_search] at AW
  rw [ex_search, if_pos rfl]
  rw [ex_worst.1] at AW
  dsimp only [resV]
  rw [ex_worst.2]
  refine XO.q (Q.move rfl) ?_
  refine XO.q (Q.extract rfl rfl) ?_
  refine XO.q (Q.extract rfl rfl) ?_
  refine XO.q (Q.extract rfl rfl) ?_
  refine XO.alloc fun b6 => ?_
  refine XO.q (Q.assign rfl) ?_
  refine XO.st rfl rfl rfl ?_
  refine XO.q (Q.assign rfl) ?_
  refine XO.done ?_
  refine XK.seq ?_
  refine XK.region rfl ?_
  refine XO.q (Q.ldA [_, _] rfl rfl rfl) ?_
  refine XO.call Try.call22 rfl rfl rfl (Hold_spec exB vb vg kb kg 100 1 (by decide)) fun v32 s32 R32 => ?_
  obtain ⟨rfl, rfl⟩ := R32
  dsimp only [List.cons_append, List.nil_append]
  rw [ex_hold]
  dsimp only
  refine XO.q (Q.move rfl) ?_
  refine XO.q (Q.extract rfl rfl) ?_
  refine XO.q (Q.extract rfl rfl) ?_
  refine XO.q (Q.assign rfl) ?_
  refine XO.q (Q.assign rfl) ?_
  refine XO.done ?_
  refine XK.seq ?_
  refine XK.region rfl ?_
  refine XO.q (Q.ldA [_, _] rfl rfl rfl) ?_
  refine XO.q (Q.move rfl) ?_
  refine XO.call Try.call20 rfl rfl rfl (Least_spec exB vb vg kb kg exL vl kl 1 (by decide)) fun v38 s38 R38 => ?_
  obtain ⟨rfl, rfl⟩ := R38
  dsimp only [List.cons_append, List.nil_append]
  rw [ex_search, if_pos rfl, ex_least]
  refine XO.q (Q.move rfl) ?_
  refine XO.q (Q.extract rfl rfl) ?_
  refine XO.q (Q.extract rfl rfl) ?_
  refine XO.q (Q.assign rfl) ?_
  refine XO.q (Q.assign rfl) ?_
  refine XO.done ?_
  refine XK.seq ?_
  refine XK.region rfl ?_
  refine XO.q (Q.move rfl) ?_
  refine XO.q (Q.eql rfl rfl) ?_
  refine XO.q (Q.move rfl) ?_
  refine XO.q (Quiet.guardT rfl rfl fun g44 p44 => Q.move rfl) ?_
  refine XO.q (Quiet.guardT rfl rfl fun g45 p45 => Q.eql (lzv rfl rfl) rfl) ?_
  refine XO.q (Q.and rfl (fun hp => lzv hp rfl)) ?_
  refine XO.q (Q.move rfl) ?_
  refine XO.q (Quiet.guardT rfl rfl fun g48 p48 => Q.move rfl) ?_
  refine XO.q (Quiet.guardT rfl rfl fun g49 p49 => Q.eql (lzv rfl rfl) rfl) ?_
  refine XO.q (Q.and rfl (fun hp => lzv hp rfl)) ?_
  refine XO.q (Q.move rfl) ?_
  refine XO.q (Quiet.guardT rfl rfl fun g52 p52 => Q.move rfl) ?_
  refine XO.q (Quiet.guardT rfl rfl fun g53 p53 => Q.eql (lzv rfl rfl) rfl) ?_
  refine XO.q (Q.and rfl (fun hp => lzv hp rfl)) ?_
  refine XO.q (Q.move rfl) ?_
  refine XO.q (Quiet.guardT rfl rfl fun g56 p56 => Q.fieldAddr rfl) ?_
  refine XO.q (Quiet.guardT rfl rfl fun g57 p57 => Q.ld (lzv rfl rfl) rfl) ?_
  refine XO.q (Quiet.guardT rfl rfl fun g58 p58 => Q.eql (lzv rfl rfl) rfl) ?_
  refine XO.q (Q.and rfl (fun hp => lzv hp rfl)) ?_
  refine XO.q (Q.move rfl) ?_
  refine XO.q (Quiet.guardT rfl rfl fun g61 p61 => Q.fieldAddr rfl) ?_
  refine XO.q (Quiet.guardT rfl rfl fun g62 p62 => Q.ld (lzv rfl rfl) rfl) ?_
  refine XO.litG [_] [_] [300] encI rfl rfl rfl (by rfl) (by rfl) rfl (by rfl) (by exact .c 0 1 rfl rfl rfl (.n _)) (fun _ => rfl) (by rfl) rfl (by infer_instance) rfl fun v63 h63 O63 => ?_
  refine XO.callS rfl rfl rfl Try.call24 rfl (.c (lzv rfl rfl) (.c rfl .n)) rfl (equalI ve v63 ke h63 [300] [300]) fun v64 s64 R64 => ?_
  obtain ⟨rfl, rfl⟩ := R64
  dsimp only [List.cons_append, List.nil_append]
  refine XO.q (Q.and rfl (fun _ => rfl)) ?_
  refine XO.q (Q.move rfl) ?_
  refine XO.q (Quiet.guardT rfl rfl fun g67 p67 => Q.move rfl) ?_
  refine XO.litG [_] [_] [1] encI rfl rfl rfl (by rfl) (by rfl) rfl (by rfl) (by exact .c 0 1 rfl rfl rfl (.n _)) (fun _ => rfl) (by rfl) rfl (by infer_instance) rfl fun v68 h68 O68 => ?_
  refine XO.callS rfl rfl rfl Try.call24 rfl (.c (lzv rfl rfl) (.c rfl .n)) rfl (equalI vw v68 K h68 [1] [1]) fun v69 s69 R69 => ?_
  obtain ⟨rfl, rfl⟩ := R69
  dsimp only [List.cons_append, List.nil_append]
  refine XO.q (Q.and rfl (fun _ => rfl)) ?_
  refine XO.q (Q.move rfl) ?_
  refine XO.q (Quiet.guardT rfl rfl fun g72 p72 => Q.fieldAddr rfl) ?_
  refine XO.q (Quiet.guardT rfl rfl fun g73 p73 => Q.ld (lzv rfl rfl) rfl) ?_
  refine XO.q (Quiet.guardT rfl rfl fun g74 p74 => Q.eql (lzv rfl rfl) rfl) ?_
  refine XO.q (Q.and rfl (fun hp => lzv hp rfl)) ?_
  refine XO.q (Q.move rfl) ?_
  refine XO.q (Quiet.guardT rfl rfl fun g77 p77 => Q.move rfl) ?_
  refine XO.q (Quiet.guardT rfl rfl fun g78 p78 => Q.eql (lzv rfl rfl) rfl) ?_
  refine XO.q (Q.and rfl (fun hp => lzv hp rfl)) ?_
  refine XO.q (Q.move rfl) ?_
  refine XO.q (Quiet.guardT rfl rfl fun g81 p81 => Q.move rfl) ?_
  refine XO.q (Quiet.guardT rfl rfl fun g82 p82 => Q.eql (lzv rfl rfl) rfl) ?_
  refine XO.q (Q.and rfl (fun hp => lzv hp rfl)) ?_
  refine XO.q (Q.assign rfl) ?_
  refine XO.done ?_
  refine XK.rt [] Try.func14 Try.results14 (.t rfl .n) ?_
  exact ⟨rfl, rfl⟩
end Go.X

set_option linter.unusedSimpArgs false
set_option linter.unusedVariables false
set_option maxRecDepth 20000
namespace Go.X
open Go.Proofs
theorem made06 (vx : Value) (hx : PHeap) (x : List UInt8) [jx : Arr vx encU8 1 hx x] : Spec Try.prog 28 #[vx] [] [hx] (fun v hs => ∃ vb vg kb kg, v = .agg #[vb, vg] ∧ hs = [kb, kg] ∧ OArr vb encBat 4 73 kb (madeP x).bats ∧ OArr vg encGen 5 85 kg (madeP x).gens) := by
  have hb := fun i => byt_ok x i
  unfold byt at hb
  have nB : OArr (.slice none 0 0) encBat 4 73 emp ([] : List BBat) := OArr.nil (fun _ => rfl)
  have nG : OArr (.slice none 0 0) encGen 5 85 emp ([] : List BGen) := OArr.nil (fun _ => rfl)
  refine Spec.intro (fn := Try.f28) (N := 97) Try.func28 rfl Try.ntmps28 rfl fun B => ?_
  refine XK.seq ?_
  refine XK.region rfl ?_
  refine XO.alloc fun b2 => ?_
  refine XO.done ?_
  refine XK.seq ?_
  refine XK.region rfl ?_
  refine XO.alloc fun b3 => ?_
  refine XO.done ?_
  refine XK.seq ?_
  refine XK.seq ?_
  refine XK.region rfl ?_
  refine XO.q (Q.assign rfl) ?_
  refine XO.done ?_
  refine XK.block ?_
  refine XK.while (X := Nat × Value × Value × PHeap × PHeap) [4, 5, 6, 7, 8, 9, 10, 11, 12, 13, 14, 15, 16, 17, 18, 19, 20, 21, 22, 23, 24, 25, 26, 27, 28, 29, 30, 31, 32, 33, 34, 35, 36, 37, 38, 39, 40, 41, 42, 43, 44, 45, 46, 47, 48, 49, 50, 51, 52, 53, 54, 55, 56, 57, 58, 59, 60, 61, 62, 63, 64, 65, 66, 67, 68, 69, 70, 71, 72, 73, 74, 75, 76, 77, 78, 79, 80, 81, 82, 83, 84, 85, 86, 87, 88, 89, 90, 91, 92, 93, 94, 95] (fun ⟨k, vb, vg, kb, kg⟩ => [(4, some (.int .i64 ((5 * k : Nat) : Int)))]) (fun ⟨k, vb, vg, kb, kg⟩ => [blk b3 [vb, vg] 25, kb, kg]) (fun ⟨k, vb, vg, kb, kg⟩ => 5 * k ≤ x.length ∧ k ≤ 7 ∧ OArr vb encBat 4 73 kb (madeTo x k).bats ∧ OArr vg encGen 5 85 kg (madeTo x k).gens) (fun ⟨k, vb, vg, kb, kg⟩ => 7 - k) (0, .slice none 0 0, .slice none 0 0, emp, emp) [blk b3 [.slice none 0 0, .slice none 0 0] 25, emp, emp] rfl ⟨by omega, by omega, nB, nG⟩ (.c rfl (.base 0 rfl rfl)) ?_
  rintro ⟨k, vb, vg, kb, kg⟩ ⟨hk, hk7, OB, OG⟩ ih0
  dsimp only [List.cons_append, List.nil_append] at ih0 ⊢
  refine XK.seq ?_
  refine XK.seq ?_
  refine XK.region rfl ?_
  refine XO.q (Q.move rfl) ?_
  refine XO.q (Q.add rfl rfl ⟨by omega, by omega⟩) ?_
  refine XO.q (Q.move rfl) ?_
  refine XO.len rfl fun l9 => ?_
  refine XO.q (Q.lss rfl rfl) ?_
  refine XO.q (Q.move rfl) ?_
  refine XO.q (Quiet.guardT rfl rfl fun g12 p12 => Q.move rfl) ?_
  refine XO.q (Quiet.guardT rfl rfl fun g13 p13 => Q.lss (lzv g13 rfl) rfl) ?_
  refine XO.q (Q.and rfl (fun hp => lzv hp rfl)) ?_
  refine XO.done ?_
  refine XK.if rfl (fun c0 => ?_) (fun c0 => ?_)
  · have _t0 := True.intro
    have hb0 := hb (5 * k)
    have hb1 := hb (5 * k + 1)
    have hb2 := hb (5 * k + 2)
    have hb3 := hb (5 * k + 3)
    have hb4 := hb (5 * k + 4)
    obtain ⟨_, _, lb, lg⟩ := madeTo_ok x k
    refine XK.skip ?_
    refine XK.seq ?_
    refine XK.block ?_
    refine XK.seq ?_
    refine XK.region rfl ?_
    refine XO.q (Q.move rfl) ?_
    refine XO.q (Q.rem rfl rfl (by omega) (by omega)) ?_
    refine XO.q (Q.eql rfl rfl) ?_
    refine XO.done ?_
    refine XK.if rfl (fun c1 => ?_) (fun c1 => ?_)
    · have _t1 := True.intro
      have e5 : madeTo x (k + 1) = ⟨(madeTo x k).bats ++ [batAt x (5 * k)], (madeTo x k).gens⟩ := by rw [madeTo, if_pos (by omega)]
      refine XK.seq ?_
      refine XK.region rfl ?_
      refine XO.q (Q.move rfl) ?_
      refine XO.q (Q.move rfl) ?_
      refine XO.ix rfl rfl (by omega) (by omega) fun i22 => ?_
      refine XO.q (Q.ldE rfl (by first | assumption | omega) rfl) ?_
      refine XO.q (Q.conv rfl) ?_
      rw [wrap64_of ⟨by omega, by omega⟩]
      refine XO.q (Q.mul rfl rfl ⟨by omega, by omega⟩) ?_
      refine XO.q (Q.assign rfl) ?_
      refine XO.done ?_
      refine XK.drawn [0, 2, 3, 4, 5, 6, 7, 8, 9, 10, 11, 12, 13, 14, 15, 16, 17, 18, 19, 20, 21, 22, 23, 24, 25, 28] [] [] (.q 0 (.q 2 (.q 3 (.q 4 (.q 5 (.q 6 (.q 7 (.q 8 (.q 9 (.q 10 (.q 11 (.q 12 (.q 13 (.q 14 (.q 15 (.q 16 (.q 17 (.q 18 (.q 19 (.q 20 (.q 21 (.q 22 (.q 23 (.q 24 (.q 25 (.br 1 true (.br 26 true (.br 27 true (.q 28 (.br 29 false .done .stop)) .stop) .stop) (.br 26 true (.br 1 true (.br 27 true (.q 28 (.br 29 false .done .stop)) .stop) .stop) .stop))))))))))))))))))))))))))) Try.mixed rfl (by kernel_rfl) ?_
      refine XT.q rfl rfl (Q.fieldAddr rfl) ?_
      refine XT.q rfl rfl (Q.move rfl) ?_
      refine XT.q rfl rfl (Q.move rfl) ?_
      refine XT.q rfl rfl (Q.move rfl) ?_
      refine XT.q rfl rfl (Q.add rfl rfl ⟨by omega, by omega⟩) ?_
      rw [show (((5 * k : Nat) : Int) + 1) = ((5 * k + 1 : Nat) : Int) from rfl]
      refine XT.ix rfl rfl rfl rfl (by omega) (by omega) fun i32 => ?_
      refine XT.q rfl rfl (Q.ldE rfl (by first | assumption | omega) rfl) ?_
      refine XT.q rfl rfl (Q.conv rfl) ?_
      rw [wrap64_of ⟨by omega, by omega⟩]
      have mq := mulLe (a := 40 * (((x.getD (5 * k) default).toNat : Nat) : Int)) (b := (((x.getD (5 * k + 1) default).toNat : Nat) : Int)) (m := 10200) (n := 255) (by omega) (by omega) (by omega) (by omega)
      refine XT.q rfl rfl (Q.mul rfl rfl ⟨by omega, by omega⟩) ?_
      refine XT.q rfl rfl (Q.quo rfl rfl (by omega) (by omega) (by omega)) ?_
      refine XT.q rfl rfl (Q.move rfl) ?_
      refine XT.q rfl rfl (Q.move rfl) ?_
      refine XT.q rfl rfl (Q.move rfl) ?_
      refine XT.q rfl rfl (Q.add rfl rfl ⟨by omega, by omega⟩) ?_
      rw [show (((5 * k : Nat) : Int) + 2) = ((5 * k + 2 : Nat) : Int) from rfl]
      refine XT.ix rfl rfl rfl rfl (by omega) (by omega) fun i41 => ?_
      refine XT.q rfl rfl (Q.ldE rfl (by first | assumption | omega) rfl) ?_
      refine XT.q rfl rfl (Q.conv rfl) ?_
      rw [wrap64_of ⟨by omega, by omega⟩]
      refine XT.q rfl rfl (Q.move rfl) ?_
      refine XT.q rfl rfl (Q.move rfl) ?_
      refine XT.q rfl rfl (Q.add rfl rfl ⟨by omega, by omega⟩) ?_
      rw [show (((5 * k : Nat) : Int) + 3) = ((5 * k + 3 : Nat) : Int) from rfl]
      refine XT.ix rfl rfl rfl rfl (by omega) (by omega) fun i47 => ?_
      refine XT.q rfl rfl (Q.ldE rfl (by first | assumption | omega) rfl) ?_
      refine XT.q rfl rfl (Q.rem rfl rfl (by omega) (by omega)) ?_
      refine XT.q rfl rfl (Q.conv rfl) ?_
      rw [wrap64_of ⟨by omega, by omega⟩]
      refine XT.q rfl rfl (Q.build [_, _, _, _] (.c 0 1 rfl rfl rfl (.c 1 1 rfl rfl rfl (.c 2 1 rfl rfl rfl (.c 3 1 rfl rfl rfl (.n _)))))) ?_
      refine XT.qs rfl rfl (Q.ld rfl rfl) ⟨inferInstance, ?_⟩ ?_
      · skip
        refine XT.lit [_, _, _, _] [_, _, _, _] [batAt x (5 * k)] encBat rfl rfl (by rfl) (by rfl) rfl (by rfl) (by exact .c 0 4 rfl rfl rfl (.n _)) (fun _ => rfl) (by rfl) rfl (by infer_instance) rfl (fun v52 h52 O52 => ⟨inferInstance, ?_⟩) XT.stop
        refine XT.append rfl rfl rfl rfl rfl rfl (by first | omega | (simp; omega)) (fun v53 h53 O53 => ⟨inferInstance, ?_⟩) XT.stop
        refine XT.q rfl rfl (Q.fieldAddr rfl) ?_
        refine XT.st rfl rfl rfl rfl rfl ⟨inferInstance, ?_⟩ XT.stop
        refine XT.done ?_
        refine XK.inBlock ?_
        refine XK.region rfl ?_
        refine XO.q (Q.move rfl) ?_
        refine XO.q (Q.add rfl rfl ⟨by omega, by omega⟩) ?_
        refine XO.q (Q.assign rfl) ?_
        refine XO.done ?_
        rw [show ((5 * k : Nat) : Int) + 5 = ((5 * (k + 1) : Nat) : Int) by omega]
        exact ih0 (k + 1, v53, vg, h53, kg) _ _ ⟨by dsimp only; omega, by dsimp only; omega, by dsimp only; rw [e5]; exact O53, by dsimp only; rw [e5]; exact OG⟩ (by first | omega | (dsimp only; omega)) (.c rfl (.base 144 rfl rfl)) inferInstance
      · skip
        refine XT.lit [_, _, _, _] [_, _, _, _] [batAt x (5 * k)] encBat rfl rfl (by rfl) (by rfl) rfl (by rfl) (by exact .c 0 4 rfl rfl rfl (.n _)) (fun _ => rfl) (by rfl) rfl (by infer_instance) rfl (fun v52 h52 O52 => ⟨inferInstance, ?_⟩) XT.stop
        refine XT.qs rfl rfl (Q.ld rfl rfl) ⟨inferInstance, ?_⟩ XT.stop
        refine XT.append rfl rfl rfl rfl rfl rfl (by first | omega | (simp; omega)) (fun v53 h53 O53 => ⟨inferInstance, ?_⟩) XT.stop
        refine XT.q rfl rfl (Q.fieldAddr rfl) ?_
        refine XT.st rfl rfl rfl rfl rfl ⟨inferInstance, ?_⟩ XT.stop
        refine XT.done ?_
        refine XK.inBlock ?_
        refine XK.region rfl ?_
        refine XO.q (Q.move rfl) ?_
        refine XO.q (Q.add rfl rfl ⟨by omega, by omega⟩) ?_
        refine XO.q (Q.assign rfl) ?_
        refine XO.done ?_
        rw [show ((5 * k : Nat) : Int) + 5 = ((5 * (k + 1) : Nat) : Int) by omega]
        exact ih0 (k + 1, v53, vg, h53, kg) _ _ ⟨by dsimp only; omega, by dsimp only; omega, by dsimp only; rw [e5]; exact O53, by dsimp only; rw [e5]; exact OG⟩ (by first | omega | (dsimp only; omega)) (.c rfl (.base 144 rfl rfl)) inferInstance
    · have _t1 := True.intro
      have e5 : madeTo x (k + 1) = ⟨(madeTo x k).bats, (madeTo x k).gens ++ [genAt x (5 * k)]⟩ := by rw [madeTo, if_neg (by omega)]
      refine XK.drawn [0, 2, 3, 4, 5, 6, 7, 8, 9, 10, 11, 12, 13, 14, 15, 16, 17, 18, 19, 20, 21, 22, 23, 24, 25, 26, 27, 28, 29, 30, 31, 32, 33, 34, 35, 36, 37, 40] [] [] (.q 0 (.q 2 (.q 3 (.q 4 (.q 5 (.q 6 (.q 7 (.q 8 (.q 9 (.q 10 (.q 11 (.q 12 (.q 13 (.q 14 (.q 15 (.q 16 (.q 17 (.q 18 (.q 19 (.q 20 (.q 21 (.q 22 (.q 23 (.q 24 (.q 25 (.q 26 (.q 27 (.q 28 (.q 29 (.q 30 (.q 31 (.q 32 (.q 33 (.q 34 (.q 35 (.q 36 (.q 37 (.br 1 true (.br 38 true (.br 39 true (.q 40 (.br 41 false .done .stop)) .stop) .stop) (.br 38 true (.br 1 true (.br 39 true (.q 40 (.br 41 false .done .stop)) .stop) .stop) .stop))))))))))))))))))))))))))))))))))))))) Try.mixed rfl (by kernel_rfl) ?_
      refine XT.q rfl rfl (Q.fieldAddr rfl) ?_
      refine XT.q rfl rfl (Q.move rfl) ?_
      refine XT.q rfl rfl (Q.move rfl) ?_
      refine XT.ix rfl rfl rfl rfl (by omega) (by omega) fun i59 => ?_
      refine XT.q rfl rfl (Q.ldE rfl (by first | assumption | omega) rfl) ?_
      refine XT.q rfl rfl (Q.conv rfl) ?_
      rw [wrap64_of ⟨by omega, by omega⟩]
      refine XT.q rfl rfl (Q.move rfl) ?_
      refine XT.q rfl rfl (Q.move rfl) ?_
      refine XT.q rfl rfl (Q.add rfl rfl ⟨by omega, by omega⟩) ?_
      rw [show (((5 * k : Nat) : Int) + 1) = ((5 * k + 1 : Nat) : Int) from rfl]
      refine XT.ix rfl rfl rfl rfl (by omega) (by omega) fun i65 => ?_
      refine XT.q rfl rfl (Q.ldE rfl (by first | assumption | omega) rfl) ?_
      refine XT.q rfl rfl (Q.rem rfl rfl (by omega) (by omega)) ?_
      refine XT.q rfl rfl (Q.conv rfl) ?_
      rw [wrap64_of ⟨by omega, by omega⟩]
      refine XT.q rfl rfl (Q.add rfl rfl ⟨by omega, by omega⟩) ?_
      refine XT.q rfl rfl (Q.move rfl) ?_
      refine XT.q rfl rfl (Q.move rfl) ?_
      refine XT.q rfl rfl (Q.add rfl rfl ⟨by omega, by omega⟩) ?_
      rw [show (((5 * k : Nat) : Int) + 2) = ((5 * k + 2 : Nat) : Int) from rfl]
      refine XT.ix rfl rfl rfl rfl (by omega) (by omega) fun i73 => ?_
      refine XT.q rfl rfl (Q.ldE rfl (by first | assumption | omega) rfl) ?_
      refine XT.q rfl rfl (Q.rem rfl rfl (by omega) (by omega)) ?_
      refine XT.q rfl rfl (Q.conv rfl) ?_
      rw [wrap64_of ⟨by omega, by omega⟩]
      refine XT.q rfl rfl (Q.move rfl) ?_
      refine XT.q rfl rfl (Q.move rfl) ?_
      refine XT.q rfl rfl (Q.add rfl rfl ⟨by omega, by omega⟩) ?_
      rw [show (((5 * k : Nat) : Int) + 3) = ((5 * k + 3 : Nat) : Int) from rfl]
      refine XT.ix rfl rfl rfl rfl (by omega) (by omega) fun i80 => ?_
      refine XT.q rfl rfl (Q.ldE rfl (by first | assumption | omega) rfl) ?_
      refine XT.q rfl rfl (Q.rem rfl rfl (by omega) (by omega)) ?_
      refine XT.q rfl rfl (Q.conv rfl) ?_
      rw [wrap64_of ⟨by omega, by omega⟩]
      refine XT.q rfl rfl (Q.move rfl) ?_
      refine XT.q rfl rfl (Q.move rfl) ?_
      refine XT.q rfl rfl (Q.add rfl rfl ⟨by omega, by omega⟩) ?_
      rw [show (((5 * k : Nat) : Int) + 4) = ((5 * k + 4 : Nat) : Int) from rfl]
      refine XT.ix rfl rfl rfl rfl (by omega) (by omega) fun i87 => ?_
      refine XT.q rfl rfl (Q.ldE rfl (by first | assumption | omega) rfl) ?_
      refine XT.q rfl rfl (Q.rem rfl rfl (by omega) (by omega)) ?_
      refine XT.q rfl rfl (Q.conv rfl) ?_
      rw [wrap64_of ⟨by omega, by omega⟩]
      refine XT.q rfl rfl (Q.add rfl rfl ⟨by omega, by omega⟩) ?_
      refine XT.q rfl rfl (Q.build [_, _, _, _, _] (.c 0 1 rfl rfl rfl (.c 1 1 rfl rfl rfl (.c 2 1 rfl rfl rfl (.c 3 1 rfl rfl rfl (.c 4 1 rfl rfl rfl (.n _))))))) ?_
      refine XT.qs rfl rfl (Q.ld rfl rfl) ⟨inferInstance, ?_⟩ ?_
      · skip
        refine XT.lit [_, _, _, _, _] [_, _, _, _, _] [genAt x (5 * k)] encGen rfl rfl (by rfl) (by rfl) rfl (by rfl) (by exact .c 0 5 rfl rfl rfl (.n _)) (fun _ => rfl) (by rfl) rfl (by infer_instance) rfl (fun v93 h93 O93 => ⟨inferInstance, ?_⟩) XT.stop
        refine XT.append rfl rfl rfl rfl rfl rfl (by first | omega | (simp; omega)) (fun v94 h94 O94 => ⟨inferInstance, ?_⟩) XT.stop
        refine XT.q rfl rfl (Q.fieldAddr rfl) ?_
        refine XT.st rfl rfl rfl rfl rfl ⟨inferInstance, ?_⟩ XT.stop
        refine XT.done ?_
        refine XK.inBlock ?_
        refine XK.region rfl ?_
        refine XO.q (Q.move rfl) ?_
        refine XO.q (Q.add rfl rfl ⟨by omega, by omega⟩) ?_
        refine XO.q (Q.assign rfl) ?_
        refine XO.done ?_
        rw [show ((5 * k : Nat) : Int) + 5 = ((5 * (k + 1) : Nat) : Int) by omega]
        exact ih0 (k + 1, vb, v94, kb, h94) _ _ ⟨by dsimp only; omega, by dsimp only; omega, by dsimp only; rw [e5]; exact OB, by dsimp only; rw [e5]; exact O94⟩ (by first | omega | (dsimp only; omega)) (.c rfl (.base 149 rfl rfl)) inferInstance
      · skip
        refine XT.lit [_, _, _, _, _] [_, _, _, _, _] [genAt x (5 * k)] encGen rfl rfl (by rfl) (by rfl) rfl (by rfl) (by exact .c 0 5 rfl rfl rfl (.n _)) (fun _ => rfl) (by rfl) rfl (by infer_instance) rfl (fun v93 h93 O93 => ⟨inferInstance, ?_⟩) XT.stop
        refine XT.qs rfl rfl (Q.ld rfl rfl) ⟨inferInstance, ?_⟩ XT.stop
        refine XT.append rfl rfl rfl rfl rfl rfl (by first | omega | (simp; omega)) (fun v94 h94 O94 => ⟨inferInstance, ?_⟩) XT.stop
        refine XT.q rfl rfl (Q.fieldAddr rfl) ?_
        refine XT.st rfl rfl rfl rfl rfl ⟨inferInstance, ?_⟩ XT.stop
        refine XT.done ?_
        refine XK.inBlock ?_
        refine XK.region rfl ?_
        refine XO.q (Q.move rfl) ?_
        refine XO.q (Q.add rfl rfl ⟨by omega, by omega⟩) ?_
        refine XO.q (Q.assign rfl) ?_
        refine XO.done ?_
        rw [show ((5 * k : Nat) : Int) + 5 = ((5 * (k + 1) : Nat) : Int) by omega]
        exact ih0 (k + 1, vb, v94, kb, h94) _ _ ⟨by dsimp only; omega, by dsimp only; omega, by dsimp only; rw [e5]; exact OB, by dsimp only; rw [e5]; exact O94⟩ (by first | omega | (dsimp only; omega)) (.c rfl (.base 149 rfl rfl)) inferInstance
  · have _t0 := True.intro
    have hkn : k = min 7 (x.length / 5) := by omega
    refine XK.exit rfl ?_
    refine XK.seq ?_
    refine XK.region rfl ?_
    refine XO.q (Q.ldA [_, _] rfl rfl rfl) ?_
    refine XO.st rfl rfl rfl ?_
    refine XO.done ?_
    refine XK.rt [kb, kg] Try.func28 Try.results28 (.cell [_, _] rfl rfl rfl (.n)) ?_
    subst hkn
    exact ⟨vb, vg, kb, kg, rfl, rfl, OB, OG⟩
theorem loaded06 (vx : Value) (hx : PHeap) (x : List UInt8) [jx : Arr vx encU8 1 hx x] : Spec Try.prog 31 #[vx] [] [hx] (fun v hs => ∃ kl, hs = [kl] ∧ OArr v encSpan 2 38 kl (loadP x)) := by
  have hb := fun i => byt_ok x i
  unfold byt at hb
  have nS : OArr (.slice none 0 0) encSpan 2 38 emp ([] : List BSpan) := OArr.nil (fun _ => rfl)
  refine Spec.intro (fn := Try.f31) (N := 34) Try.func31 rfl Try.ntmps31 rfl fun B => ?_
  refine XK.seq ?_
  refine XK.region rfl ?_
  refine XO.q (Q.assign rfl) ?_
  refine XO.done ?_
  refine XK.seq ?_
  refine XK.region rfl ?_
  refine XO.q (Q.assign rfl) ?_
  refine XO.done ?_
  refine XK.seq ?_
  refine XK.seq ?_
  refine XK.region rfl ?_
  refine XO.q (Q.assign rfl) ?_
  refine XO.done ?_
  refine XK.block ?_
  refine XK.while (X := Nat × Value × PHeap) [3, 4, 5, 6, 7, 8, 9, 10, 11, 12, 13, 14, 15, 16, 17, 18, 19, 20, 21, 22, 23, 24, 25, 26, 27, 28, 29, 30, 31, 32] (fun ⟨k, vl, kl⟩ => [(4, some (.int .i64 ((2 * k : Nat) : Int))), (3, some (vl))]) (fun ⟨k, vl, kl⟩ => [kl]) (fun ⟨k, vl, kl⟩ => 2 * k ≤ x.length ∧ k ≤ 8 ∧ OArr vl encSpan 2 38 kl (loadTo x k)) (fun ⟨k, vl, kl⟩ => 8 - k) (0, .slice none 0 0, emp) [emp] rfl ⟨by omega, by omega, nS⟩ (.c rfl (.c rfl (.base 0 rfl rfl))) ?_
  rintro ⟨k, vl, kl⟩ ⟨hk, hk8, OL⟩ ih0
  dsimp only [List.cons_append, List.nil_append] at ih0 ⊢
  refine XK.seq ?_
  refine XK.seq ?_
  refine XK.region rfl ?_
  refine XO.q (Q.move rfl) ?_
  refine XO.q (Q.add rfl rfl ⟨by omega, by omega⟩) ?_
  refine XO.q (Q.move rfl) ?_
  refine XO.len rfl fun l8 => ?_
  refine XO.q (Q.lss rfl rfl) ?_
  refine XO.q (Q.move rfl) ?_
  refine XO.q (Quiet.guardT rfl rfl fun g11 p11 => Q.move rfl) ?_
  refine XO.q (Quiet.guardT rfl rfl fun g12 p12 => Q.lss (lzv g12 rfl) rfl) ?_
  refine XO.q (Q.and rfl (fun hp => lzv hp rfl)) ?_
  refine XO.done ?_
  refine XK.if rfl (fun c0 => ?_) (fun c0 => ?_)
  · have _t0 := True.intro
    have hb0 := hb (2 * k)
    have hb1 := hb (2 * k + 1)
    have ll := (loadTo_ok x k).2
    refine XK.skip ?_
    refine XK.seq ?_
    refine XK.block ?_
    refine XK.drawn [0, 1, 2, 3, 4, 5, 6, 7, 8, 9, 10, 11, 12, 13, 14, 17] [] [] (.q 0 (.q 1 (.q 2 (.q 3 (.q 4 (.q 5 (.q 6 (.q 7 (.q 8 (.q 9 (.q 10 (.q 11 (.q 12 (.q 13 (.q 14 (.br 15 true (.br 16 true (.q 17 .done) .stop) .stop)))))))))))))))) Try.mixed rfl (by kernel_rfl) ?_
    refine XT.q rfl rfl (Q.move rfl) ?_
    refine XT.q rfl rfl (Q.move rfl) ?_
    refine XT.q rfl rfl (Q.move rfl) ?_
    refine XT.ix rfl rfl rfl rfl (by omega) (by omega) fun i19 => ?_
    refine XT.q rfl rfl (Q.ldE rfl (by first | assumption | omega) rfl) ?_
    refine XT.q rfl rfl (Q.rem rfl rfl (by omega) (by omega)) ?_
    refine XT.q rfl rfl (Q.conv rfl) ?_
    rw [wrap64_of ⟨by omega, by omega⟩]
    refine XT.q rfl rfl (Q.add rfl rfl ⟨by omega, by omega⟩) ?_
    refine XT.q rfl rfl (Q.move rfl) ?_
    refine XT.q rfl rfl (Q.move rfl) ?_
    refine XT.q rfl rfl (Q.add rfl rfl ⟨by omega, by omega⟩) ?_
    rw [show (((2 * k : Nat) : Int) + 1) = ((2 * k + 1 : Nat) : Int) from rfl]
    refine XT.ix rfl rfl rfl rfl (by omega) (by omega) fun i27 => ?_
    refine XT.q rfl rfl (Q.ldE rfl (by first | assumption | omega) rfl) ?_
    refine XT.q rfl rfl (Q.conv rfl) ?_
    rw [wrap64_of ⟨by omega, by omega⟩]
    refine XT.q rfl rfl (Q.build [_, _] (.c 0 1 rfl rfl rfl (.c 1 1 rfl rfl rfl (.n _)))) ?_
    refine XT.lit [_, _] [_, _] [spanAt x (2 * k)] encSpan rfl rfl (by rfl) (by rfl) rfl (by rfl) (by exact .c 0 2 rfl rfl rfl (.n _)) (fun _ => rfl) (by rfl) rfl (by infer_instance) rfl (fun v31 h31 O31 => ⟨inferInstance, ?_⟩) XT.stop
    refine XT.append rfl rfl rfl rfl rfl rfl (by first | omega | (simp; omega)) (fun v32 h32 O32 => ⟨inferInstance, ?_⟩) XT.stop
    refine XT.q rfl rfl (Q.assign rfl) ?_
    refine XT.done ?_
    refine XK.inBlock ?_
    refine XK.region rfl ?_
    refine XO.q (Q.move rfl) ?_
    refine XO.q (Q.add rfl rfl ⟨by omega, by omega⟩) ?_
    refine XO.q (Q.assign rfl) ?_
    refine XO.done ?_
    rw [show ((2 * k : Nat) : Int) + 2 = ((2 * (k + 1) : Nat) : Int) by omega]
    exact ih0 (k + 1, v32, h32) _ _ ⟨by dsimp only; omega, by dsimp only; omega, O32⟩ (by first | omega | (dsimp only; omega)) (.c rfl (.c rfl (.base 62 rfl rfl))) inferInstance
  · have _t0 := True.intro
    have hkn : k = min 8 (x.length / 2) := by omega
    refine XK.exit rfl ?_
    refine XK.seq ?_
    refine XK.region rfl ?_
    refine XO.q (Q.move rfl) ?_
    refine XO.q (Q.assign rfl) ?_
    refine XO.done ?_
    refine XK.rt [kl] Try.func31 Try.results31 (.t rfl .n) ?_
    subst hkn
    exact ⟨kl, rfl, OL⟩
theorem failed06 (b : BBank) (vb vg : Value) (hb hg : PHeap) [ib : Arr vb encBat 4 hb b.bats] [ig : Arr vg encGen 5 hg b.gens] (ok : BOk b) (vx : Value) (hx : PHeap) (x : List UInt8) [jx : Arr vx encU8 1 hx x] : Spec Try.prog 29 #[.agg #[vb, vg], vx] [] [hb, hg, hx] (fun v hs => ∃ kf, hs = [kf] ∧ OArr v encI 1 3 kf (failP b x)) := by
  have hby := fun i => byt_ok x i
  unfold byt at hby
  have n6 := ok.ng
  have lx := jx.le
  have nF : OArr (.slice none 0 0) encI 1 3 emp ([] : List Int) := OArr.nil (fun _ => rfl)
  refine Spec.intro (fn := Try.f29) (N := 36) Try.func29 rfl Try.ntmps29 rfl fun B => ?_
  refine XK.seq ?_
  refine XK.region rfl ?_
  refine XO.box rfl fun b2 => ?_
  refine XO.q (Q.assign rfl) ?_
  refine XO.done ?_
  refine XK.seq ?_
  refine XK.region rfl ?_
  refine XO.q (Q.assign rfl) ?_
  refine XO.done ?_
  refine XK.seq ?_
  refine XK.seq ?_
  refine XK.region rfl ?_
  refine XO.q (Q.fieldAddr rfl) ?_
  refine XO.q (Q.ld rfl rfl) ?_
  refine XO.len rfl fun l11 => ?_
  refine XO.q (Q.move rfl) ?_
  refine XO.done ?_
  refine XK.block ?_
  refine XK.while (X := Nat × Value × PHeap) [5, 6, 7, 8, 12, 13, 14, 15, 16, 17, 18, 19, 20, 21, 22, 23, 24, 25, 26, 27, 28, 29, 30, 31, 32, 33, 34] (fun ⟨i, vf, kf⟩ => [(12, some (.int .i64 (i : Nat))), (5, some (vf))]) (fun ⟨i, vf, kf⟩ => [kf]) (fun ⟨i, vf, kf⟩ => i ≤ b.gens.length ∧ OArr vf encI 1 3 kf (failTo b x i)) (fun ⟨i, vf, kf⟩ => b.gens.length - i) (0, .slice none 0 0, emp) [emp] rfl ⟨by omega, nF⟩ (.c rfl (.c rfl (.base 0 rfl rfl))) ?_
  rintro ⟨i, vf, kf⟩ ⟨hi, OF⟩ ih0
  dsimp only [List.cons_append, List.nil_append] at ih0 ⊢
  refine XK.seq ?_
  refine XK.region rfl ?_
  refine XO.q (Q.lss rfl rfl) ?_
  refine XO.done ?_
  refine XK.seq ?_
  refine XK.if rfl (fun c0 => ?_) (fun c0 => ?_)
  · have _t0 := True.intro
    have hb0 := hby i
    have fl := failTo_len b x i
    have gk := ok.gen _ (getD_memB (show i < b.gens.length by omega))
    have g0 := gk.t0
    have g1 := gk.t1
    refine XK.skip ?_
    refine XK.seq ?_
    refine XK.block ?_
    refine XK.seq ?_
    refine XK.region rfl ?_
    refine XO.q (Q.move rfl) ?_
    refine XO.ix rfl rfl (by omega) (by omega) fun i15 => ?_
    refine XO.q (Q.ldEA [_, _, _, _, _] rfl (by first | assumption | omega) rfl rfl) ?_
    refine XO.alloc fun b7 => ?_
    refine XO.q (Q.assign rfl) ?_
    refine XO.st rfl rfl rfl ?_
    refine XO.done ?_
    refine XK.seq ?_
    refine XK.region rfl ?_
    refine XO.q (Q.assign rfl) ?_
    refine XO.done ?_
    refine XK.seq ?_
    refine XK.seq ?_
    refine XK.region rfl ?_
    refine XO.q (Q.move rfl) ?_
    refine XO.q (Q.move rfl) ?_
    refine XO.len rfl fun l19 => ?_
    refine XO.q (Q.lss rfl rfl) ?_
    refine XO.done ?_
    refine XK.meet (X := Unit) [8, 21, 22, 23, 24, 25, 26, 27, 28, 29] (fun _u => [(8, some (.int .i64 (failAt b x i)))]) (fun _u => []) (fun _u => True) [] ?_ ?_
    · rintro _u _
      dsimp only [List.cons_append, List.nil_append]
      refine XK.region rfl ?_
      refine XO.q (Q.move rfl) ?_
      refine XO.q (Q.move rfl) ?_
      refine XO.lit [_] [_] [failAt b x i] encI (by rfl) (by rfl) rfl (by rfl) (by exact .c 0 1 rfl rfl rfl (.n _)) (fun _ => rfl) (by rfl) rfl (by infer_instance) rfl fun v32 h32 O32 => ?_
      refine XO.append rfl rfl rfl rfl (by first | omega | (simp; omega)) fun v33 h33 O33 => ?_
      refine XO.q (Q.assign rfl) ?_
      refine XO.done ?_
      refine XK.inBlock ?_
      refine XK.region rfl ?_
      refine XO.q (Q.add rfl rfl ⟨by omega, by omega⟩) ?_
      refine XO.q (Q.move rfl) ?_
      refine XO.done ?_
      exact ih0 (i + 1, v33, h33) _ _ ⟨by dsimp only; omega, O33⟩ (by first | omega | (dsimp only; omega)) (.c rfl (.c rfl (.base 58 rfl rfl))) inferInstance
    · intro mt1
      dsimp only [List.cons_append, List.nil_append] at mt1
      refine XK.if rfl (fun c1 => ?_) (fun c1 => ?_)
      · have _t1 := True.intro
        refine XK.drawn [0, 1, 2, 3, 4, 5, 6, 7, 8, 9] [b7] [] (.q 0 (.q 1 (.q 2 (.q 3 (.q 4 (.q 5 (.q 6 (.q 7 (.q 8 (.q 9 .done)))))))))) Try.mixed rfl (by kernel_rfl) ?_
        refine XT.q rfl rfl (Q.move rfl) ?_
        refine XT.q rfl rfl (Q.move rfl) ?_
        refine XT.ix rfl rfl rfl rfl (by omega) (by omega) fun i23 => ?_
        refine XT.q rfl rfl (Q.ldE rfl (by first | assumption | omega) rfl) ?_
        refine XT.q rfl rfl (Q.conv rfl) ?_
        rw [wrap64_of ⟨by omega, by omega⟩]
        refine XT.q rfl rfl (Q.fieldAddr rfl) ?_
        refine XT.q rfl rfl (Q.ld rfl rfl) ?_
        refine XT.q rfl rfl (Q.add rfl rfl ⟨by omega, by omega⟩) ?_
        refine XT.q rfl rfl (Q.rem rfl rfl (by omega) (by omega)) ?_
        rw [show (((x.getD i default).toNat : Nat) : Int) % ((b.gens.getD i default).tries + 1) = failAt b x i by rw [failAt, if_pos (by omega)]; rfl]
        refine XT.q rfl rfl (Q.assign rfl) ?_
        refine XT.done ?_
        exact mt1 (()) _ _ trivial (.c rfl (.base 10 rfl rfl)) inferInstance
      · have _t1 := True.intro
        refine XK.skip ?_
        rw [show failAt b x i = 0 by rw [failAt, if_neg (by omega)]] at mt1
        exact mt1 (()) _ _ trivial (.c rfl (.base 0 rfl rfl)) inferInstance
  · have _t0 := True.intro
    have hin : i = b.gens.length := by omega
    refine XK.exit rfl ?_
    refine XK.seq ?_
    refine XK.region rfl ?_
    refine XO.q (Q.move rfl) ?_
    refine XO.q (Q.assign rfl) ?_
    refine XO.done ?_
    refine XK.rt [kf] Try.func29 Try.results29 (.t rfl .n) ?_
    subst hin
    exact ⟨kf, rfl, OF⟩
end Go.X

set_option linter.unusedSimpArgs false
set_option linter.unusedVariables false
set_option maxRecDepth 20000
namespace Go.X
open Go.Proofs
set_option maxHeartbeats 2000000 in
theorem insert06 (v1 v2 : Value) (h h2 : PHeap) (xs : List BSpan) (y : BSpan) (i : Nat) [s : OArr v1 encSpan 2 38 h xs] [s2 : OArr v2 encSpan 2 38 h2 [y]] (hi : i < xs.length) (hl : xs.length ≤ 1000) : Spec Try.prog 50 #[v1, .int .i64 (i : Nat), v2] [h] [h2] (fun v hs => ∃ k, hs = [k] ∧ OArr v encSpan 2 38 k (xs.take i ++ [y] ++ xs.drop i)) := by
  have l1 : (xs.take i).length = i := by rw [List.length_take]; omega
  have l2 : (xs.drop i).length = xs.length - i := List.length_drop ..
  obtain ⟨_, _, ⟨_, h0, _⟩ | ⟨b, c, cs, rfl, rfl, hle, hlen, _⟩⟩ := s.pf
  · rw [h0] at hi; exact absurd hi (Nat.not_lt_zero i)
  obtain ⟨_, _, ⟨_, h0, _⟩ | ⟨b2, c2, cs2, rfl, rfl, hle2, hlen2, _⟩⟩ := s2.pf
  · cases h0
  have A34 : Arr (rawv b 2 0 i c) encSpan 2 (blk b cs 38) (xs.take i) := by
    have h := Arr.cut (OArr.arr (s := s)) (i := 0) (j := i) (Nat.zero_le _) (by omega)
    rw [List.drop_zero, Nat.sub_zero] at h
    exact h
  have A53 : Arr (cutv (.slice (some ⟨b, 0, none⟩) xs.length c : Value) 2 i xs.length) encSpan 2 (blk b cs 38) (xs.drop i) := by
    have h := Arr.cut (OArr.arr (s := s)) (i := i) (j := xs.length) (by omega) (Nat.le_refl _)
    rwa [List.take_of_length_le (by omega)] at h
  have l40 : (xs.take i ++ List.replicate (xs.length + 1 - i) (⟨0, 0⟩ : BSpan)).length = xs.length + 1 := by rw [List.length_append, List.length_replicate, l1]; omega
  have l77 : (xs.take (i + 1) ++ xs.drop i).length = xs.length + 1 := by rw [List.length_append, List.length_take, l2]; omega
  refine Spec.intro (fn := Try.f50) (N := 95) Try.func50 rfl Try.ntmps50 rfl fun B => ?_
  refine XK.seq ?_
  refine XK.region rfl ?_
  refine XO.q (Q.assign rfl) ?_
  refine XO.done ?_
  refine XK.seq ?_
  refine XK.region rfl ?_
  refine XO.q (Q.move rfl) ?_
  refine XO.q (Q.move rfl) ?_
  refine XO.q (Q.raw (b := b) (n := xs.length) (c := c) (i := i) (j := xs.length) rfl (.s rfl rfl) .n (by omega) (by omega)) ?_
  refine XO.done ?_
  refine XK.seq ?_
  refine XK.region rfl ?_
  refine XO.q (Q.move rfl) ?_
  refine XO.len rfl fun l14 => ?_
  rw [show ((([y] : List BSpan).length : Nat) : Int) = 1 from rfl]
  refine XO.q (Q.assign rfl) ?_
  refine XO.done ?_
  refine XK.seq ?_
  refine XK.seq ?_
  refine XK.region rfl ?_
  refine XO.q (Q.move rfl) ?_
  refine XO.q (Q.eql rfl rfl) ?_
  refine XO.done ?_
  refine XK.if rfl (fun c0 => ?_) (fun c0 => ?_)
  · have _t0 := True.intro
    exact absurd c0 (by decide)
  · have _t0 := True.intro
    refine XK.skip ?_
    refine XK.seq ?_
    refine XK.region rfl ?_
    refine XO.q (Q.move rfl) ?_
    refine XO.len rfl fun l19 => ?_
    refine XO.q (Q.assign rfl) ?_
    refine XO.done ?_
    refine XK.seq ?_
    refine XK.seq ?_
    refine XK.region rfl ?_
    refine XO.q (Q.move rfl) ?_
    refine XO.q (Q.move rfl) ?_
    refine XO.q (Q.eql rfl rfl) ?_
    refine XO.done ?_
    refine XK.if rfl (fun c1 => ?_) (fun c1 => ?_)
    · have _t1 := True.intro
      exact absurd c1 (by omega)
    · have _t1 := True.intro
      refine XK.skip ?_
      refine XK.seq ?_
      refine XK.seq ?_
      refine XK.region rfl ?_
      refine XO.q (Q.move rfl) ?_
      refine XO.q (Q.move rfl) ?_
      refine XO.q (Q.add rfl rfl ⟨by omega, by omega⟩) ?_
      refine XO.q (Q.move rfl) ?_
      refine XO.q (Q.capN rfl) ?_
      refine XO.q (Q.gtr rfl rfl) ?_
      refine XO.done ?_
      refine XK.if rfl (fun c2 => ?_) (fun c2 => ?_)
      · have _t2 := True.intro
        refine XK.seq ?_
        refine XK.region rfl ?_
        refine XO.q (Q.move rfl) ?_
        refine XO.q (Q.move rfl) ?_
        refine XO.q (Q.raw (b := b) (n := xs.length) (c := c) (i := 0) (j := i) rfl .n (.s rfl rfl) (by omega) (by omega)) ?_
        refine XO.q (Q.move rfl) ?_
        refine XO.q (Q.move rfl) ?_
        refine XO.q (Q.add rfl rfl ⟨by omega, by omega⟩) ?_
        refine XO.q (Q.move rfl) ?_
        refine XO.q (Q.sub rfl rfl ⟨by omega, by omega⟩) ?_
        refine XO.s (Stp.appendG (s := A34) (ad := if c = 0 then some ⟨b, 0, none⟩ else (some (⟨b, 0, none⟩ : Addr)).map (·.add (0 * 2))) (q := xs.length + 1 - i) (c := c) (ti := Try.t38) (z := .agg #[.int .i64 0, .int .i64 0]) (⟨0, 0⟩ : BSpan) Try.underlying26 Try.underlying3 (by kernel_rfl) (by kernel_rfl) rfl rfl (by rw [l1]; rfl) rfl (by omega) (by omega) (by omega) (by omega) rfl rfl (by decide) rfl (show Ones [.int .i64 0, .int .i64 0] by infer_instance)) fun v40 o40 hO40 => ?_
        obtain ⟨h40, O40, e40⟩ := hO40
        subst e40
        refine XO.q (Q.assign rfl) ?_
        refine XO.done ?_
        refine XK.seq ?_
        refine XK.region rfl ?_
        refine XO.q (Q.move rfl) ?_
        refine XO.q (Q.move rfl) ?_
        refine XO.q (Q.tail (i := i) rfl (.s rfl rfl) (by omega)) ?_
        refine XO.q (Q.move rfl) ?_
        refine XO.copy rfl rfl rfl (by omega) fun h45 O45 => ?_
        have l45 : (splice (xs.take i ++ List.replicate (xs.length + 1 - i) (⟨0, 0⟩ : BSpan)) [y] i).length = xs.length + 1 := by unfold splice; simp only [List.length_append, List.length_take, List.length_drop, List.length_replicate, List.length_cons, List.length_nil]; omega
        refine XO.done ?_
        refine XK.seq ?_
        refine XK.drawn [0, 1, 2, 3, 4, 5, 6, 7] [] [] (.q 0 (.q 1 (.q 2 (.q 3 (.q 4 (.q 5 (.q 6 (.q 7 (.br 8 true .done .stop))))))))) Try.mixed rfl (by kernel_rfl) ?_
        refine XT.q rfl rfl (Q.move rfl) ?_
        refine XT.q rfl rfl (Q.move rfl) ?_
        refine XT.q rfl rfl (Q.move rfl) ?_
        refine XT.q rfl rfl (Q.add rfl rfl ⟨by omega, by omega⟩) ?_
        refine XT.q rfl rfl (Q.tail (i := i + 1) rfl (.s rfl rfl) (by omega)) ?_
        refine XT.q rfl rfl (Q.move rfl) ?_
        refine XT.q rfl rfl (Q.move rfl) ?_
        refine XT.q rfl rfl (Q.cut (i := i) (j := xs.length) rfl (.s rfl rfl) .n (by omega) (Nat.le_refl _)) ?_
        refine XT.copy rfl rfl rfl rfl rfl (by omega) (fun h54 O54 => ⟨inferInstance, ?_⟩) XT.stop
        refine XT.done ?_
        refine XK.seq ?_
        refine XK.region rfl ?_
        refine XO.q (Q.move rfl) ?_
        refine XO.q (Q.assign rfl) ?_
        refine XO.done ?_
        refine XK.rt [h54] Try.func50 Try.results50 (.t rfl .n) ?_
        exact ⟨h54, rfl, by rw [← ins_grow hi]; exact O54⟩
      · have _t2 := True.intro
        refine XK.skip ?_
        refine XK.seq ?_
        refine XK.region rfl ?_
        refine XO.q (Q.move rfl) ?_
        refine XO.q (Q.move rfl) ?_
        refine XO.q (Q.move rfl) ?_
        refine XO.q (Q.add rfl rfl ⟨by omega, by omega⟩) ?_
        refine XO.q (Q.raw (b := b) (n := xs.length) (c := c) (i := 0) (j := xs.length + 1) rfl .n (.s rfl rfl) (by omega) (by omega)) ?_
        rw [raw_zero]
        refine XO.q (Q.assign rfl) ?_
        refine XO.done ?_
        refine XK.seq ?_
        refine XK.seq ?_
        refine XK.region rfl ?_
        refine XO.q (Q.move rfl) ?_
        refine XO.q (Q.move rfl) ?_
        refine XO.q (Q.move rfl) ?_
        refine XO.q (Q.move rfl) ?_
        refine XO.q (Q.add rfl rfl ⟨by omega, by omega⟩) ?_
        refine XO.q (Q.raw (b := b) (n := xs.length + 1) (c := c) (i := i + 1) (j := xs.length + 1) rfl (.s rfl rfl) .n (by omega) (by omega)) ?_
        rw [raw_pos (show c ≠ i + 1 by omega)]
        refine XO.s (Stp.apart (b2 := b2) (b := b) (cs := cs) (cs2 := cs2) (h := blk b cs 38) (h2 := blk b2 cs2 38) (T := 38) (T2 := 38) (tR := 4) Try.underlying26 Try.func77 (by kernel_rfl) (by kernel_rfl) (by kernel_rfl) (by kernel_rfl) rfl rfl rfl rfl rfl (by intro h; rw [h] at hlen; simp at hlen; omega) (by intro h; rw [h] at hlen2; simp at hlen2 hle2; omega)) fun v67 o67 e67 => ?_
        obtain ⟨rfl, rfl⟩ := e67
        refine XO.q (Q.not rfl) ?_
        refine XO.done ?_
        refine XK.if rfl (fun c3 => ?_) (fun c3 => ?_)
        · have _t3 := True.intro
          refine XK.seq ?_
          refine XK.drawn [0, 1, 2, 3, 4, 5, 6, 7] [] [] (.q 0 (.q 1 (.q 2 (.q 3 (.q 4 (.q 5 (.q 6 (.q 7 (.br 8 true .done .stop))))))))) Try.mixed rfl (by kernel_rfl) ?_
          refine XT.q rfl rfl (Q.move rfl) ?_
          refine XT.q rfl rfl (Q.move rfl) ?_
          refine XT.q rfl rfl (Q.move rfl) ?_
          refine XT.q rfl rfl (Q.add rfl rfl ⟨by omega, by omega⟩) ?_
          refine XT.q rfl rfl (Q.raw (b := b) (n := xs.length + 1) (c := c) (i := i + 1) (j := xs.length + 1) rfl (.s rfl rfl) .n (by omega) (by omega)) ?_
          refine XT.q rfl rfl (Q.move rfl) ?_
          refine XT.q rfl rfl (Q.move rfl) ?_
          refine XT.q rfl rfl (Q.raw (b := b) (n := xs.length + 1) (c := c) (i := i) (j := xs.length + 1) rfl (.s rfl rfl) .n (by omega) (by omega)) ?_
          refine XT.shift (b := b) (n := xs.length) (cc := c) (i := i) rfl rfl rfl rfl rfl (by omega) (by omega) (by omega) (fun h77 O77 => ⟨inferInstance, ?_⟩) XT.stop
          refine XT.done ?_
          refine XK.seq ?_
          refine XK.region rfl ?_
          refine XO.q (Q.move rfl) ?_
          refine XO.q (Q.move rfl) ?_
          refine XO.q (Q.tail (i := i) rfl (.s rfl rfl) (by omega)) ?_
          refine XO.q (Q.move rfl) ?_
          refine XO.copy rfl rfl rfl (by omega) fun h82 O82 => ?_
          refine XO.done ?_
          refine XK.seq ?_
          refine XK.region rfl ?_
          refine XO.q (Q.move rfl) ?_
          refine XO.q (Q.assign rfl) ?_
          refine XO.done ?_
          refine XK.rt [h82] Try.func50 Try.results50 (.t rfl .n) ?_
          exact ⟨h82, rfl, by rw [← ins_room hi]; exact O82⟩
        · have _t3 := True.intro
          exact absurd (fun h => h) c3
end Go.X
