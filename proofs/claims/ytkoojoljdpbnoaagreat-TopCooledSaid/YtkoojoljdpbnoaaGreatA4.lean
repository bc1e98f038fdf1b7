/- A part of the proof: a small program logic, plain laws and contracts of functions, each proved by a walk through its operations. No condition but those that stand in each theorem. -/
import Derived.Test.YtkoojoljdpbnoaaGreatA3
set_option linter.unusedSimpArgs false
set_option linter.unusedVariables false
set_option maxRecDepth 20000
namespace Go.X.Bk
open Go.Proofs
def encBat (x : BBat) : List Value := [.int .i64 x.energy, .int .i64 x.full, .int .i64 x.power, .int .i64 x.charge]
def encGen (x : BGen) : List Value := [.int .i64 x.power, .int .i64 x.ramp, .int .i64 x.delay, .int .i64 x.pause, .int .i64 x.tries]
def encSpan (x : BSpan) : List Value := [.int .i64 x.seconds, .int .i64 x.power]
def encCell (x : BCell) : List Value := [.int .i64 x.bat.energy, .int .i64 x.bat.full, .int .i64 x.bat.power, .int .i64 x.bat.charge, .int .i64 x.now]
abbrev batV (x : BBat) : Value := .agg #[.int .i64 x.energy, .int .i64 x.full, .int .i64 x.power, .int .i64 x.charge]
abbrev genV (x : BGen) : Value := .agg #[.int .i64 x.power, .int .i64 x.ramp, .int .i64 x.delay, .int .i64 x.pause, .int .i64 x.tries]
theorem cloneI (v : Value) (h : PHeap) (xs : List Int) [s : Arr v encI 1 h xs] (hl : xs.length ≤ 68719476736) :
  Spec Tryz.prog 59 #[v] [] [h] (fun v' hs => ∃ h', hs = [h'] ∧ OArr v' encI 1 3 h' xs) := by
 refine Spec.intro (fn := Tryz.f59) (N := 8) Tryz.func59 rfl Tryz.ntmps59 rfl fun B => ?_
 refine XK.seq (XK.region rfl (XO.q (Q.assign rfl) (XO.done (XK.seq (XK.seq ?_)))))
 refine XK.region rfl (XO.q (Q.move rfl) ?_)
 refine XO.eqNil rfl fun z4 hz4 => ?_
 refine XO.done ?_
 refine XK.if rfl (fun c0 => ?_) (fun c0 => ?_)
 ·skip
  refine XK.seq (XK.region rfl (XO.q (Q.assign rfl) (XO.done ?_)))
  refine XK.rt [emp] Tryz.func59 Tryz.results59 (.t rfl .n) ?_
  exact ⟨emp, rfl, by rw [(hz4 c0).1]; exact OArr.nil (fun _ => rfl)⟩
 ·skip
  refine XK.skip (XK.seq (XK.region rfl ?_))
  refine XO.lit [] [] [] encI (by rfl) (by rfl) rfl (by rfl) (by exact .n _) (fun _ => rfl) (by rfl) rfl (by infer_instance) rfl fun v5 h5 O5 => ?_
  refine XO.q (Q.move rfl) ?_
  refine XO.append rfl rfl rfl rfl (by first | omega | (simp; omega)) fun v7 h7 O7 => ?_
  refine XO.q (Q.assign rfl) (XO.done ?_)
  refine XK.rt [h7] Tryz.func59 Tryz.results59 (.t rfl .n) ?_
  exact ⟨h7, rfl, O7⟩
theorem cloneC (v : Value) (h : PHeap) (xs : List BCell) [s : Arr v encCell 5 h xs] (hl : xs.length ≤ 68719476736) :
  Spec Tryz.prog 176 #[v] [] [h] (fun v' hs => ∃ h', hs = [h'] ∧ OArr v' encCell 5 329 h' xs) := by
 refine Spec.intro (fn := Tryz.f176) (N := 8) Tryz.func176 rfl Tryz.ntmps176 rfl fun B => ?_
 refine XK.seq (XK.region rfl (XO.q (Q.assign rfl) (XO.done (XK.seq (XK.seq ?_)))))
 refine XK.region rfl (XO.q (Q.move rfl) ?_)
 refine XO.eqNil rfl fun z4 hz4 => ?_
 refine XO.done ?_
 refine XK.if rfl (fun c0 => ?_) (fun c0 => ?_)
 ·skip
  refine XK.seq (XK.region rfl (XO.q (Q.assign rfl) (XO.done ?_)))
  refine XK.rt [emp] Tryz.func176 Tryz.results176 (.t rfl .n) ?_
  exact ⟨emp, rfl, by rw [(hz4 c0).1]; exact OArr.nil (fun _ => rfl)⟩
 ·skip
  refine XK.skip (XK.seq (XK.region rfl ?_))
  refine XO.lit [] [] [] encCell (by rfl) (by rfl) rfl (by rfl) (by exact .n _) (fun _ => rfl) (by rfl) rfl (by infer_instance) rfl fun v5 h5 O5 => ?_
  refine XO.q (Q.move rfl) ?_
  refine XO.append rfl rfl rfl rfl (by first | omega | (simp; omega)) fun v7 h7 O7 => ?_
  refine XO.q (Q.assign rfl) (XO.done ?_)
  refine XK.rt [h7] Tryz.func176 Tryz.results176 (.t rfl .n) ?_
  exact ⟨h7, rfl, O7⟩
theorem equalI (v1 v2 : Value) (h1 h2 : PHeap) (xs ys : List Int) [s1 : Arr v1 encI 1 h1 xs] [s2 : Arr v2 encI 1 h2 ys] :
  Spec Tryz.prog 35 #[v1, v2] [] [h1, h2] (fun v hs => v = .bool (decide (xs = ys)) ∧ hs = []) := by
 refine Spec.intro (fn := Tryz.f35) (N := 26) Tryz.func35 rfl Tryz.ntmps35 rfl fun B => ?_
 refine XK.seq (XK.region rfl (XO.q (Q.assign rfl) (XO.done (XK.seq (XK.seq ?_)))))
 refine XK.region rfl (XO.q (Q.move rfl) ?_)
 refine XO.len rfl fun l7 => ?_
 refine XO.q (Q.move rfl) ?_
 refine XO.len rfl fun l9 => ?_
 refine XO.q (Q.neq rfl rfl) ?_
 refine XO.done ?_
 refine XK.if rfl (fun c0 => ?_) (fun c0 => ?_)
 ·skip
  refine XK.seq (XK.region rfl (XO.q (Q.assign rfl) (XO.done ?_)))
  refine XK.rt [] Tryz.func35 Tryz.results35 (.t rfl .n) ?_
  exact ⟨by rw [decide_eq_false (fun h => c0 (by rw [h]))], rfl⟩
 ·skip
  refine XK.skip (XK.seq (XK.seq (XK.region rfl (XO.q (Q.move rfl) ?_))))
  refine XO.len rfl fun l12 => ?_
  refine XO.q (Q.move rfl) (XO.done (XK.block ?_))
  refine XK.while (X := Nat) [4, 5, 13, 14, 15, 16, 17, 18, 19, 20, 21, 22, 23, 24, 25] (fun i => [(13, some (.int .i64 (i : Nat)))]) (fun i => []) (fun i => i ≤ xs.length ∧ xs.take i = ys.take i) (fun i => xs.length - i) (0) [] rfl ⟨by omega, rfl⟩ (.c rfl (.base 0 rfl rfl)) ?_
  rintro i ⟨hi, ht⟩ ih0
  dsimp only [lcA, lnA] at ih0 ⊢
  refine XK.seq (XK.region rfl ?_)
  refine XO.q (Q.lss rfl rfl) ?_
  refine XO.done (XK.seq ?_)
  refine XK.if rfl (fun c1 => ?_) (fun c1 => ?_)
  ·skip
   refine XK.skip (XK.seq (XK.block (XK.seq (XK.region rfl (XO.q (Q.move rfl) ?_)))))
   refine XO.q (Q.assign rfl) (XO.done (XK.seq ?_))
   refine XK.drawn [0, 1, 2, 3, 4, 5, 6, 7, 8] [] [] (.q 0 (.q 1 (.q 2 (.q 3 (.q 4 (.q 5 (.q 6 (.q 7 (.q 8 .done))))))))) Tryz.mixed rfl (by kernel_rfl) ?_
   refine XT.q rfl rfl (Q.move rfl) ?_
   refine XT.q rfl rfl (Q.move rfl) ?_
   refine XT.ix rfl rfl rfl rfl (by omega) (by omega) fun i18 => ?_
   refine XT.q rfl rfl (Q.ldE rfl (by first | assumption | omega) rfl) ?_
   refine XT.q rfl rfl (Q.move rfl) ?_
   refine XT.q rfl rfl (Q.move rfl) ?_
   refine XT.ix rfl rfl rfl rfl (by omega) (by omega) fun i22 => ?_
   refine XT.q rfl rfl (Q.ldE rfl (by first | assumption | omega) rfl) ?_
   refine XT.q rfl rfl (Q.neq rfl rfl) ?_
   refine XT.done ?_
   refine XK.if rfl (fun c2 => ?_) (fun c2 => ?_)
   ·skip
    refine XK.seq (XK.region rfl (XO.q (Q.assign rfl) (XO.done ?_)))
    refine XK.rt [] Tryz.func35 Tryz.results35 (.t rfl .n) ?_
    exact ⟨by rw [decide_eq_false (fun h => c2 (by rw [h]))], rfl⟩
   ·skip
    refine XK.skip ?_
    refine XK.inBlock ?_
    refine XK.region rfl ?_
    refine XO.q (Q.add rfl rfl ⟨by omega, by omega⟩) ?_
    refine XO.q (Q.move rfl) (XO.done ?_)
    exact ih0 (i + 1) _ _ ⟨by omega, take_step ht (by omega) (by omega) (Decidable.of_not_not c2)⟩ (by first | omega | (dsimp only; omega)) (.c rfl (.base 30 rfl rfl)) inferInstance
  ·skip
   refine XK.exit rfl ?_
   refine XK.seq (XK.region rfl (XO.q (Q.assign rfl) (XO.done ?_)))
   refine XK.rt [] Tryz.func35 Tryz.results35 (.t rfl .n) ?_
   exact ⟨by rw [decide_eq_true (take_all ht c1 (by omega))], rfl⟩
theorem indexFuncI (v : Value) (h : PHeap) (xs : List Int) [s : Arr v encI 1 h xs] (gid : FuncId) (cap : List Value) (Hr : List PHeap) (p : Int → Bool)
  (hc : ∀ args w, (callFunc gid args).run Tryz.prog w = .ok (.enter gid args) w) (hS : ∀ x ∈ xs, Spec Tryz.prog gid (.int .i64 x :: cap).toArray [] Hr (fun v hs => v = .bool (p x) ∧ hs = [])) :
  Spec Tryz.prog 159 #[v, .func (.func gid) #[] cap.toArray] [] (h :: Hr) (fun v hs => v = .int .i64 (findFirst p xs) ∧ hs = []) := by
 refine Spec.intro (fn := Tryz.f159) (N := 19) Tryz.func159 rfl Tryz.ntmps159 rfl fun B => ?_
 refine XK.seq (XK.region rfl (XO.q (Q.assign rfl) (XO.done (XK.seq (XK.seq ?_)))))
 refine XK.region rfl (XO.q (Q.move rfl) ?_)
 refine XO.len rfl fun l7 => ?_
 refine XO.q (Q.move rfl) (XO.done (XK.block ?_))
 refine XK.while (X := Nat) [4, 5, 8, 9, 10, 11, 12, 13, 14, 15, 16, 17, 18] (fun i => [(8, some (.int .i64 (i : Nat)))]) (fun i => []) (fun i => i ≤ xs.length ∧ (xs.take i).any p = false) (fun i => xs.length - i) (0) [] rfl ⟨by omega, rfl⟩ (.c rfl (.base 0 rfl rfl)) ?_
 rintro i ⟨hi, ht⟩ ih0
 dsimp only [lcA, lnA] at ih0 ⊢
 refine XK.seq (XK.region rfl ?_)
 refine XO.q (Q.lss rfl rfl) ?_
 refine XO.done (XK.seq ?_)
 refine XK.if rfl (fun c0 => ?_) (fun c0 => ?_)
 ·skip
  refine XK.skip (XK.seq (XK.block (XK.seq (XK.region rfl (XO.q (Q.move rfl) ?_)))))
  refine XO.q (Q.assign rfl) (XO.done (XK.seq (XK.region rfl (XO.q (Q.move rfl) (XO.q (Q.move rfl) ?_)))))
  refine XO.q (Q.move rfl) ?_
  refine XO.ix rfl rfl (by omega) (by omega) fun i14 => ?_
  refine XO.q (Q.ldE rfl (by first | assumption | omega) rfl) ?_
  refine XO.call hc rfl rfl rfl (hS _ (getD_mem (by omega))) fun v16 s16 R16 => ?_
  obtain ⟨rfl, rfl⟩ := R16
  dsimp only [lcA, lnA]
  refine XO.done ?_
  refine XK.if rfl (fun c1 => ?_) (fun c1 => ?_)
  ·skip
   refine XK.seq (XK.region rfl (XO.q (Q.move rfl) (XO.q (Q.assign rfl) (XO.done ?_))))
   refine XK.rt [] Tryz.func159 Tryz.results159 (.t rfl .n) ?_
   exact ⟨by rw [findFirst_here ht (by omega) c1], rfl⟩
  ·skip
   refine XK.skip ?_
   refine XK.inBlock ?_
   refine XK.region rfl ?_
   refine XO.q (Q.add rfl rfl ⟨by omega, by omega⟩) ?_
   refine XO.q (Q.move rfl) (XO.done ?_)
   exact ih0 (i + 1) _ _ ⟨by omega, any_step ht (by omega) (Bool.eq_false_iff.2 c1)⟩ (by first | omega | (dsimp only; omega)) (.c rfl (.base 25 rfl rfl)) inferInstance
 ·skip
  refine XK.exit rfl ?_
  refine XK.seq (XK.region rfl (XO.q (Q.assign rfl) (XO.done ?_)))
  refine XK.rt [] Tryz.func159 Tryz.results159 (.t rfl .n) ?_
  exact ⟨by rw [findFirst_none ht c0], rfl⟩
theorem containsFuncI (v : Value) (h : PHeap) (xs : List Int) [s : Arr v encI 1 h xs] (gid : FuncId) (cap : List Value) (Hr : List PHeap) (p : Int → Bool)
  (hc : ∀ args w, (callFunc gid args).run Tryz.prog w = .ok (.enter gid args) w) (hS : ∀ x ∈ xs, Spec Tryz.prog gid (.int .i64 x :: cap).toArray [] Hr (fun v hs => v = .bool (p x) ∧ hs = [])) :
  Spec Tryz.prog 97 #[v, .func (.func gid) #[] cap.toArray] [] (h :: Hr) (fun v hs => v = .bool (xs.any p) ∧ hs = []) := by
 refine Spec.intro (fn := Tryz.f97) (N := 9) Tryz.func97 rfl Tryz.ntmps97 rfl fun B => ?_
 refine XK.seq (XK.region rfl (XO.q (Q.assign rfl) (XO.done (XK.seq (XK.region rfl ?_)))))
 refine XO.q (Q.move rfl) (XO.q (Q.move rfl) ?_)
 refine XO.call Tryz.call159 rfl rfl rfl (indexFuncI v h xs gid cap Hr p hc hS) fun v7 s7 R7 => ?_
 obtain ⟨rfl, rfl⟩ := R7
 dsimp only [lcA, lnA]
 refine XO.q (Q.geq rfl rfl) ?_
 refine XO.q (Q.assign rfl) (XO.done ?_)
 refine XK.rt [] Tryz.func97 Tryz.results97 (.t rfl .n) ?_
 exact ⟨by rw [← findFirst_any], rfl⟩
theorem indexFuncB (v : Value) (h : PHeap) (xs : List BBat) [s : Arr v encBat 4 h xs] (gid : FuncId) (cap : List Value) (Hr : List PHeap) (p : BBat → Bool)
  (hc : ∀ args w, (callFunc gid args).run Tryz.prog w = .ok (.enter gid args) w) (hS : ∀ x ∈ xs, Spec Tryz.prog gid (batV x :: cap).toArray [] Hr (fun v hs => v = .bool (p x) ∧ hs = [])) :
  Spec Tryz.prog 182 #[v, .func (.func gid) #[] cap.toArray] [] (h :: Hr) (fun v hs => v = .int .i64 (findFirst p xs) ∧ hs = []) := by
 refine Spec.intro (fn := Tryz.f182) (N := 19) Tryz.func182 rfl Tryz.ntmps182 rfl fun B => ?_
 refine XK.seq (XK.region rfl (XO.q (Q.assign rfl) (XO.done (XK.seq (XK.seq ?_)))))
 refine XK.region rfl (XO.q (Q.move rfl) ?_)
 refine XO.len rfl fun l7 => ?_
 refine XO.q (Q.move rfl) (XO.done (XK.block ?_))
 refine XK.while (X := Nat) [4, 5, 8, 9, 10, 11, 12, 13, 14, 15, 16, 17, 18] (fun i => [(8, some (.int .i64 (i : Nat)))]) (fun i => []) (fun i => i ≤ xs.length ∧ (xs.take i).any p = false) (fun i => xs.length - i) (0) [] rfl ⟨by omega, rfl⟩ (.c rfl (.base 0 rfl rfl)) ?_
 rintro i ⟨hi, ht⟩ ih0
 dsimp only [lcA, lnA] at ih0 ⊢
 refine XK.seq (XK.region rfl ?_)
 refine XO.q (Q.lss rfl rfl) ?_
 refine XO.done (XK.seq ?_)
 refine XK.if rfl (fun c0 => ?_) (fun c0 => ?_)
 ·skip
  refine XK.skip (XK.seq (XK.block (XK.seq (XK.region rfl (XO.q (Q.move rfl) ?_)))))
  refine XO.q (Q.assign rfl) (XO.done (XK.seq (XK.region rfl (XO.q (Q.move rfl) (XO.q (Q.move rfl) ?_)))))
  refine XO.q (Q.move rfl) ?_
  refine XO.ix rfl rfl (by omega) (by omega) fun i14 => ?_
  refine XO.q (Q.ldEA [_, _, _, _] rfl (by first | assumption | omega) rfl rfl) ?_
  refine XO.call hc rfl rfl rfl (hS _ (getD_mem (by omega))) fun v16 s16 R16 => ?_
  obtain ⟨rfl, rfl⟩ := R16
  dsimp only [lcA, lnA]
  refine XO.done ?_
  refine XK.if rfl (fun c1 => ?_) (fun c1 => ?_)
  ·skip
   refine XK.seq (XK.region rfl (XO.q (Q.move rfl) (XO.q (Q.assign rfl) (XO.done ?_))))
   refine XK.rt [] Tryz.func182 Tryz.results182 (.t rfl .n) ?_
   exact ⟨by rw [findFirst_here ht (by omega) c1], rfl⟩
  ·skip
   refine XK.skip ?_
   refine XK.inBlock ?_
   refine XK.region rfl ?_
   refine XO.q (Q.add rfl rfl ⟨by omega, by omega⟩) ?_
   refine XO.q (Q.move rfl) (XO.done ?_)
   exact ih0 (i + 1) _ _ ⟨by omega, any_step ht (by omega) (Bool.eq_false_iff.2 c1)⟩ (by first | omega | (dsimp only; omega)) (.c rfl (.base 25 rfl rfl)) inferInstance
 ·skip
  refine XK.exit rfl ?_
  refine XK.seq (XK.region rfl (XO.q (Q.assign rfl) (XO.done ?_)))
  refine XK.rt [] Tryz.func182 Tryz.results182 (.t rfl .n) ?_
  exact ⟨by rw [findFirst_none ht c0], rfl⟩
theorem containsFuncB (v : Value) (h : PHeap) (xs : List BBat) [s : Arr v encBat 4 h xs] (gid : FuncId) (cap : List Value) (Hr : List PHeap) (p : BBat → Bool)
  (hc : ∀ args w, (callFunc gid args).run Tryz.prog w = .ok (.enter gid args) w) (hS : ∀ x ∈ xs, Spec Tryz.prog gid (batV x :: cap).toArray [] Hr (fun v hs => v = .bool (p x) ∧ hs = [])) :
  Spec Tryz.prog 135 #[v, .func (.func gid) #[] cap.toArray] [] (h :: Hr) (fun v hs => v = .bool (xs.any p) ∧ hs = []) := by
 refine Spec.intro (fn := Tryz.f135) (N := 9) Tryz.func135 rfl Tryz.ntmps135 rfl fun B => ?_
 refine XK.seq (XK.region rfl (XO.q (Q.assign rfl) (XO.done (XK.seq (XK.region rfl ?_)))))
 refine XO.q (Q.move rfl) (XO.q (Q.move rfl) ?_)
 refine XO.call Tryz.call182 rfl rfl rfl (indexFuncB v h xs gid cap Hr p hc hS) fun v7 s7 R7 => ?_
 obtain ⟨rfl, rfl⟩ := R7
 dsimp only [lcA, lnA]
 refine XO.q (Q.geq rfl rfl) ?_
 refine XO.q (Q.assign rfl) (XO.done ?_)
 refine XK.rt [] Tryz.func135 Tryz.results135 (.t rfl .n) ?_
 exact ⟨by rw [← findFirst_any], rfl⟩
theorem indexFuncG (v : Value) (h : PHeap) (xs : List BGen) [s : Arr v encGen 5 h xs] (gid : FuncId) (cap : List Value) (Hr : List PHeap) (p : BGen → Bool)
  (hc : ∀ args w, (callFunc gid args).run Tryz.prog w = .ok (.enter gid args) w) (hS : ∀ x ∈ xs, Spec Tryz.prog gid (genV x :: cap).toArray [] Hr (fun v hs => v = .bool (p x) ∧ hs = [])) :
  Spec Tryz.prog 183 #[v, .func (.func gid) #[] cap.toArray] [] (h :: Hr) (fun v hs => v = .int .i64 (findFirst p xs) ∧ hs = []) := by
 refine Spec.intro (fn := Tryz.f183) (N := 19) Tryz.func183 rfl Tryz.ntmps183 rfl fun B => ?_
 refine XK.seq (XK.region rfl (XO.q (Q.assign rfl) (XO.done (XK.seq (XK.seq ?_)))))
 refine XK.region rfl (XO.q (Q.move rfl) ?_)
 refine XO.len rfl fun l7 => ?_
 refine XO.q (Q.move rfl) (XO.done (XK.block ?_))
 refine XK.while (X := Nat) [4, 5, 8, 9, 10, 11, 12, 13, 14, 15, 16, 17, 18] (fun i => [(8, some (.int .i64 (i : Nat)))]) (fun i => []) (fun i => i ≤ xs.length ∧ (xs.take i).any p = false) (fun i => xs.length - i) (0) [] rfl ⟨by omega, rfl⟩ (.c rfl (.base 0 rfl rfl)) ?_
 rintro i ⟨hi, ht⟩ ih0
 dsimp only [lcA, lnA] at ih0 ⊢
 refine XK.seq (XK.region rfl ?_)
 refine XO.q (Q.lss rfl rfl) ?_
 refine XO.done (XK.seq ?_)
 refine XK.if rfl (fun c0 => ?_) (fun c0 => ?_)
 ·skip
  refine XK.skip (XK.seq (XK.block (XK.seq (XK.region rfl (XO.q (Q.move rfl) ?_)))))
  refine XO.q (Q.assign rfl) (XO.done (XK.seq (XK.region rfl (XO.q (Q.move rfl) (XO.q (Q.move rfl) ?_)))))
  refine XO.q (Q.move rfl) ?_
  refine XO.ix rfl rfl (by omega) (by omega) fun i14 => ?_
  refine XO.q (Q.ldEA [_, _, _, _, _] rfl (by first | assumption | omega) rfl rfl) ?_
  refine XO.call hc rfl rfl rfl (hS _ (getD_mem (by omega))) fun v16 s16 R16 => ?_
  obtain ⟨rfl, rfl⟩ := R16
  dsimp only [lcA, lnA]
  refine XO.done ?_
  refine XK.if rfl (fun c1 => ?_) (fun c1 => ?_)
  ·skip
   refine XK.seq (XK.region rfl (XO.q (Q.move rfl) (XO.q (Q.assign rfl) (XO.done ?_))))
   refine XK.rt [] Tryz.func183 Tryz.results183 (.t rfl .n) ?_
   exact ⟨by rw [findFirst_here ht (by omega) c1], rfl⟩
  ·skip
   refine XK.skip ?_
   refine XK.inBlock ?_
   refine XK.region rfl ?_
   refine XO.q (Q.add rfl rfl ⟨by omega, by omega⟩) ?_
   refine XO.q (Q.move rfl) (XO.done ?_)
   exact ih0 (i + 1) _ _ ⟨by omega, any_step ht (by omega) (Bool.eq_false_iff.2 c1)⟩ (by first | omega | (dsimp only; omega)) (.c rfl (.base 25 rfl rfl)) inferInstance
 ·skip
  refine XK.exit rfl ?_
  refine XK.seq (XK.region rfl (XO.q (Q.assign rfl) (XO.done ?_)))
  refine XK.rt [] Tryz.func183 Tryz.results183 (.t rfl .n) ?_
  exact ⟨by rw [findFirst_none ht c0], rfl⟩
theorem containsFuncG (v : Value) (h : PHeap) (xs : List BGen) [s : Arr v encGen 5 h xs] (gid : FuncId) (cap : List Value) (Hr : List PHeap) (p : BGen → Bool)
  (hc : ∀ args w, (callFunc gid args).run Tryz.prog w = .ok (.enter gid args) w) (hS : ∀ x ∈ xs, Spec Tryz.prog gid (genV x :: cap).toArray [] Hr (fun v hs => v = .bool (p x) ∧ hs = [])) :
  Spec Tryz.prog 138 #[v, .func (.func gid) #[] cap.toArray] [] (h :: Hr) (fun v hs => v = .bool (xs.any p) ∧ hs = []) := by
 refine Spec.intro (fn := Tryz.f138) (N := 9) Tryz.func138 rfl Tryz.ntmps138 rfl fun B => ?_
 refine XK.seq (XK.region rfl (XO.q (Q.assign rfl) (XO.done (XK.seq (XK.region rfl ?_)))))
 refine XO.q (Q.move rfl) (XO.q (Q.move rfl) ?_)
 refine XO.call Tryz.call183 rfl rfl rfl (indexFuncG v h xs gid cap Hr p hc hS) fun v7 s7 R7 => ?_
 obtain ⟨rfl, rfl⟩ := R7
 dsimp only [lcA, lnA]
 refine XO.q (Q.geq rfl rfl) ?_
 refine XO.q (Q.assign rfl) (XO.done ?_)
 refine XK.rt [] Tryz.func138 Tryz.results138 (.t rfl .n) ?_
 exact ⟨by rw [← findFirst_any], rfl⟩
theorem within1 (b : Nat) (m x : Int) : Spec Tryz.prog 141 #[.int .i64 x, ptr b 0] [] [blk b [.int .i64 m] 3] (fun v hs => v = .bool (outP m x) ∧ hs = []) := by
 refine Spec.intro (fn := Tryz.f141) (N := 11) Tryz.func141 rfl Tryz.ntmps141 rfl fun B => ?_
 refine XK.seq (XK.region rfl (XO.q (Q.assign rfl) (XO.done (XK.seq (XK.region rfl ?_)))))
 refine XO.q (Q.move rfl) ?_
 refine XO.q (Q.lss rfl rfl) ?_
 refine XO.q (Q.move rfl) ?_
 refine XO.q (Quiet.guardF rfl rfl fun g7 p7 => Q.move rfl) ?_
 refine XO.q (Quiet.guardF rfl rfl fun g8 p8 => Q.ld rfl rfl) ?_
 refine XO.q (Quiet.guardF rfl rfl fun g9 p9 => Q.gtr (lzv g9 rfl) (lzv g9 rfl)) ?_
 refine XO.q (Q.or rfl (fun hp => lzv hp rfl)) ?_
 refine XO.q (Q.assign rfl) (XO.done ?_)
 refine XK.rt [] Tryz.func141 Tryz.results141 (.t rfl .n) ?_
 exact ⟨rfl, rfl⟩
theorem within_spec (m : Int) (v : Value) (h : PHeap) (xs : List Int) [s : Arr v encI 1 h xs] : Spec Tryz.prog 78 #[.int .i64 m, v] [] [h] (fun v hs => v = .bool (inA m xs) ∧ hs = []) := by
 refine Spec.intro (fn := Tryz.f78) (N := 9) Tryz.func78 rfl Tryz.ntmps78 rfl fun B => ?_
 refine XK.seq (XK.region rfl ?_)
 refine XO.box rfl fun b2 => ?_
 refine XO.q (Q.assign rfl) (XO.done (XK.seq (XK.region rfl (XO.q (Q.move rfl) ?_))))
 refine XO.q (Q.func (fun _ he => rfl) (fun _ he => evs_rel he rfl)) ?_
 refine XO.call Tryz.call97 rfl rfl rfl (containsFuncI v h xs 141 [ptr b2 0] [blk b2 [.int .i64 m] 3] (outP m) Tryz.call141 (fun x hx => within1 b2 m x)) fun v7 s7 R7 => ?_
 obtain ⟨rfl, rfl⟩ := R7
 dsimp only [lcA, lnA]
 refine XO.q (Q.not rfl) ?_
 refine XO.q (Q.assign rfl) (XO.done ?_)
 refine XK.rt [] Tryz.func78 Tryz.results78 (.t rfl .n) ?_
 exact ⟨rfl, rfl⟩
theorem batRight (x : BBat) : Spec Tryz.prog 137 #[batV x] [] [] (fun v hs => v = .bool (batOk x) ∧ hs = []) := by
 refine Spec.intro (fn := Tryz.f137) (N := 24) Tryz.func137 rfl Tryz.ntmps137 rfl fun B => ?_
 refine XK.seq (XK.region rfl ?_)
 refine XO.box rfl fun b1 => ?_
 refine XO.q (Q.assign rfl) (XO.done (XK.seq (XK.region rfl ?_)))
 refine XO.q (Q.fieldAddr rfl) ?_
 refine XO.q (Q.ld rfl rfl) ?_
 refine XO.q (Q.fieldAddr rfl) ?_
 refine XO.q (Q.ld rfl rfl) ?_
 refine XO.lit [_, _] [_, _] [x.energy, x.full] encI (by rfl) (by rfl) rfl (by rfl) (by exact .c 0 1 rfl rfl rfl (.c 1 1 rfl rfl rfl (.n _))) (fun _ => rfl) (by rfl) rfl (by infer_instance) rfl fun v7 h7 O7 => ?_
 refine XO.call Tryz.call78 rfl rfl rfl (within_spec 100000000000 v7 h7 [x.energy, x.full]) fun v8 s8 R8 => ?_
 obtain ⟨rfl, rfl⟩ := R8
 dsimp only [lcA, lnA]
 refine XO.q (Q.move rfl) ?_
 refine XO.q (Quiet.guardT rfl rfl fun g10 p10 => Q.fieldAddr rfl) ?_
 refine XO.q (Quiet.guardT rfl rfl fun g11 p11 => Q.ld (lzv g11 rfl) rfl) ?_
 refine XO.q (Quiet.guardT rfl rfl fun g12 p12 => Q.fieldAddr rfl) ?_
 refine XO.q (Quiet.guardT rfl rfl fun g13 p13 => Q.ld (lzv g13 rfl) rfl) ?_
 refine XO.q (Quiet.guardT rfl rfl fun g14 p14 => Q.leq (lzv g14 rfl) (lzv g14 rfl)) ?_
 refine XO.q (Q.and rfl (fun hp => lzv hp rfl)) ?_
 refine XO.q (Q.move rfl) ?_
 refine XO.q (Quiet.guardT rfl rfl fun g17 p17 => Q.fieldAddr rfl) ?_
 refine XO.q (Quiet.guardT rfl rfl fun g18 p18 => Q.ld (lzv g18 rfl) rfl) ?_
 refine XO.q (Quiet.guardT rfl rfl fun g19 p19 => Q.fieldAddr rfl) ?_
 refine XO.q (Quiet.guardT rfl rfl fun g20 p20 => Q.ld (lzv g20 rfl) rfl) ?_
 refine XO.lit1 [_, _] [_, _] [x.power, x.charge] encI rfl rfl (by rfl) (by rfl) rfl (by rfl) (fun g21 => by exact .c 0 1 (lzv g21 rfl) rfl rfl (.c 1 1 (lzv g21 rfl) rfl rfl (.n _))) (fun _ => rfl) (by rfl) rfl (fun _ => by infer_instance) rfl (fun v21 h21 O21 => ?_)
 refine XO.gcallT rfl rfl Tryz.call78 rfl (fun g22 => .c rfl (.c (lzv g22 rfl) .n)) rfl (fun g22 p22 => by haveI := O21 g22; exact within_spec 1000000 v21 h21 [x.power, x.charge]) ?_
 refine XO.q (Q.and rfl (fun hp => lzv hp rfl)) ?_
 refine XO.q (Q.assign rfl) (XO.done ?_)
 refine XK.rt [] Tryz.func137 Tryz.results137 (.t rfl .n) ?_
 exact ⟨rfl, rfl⟩
theorem genRight (x : BGen) : Spec Tryz.prog 140 #[genV x] [] [] (fun v hs => v = .bool (genOk x) ∧ hs = []) := by
 refine Spec.intro (fn := Tryz.f140) (N := 27) Tryz.func140 rfl Tryz.ntmps140 rfl fun B => ?_
 refine XK.seq (XK.region rfl ?_)
 refine XO.box rfl fun b1 => ?_
 refine XO.q (Q.assign rfl) (XO.done (XK.seq (XK.region rfl ?_)))
 refine XO.q (Q.fieldAddr rfl) ?_
 refine XO.q (Q.ld rfl rfl) ?_
 refine XO.q (Q.fieldAddr rfl) ?_
 refine XO.q (Q.ld rfl rfl) ?_
 refine XO.lit [_, _] [_, _] [x.power, x.ramp] encI (by rfl) (by rfl) rfl (by rfl) (by exact .c 0 1 rfl rfl rfl (.c 1 1 rfl rfl rfl (.n _))) (fun _ => rfl) (by rfl) rfl (by infer_instance) rfl fun v7 h7 O7 => ?_
 refine XO.call Tryz.call78 rfl rfl rfl (within_spec 1000000 v7 h7 [x.power, x.ramp]) fun v8 s8 R8 => ?_
 obtain ⟨rfl, rfl⟩ := R8
 dsimp only [lcA, lnA]
 refine XO.q (Q.move rfl) ?_
 refine XO.q (Quiet.guardT rfl rfl fun g10 p10 => Q.fieldAddr rfl) ?_
 refine XO.q (Quiet.guardT rfl rfl fun g11 p11 => Q.ld (lzv g11 rfl) rfl) ?_
 refine XO.q (Quiet.guardT rfl rfl fun g12 p12 => Q.fieldAddr rfl) ?_
 refine XO.q (Quiet.guardT rfl rfl fun g13 p13 => Q.ld (lzv g13 rfl) rfl) ?_
 refine XO.lit1 [_, _] [_, _] [x.delay, x.pause] encI rfl rfl (by rfl) (by rfl) rfl (by rfl) (fun g14 => by exact .c 0 1 (lzv g14 rfl) rfl rfl (.c 1 1 (lzv g14 rfl) rfl rfl (.n _))) (fun _ => rfl) (by rfl) rfl (fun _ => by infer_instance) rfl (fun v14 h14 O14 => ?_)
 refine XO.gcallT rfl rfl Tryz.call78 rfl (fun g15 => .c rfl (.c (lzv g15 rfl) .n)) rfl (fun g15 p15 => by haveI := O14 g15; exact within_spec 3600 v14 h14 [x.delay, x.pause]) ?_
 refine XO.q (Q.and rfl (fun hp => lzv hp rfl)) ?_
 refine XO.q (Q.move rfl) ?_
 refine XO.q (Quiet.guardT rfl rfl fun g18 p18 => Q.fieldAddr rfl) ?_
 refine XO.q (Quiet.guardT rfl rfl fun g19 p19 => Q.ld (lzv g19 rfl) rfl) ?_
 refine XO.q (Quiet.guardT rfl rfl fun g20 p20 => Q.geq (lzv g20 rfl) rfl) ?_
 refine XO.q (Q.and rfl (fun hp => lzv hp rfl)) ?_
 refine XO.q (Q.move rfl) ?_
 refine XO.q (Quiet.guardT rfl rfl fun g23 p23 => Q.fieldAddr rfl) ?_
 refine XO.q (Quiet.guardT rfl rfl fun g24 p24 => Q.ld (lzv g24 rfl) rfl) ?_
 refine XO.q (Quiet.guardT rfl rfl fun g25 p25 => Q.leq (lzv g25 rfl) rfl) ?_
 refine XO.q (Q.and rfl (fun hp => lzv hp rfl)) ?_
 refine XO.q (Q.assign rfl) (XO.done ?_)
 refine XK.rt [] Tryz.func140 Tryz.results140 (.t rfl .n) ?_
 exact ⟨rfl, rfl⟩
theorem check1 (x : BBat) : Spec Tryz.prog 136 #[batV x] [] [] (fun v hs => v = .bool (!batOk x) ∧ hs = []) := by
 refine Spec.intro (fn := Tryz.f136) (N := 6) Tryz.func136 rfl Tryz.ntmps136 rfl fun B => ?_
 refine XK.seq (XK.region rfl ?_)
 refine XO.box rfl fun b1 => ?_
 refine XO.q (Q.assign rfl) (XO.done (XK.seq (XK.region rfl ?_)))
 refine XO.q (Q.ldA [_, _, _, _] rfl rfl rfl) ?_
 refine XO.call Tryz.call137 rfl rfl rfl (batRight x) fun v4 s4 R4 => ?_
 obtain ⟨rfl, rfl⟩ := R4
 dsimp only [lcA, lnA]
 refine XO.q (Q.not rfl) ?_
 refine XO.q (Q.assign rfl) (XO.done ?_)
 refine XK.rt [] Tryz.func136 Tryz.results136 (.t rfl .n) ?_
 exact ⟨rfl, rfl⟩
theorem check2 (x : BGen) : Spec Tryz.prog 139 #[genV x] [] [] (fun v hs => v = .bool (!genOk x) ∧ hs = []) := by
 refine Spec.intro (fn := Tryz.f139) (N := 6) Tryz.func139 rfl Tryz.ntmps139 rfl fun B => ?_
 refine XK.seq (XK.region rfl ?_)
 refine XO.box rfl fun b1 => ?_
 refine XO.q (Q.assign rfl) (XO.done (XK.seq (XK.region rfl ?_)))
 refine XO.q (Q.ldA [_, _, _, _, _] rfl rfl rfl) ?_
 refine XO.call Tryz.call140 rfl rfl rfl (genRight x) fun v4 s4 R4 => ?_
 obtain ⟨rfl, rfl⟩ := R4
 dsimp only [lcA, lnA]
 refine XO.q (Q.not rfl) ?_
 refine XO.q (Q.assign rfl) (XO.done ?_)
 refine XK.rt [] Tryz.func139 Tryz.results139 (.t rfl .n) ?_
 exact ⟨rfl, rfl⟩
theorem Check_spec (b : BBank) (vb vg : Value) (hb hg : PHeap) [ib : Arr vb encBat 4 hb b.bats] [ig : Arr vg encGen 5 hg b.gens] : Spec Tryz.prog 77 #[.agg #[vb, vg]] [] [hb, hg] (fun v hs => v = .int .i64 (bcheck b) ∧ hs = []) := by
 have lb := ib.le
 have lg := ig.le
 refine Spec.intro (fn := Tryz.f77) (N := 23) Tryz.func77 rfl Tryz.ntmps77 rfl fun B => ?_
 refine XK.seq (XK.region rfl ?_)
 refine XO.box rfl fun b1 => ?_
 refine XO.q (Q.assign rfl) (XO.done (XK.seq (XK.block (XK.seq (XK.region rfl ?_)))))
 refine XO.q (Q.fieldAddr rfl) ?_
 refine XO.q (Q.ld rfl rfl) ?_
 refine XO.len rfl fun l6 => ?_
 refine XO.q (Q.gtr rfl rfl) ?_
 refine XO.q (Q.move rfl) ?_
 refine XO.q (Quiet.guardF rfl rfl fun g9 p9 => Q.fieldAddr rfl) ?_
 refine XO.q (Quiet.guardF rfl rfl fun g10 p10 => Q.ld (lzv g10 rfl) rfl) ?_
 refine XO.q (Quiet.guardF rfl rfl fun g11 p11 => Q.len (lzv g11 rfl)) ?_
 refine XO.q (Quiet.guardF rfl rfl fun g12 p12 => Q.gtr (lzv g12 rfl) rfl) ?_
 refine XO.q (Q.or rfl (fun hp => lzv hp rfl)) ?_
 refine XO.q (Q.assign rfl) (XO.done ?_)
 refine XK.if rfl (fun c0 => ?_) (fun c0 => ?_)
 ·skip
  refine XK.seq (XK.region rfl (XO.q (Q.assign rfl) (XO.done ?_)))
  refine XK.rt [] Tryz.func77 Tryz.results77 (.t rfl .n) ?_
  exact ⟨by rw [bcheck, if_pos (by omega)], rfl⟩
 ·skip
  refine XK.seq (XK.region rfl ?_)
  refine XO.q (Q.fieldAddr rfl) ?_
  refine XO.q (Q.ld rfl rfl) ?_
  refine XO.call Tryz.call135 rfl rfl rfl (containsFuncB vb hb b.bats 136 [] [] (fun x => !batOk x) Tryz.call136 (fun x hx => check1 x)) fun v17 s17 R17 => ?_
  obtain ⟨rfl, rfl⟩ := R17
  dsimp only [lcA, lnA]
  refine XO.q (Q.move rfl) ?_
  refine XO.q (Quiet.guardF rfl rfl fun g19 p19 => Q.fieldAddr rfl) ?_
  refine XO.q (Quiet.guardF rfl rfl fun g20 p20 => Q.ld (lzv g20 rfl) rfl) ?_
  refine XO.gcallF rfl rfl Tryz.call138 rfl (fun g21 => .c (lzv g21 rfl) (.c rfl .n)) rfl (fun g21 p21 => containsFuncG vg hg b.gens 139 [] [] (fun x => !genOk x) Tryz.call139 (fun x hx => check2 x)) ?_
  refine XO.q (Q.or rfl (fun hp => lzv hp rfl)) ?_
  refine XO.q (Q.assign rfl) (XO.done ?_)
  refine XK.if rfl (fun c1 => ?_) (fun c1 => ?_)
  ·skip
   refine XK.seq (XK.region rfl (XO.q (Q.assign rfl) (XO.done ?_)))
   refine XK.rt [] Tryz.func77 Tryz.results77 (.t rfl .n) ?_
   exact ⟨by rw [bcheck, if_neg (by omega), if_pos (by simpa using c1)], rfl⟩
  ·skip
   refine XK.skip ?_
   refine XK.inBlock ?_
   refine XK.seq (XK.region rfl (XO.q (Q.assign rfl) (XO.done ?_)))
   refine XK.rt [] Tryz.func77 Tryz.results77 (.t rfl .n) ?_
   exact ⟨by rw [bcheck, if_neg (by omega), if_neg (by simpa using c1)], rfl⟩
end Go.X.Bk

set_option linter.unusedSimpArgs false
set_option linter.unusedVariables false
set_option maxRecDepth 20000
namespace Go.X.Bk
open Go.Proofs
theorem mul_le {a b m n : Int} (h1 : 0 ≤ a) (h2 : a ≤ m) (h3 : 0 ≤ b) (h4 : b ≤ n) : 0 ≤ a * b ∧ a * b ≤ m * n :=
 ⟨Int.mul_nonneg h1 h3, Int.mul_le_mul h2 h4 h3 (by omega)⟩
theorem start_spec (g : BGen) (gk : GenOk g) (f : Int) (hf : 0 ≤ f) (hf1 : f ≤ g.tries) : Spec Tryz.prog 175 #[genV g, .int .i64 f] [] [] (fun v hs => v = .int .i64 (startP g f) ∧ hs = []) := by
 have q1 := gk.t1
 have m1 := mul_le (a := f + 1) (b := g.delay) (m := 6) (n := 3600) (by omega) (by omega) gk.d0 gk.d1
 have m2 := mul_le (a := f) (b := g.pause) (m := 5) (n := 3600) (by omega) (by omega) gk.q0 gk.q1
 refine Spec.intro (fn := Tryz.f175) (N := 19) Tryz.func175 rfl Tryz.ntmps175 rfl fun B => ?_
 refine XK.seq (XK.region rfl ?_)
 refine XO.box rfl fun b2 => ?_
 refine XO.q (Q.assign rfl) (XO.done (XK.seq (XK.seq (XK.region rfl (XO.q (Q.move rfl) ?_)))))
 refine XO.q (Q.fieldAddr rfl) ?_
 refine XO.q (Q.ld rfl rfl) ?_
 refine XO.q (Q.eql rfl rfl) ?_
 refine XO.done ?_
 refine XK.if rfl (fun c0 => ?_) (fun c0 => ?_)
 ·skip
  refine XK.seq (XK.region rfl (XO.q (Q.assign rfl) (XO.done ?_)))
  refine XK.rt [] Tryz.func175 Tryz.results175 (.t rfl .n) ?_
  exact ⟨by rw [startP, if_pos c0], rfl⟩
 ·skip
  refine XK.skip (XK.seq (XK.region rfl (XO.q (Q.move rfl) ?_)))
  refine XO.q (Q.add rfl rfl ⟨by omega, by omega⟩) ?_
  refine XO.q (Q.fieldAddr rfl) ?_
  refine XO.q (Q.ld rfl rfl) ?_
  refine XO.q (Q.mul rfl rfl ⟨by omega, by omega⟩) ?_
  refine XO.q (Q.move rfl) ?_
  refine XO.q (Q.fieldAddr rfl) ?_
  refine XO.q (Q.ld rfl rfl) ?_
  refine XO.q (Q.mul rfl rfl ⟨by omega, by omega⟩) ?_
  refine XO.q (Q.add rfl rfl ⟨by omega, by omega⟩) ?_
  refine XO.q (Q.assign rfl) (XO.done ?_)
  refine XK.rt [] Tryz.func175 Tryz.results175 (.t rfl .n) ?_
  exact ⟨by rw [startP, if_neg c0], rfl⟩
theorem loaded_spec (l : List BSpan) (vl : Value) (hl : PHeap) [il : Arr vl encSpan 2 hl l] : Spec Tryz.prog 129 #[vl] [] [hl] (fun v hs => v = .tuple #[.int .i64 (loadedP l).1, .int .i64 (loadedP l).2] ∧ hs = []) := by
 have ll := il.le
 refine Spec.intro (fn := Tryz.f129) (N := 39) Tryz.func129 rfl Tryz.ntmps129 rfl fun B => ?_
 refine XK.seq (XK.region rfl (XO.q (Q.assign rfl) (XO.q (Q.assign rfl) (XO.done (XK.seq ?_)))))
 refine XK.seq (XK.region rfl (XO.q (Q.move rfl) ?_))
 refine XO.len rfl fun l8 => ?_
 refine XO.q (Q.gtr rfl rfl) ?_
 refine XO.done ?_
 refine XK.if rfl (fun c0 => ?_) (fun c0 => ?_)
 ·skip
  refine XK.seq (XK.region rfl (XO.q (Q.assign rfl) (XO.q (Q.assign rfl) (XO.done ?_))))
  refine XK.rt [] Tryz.func129 Tryz.results129 (.t rfl (.t rfl .n)) ?_
  exact ⟨by rw [loadedP, if_pos (by omega)], rfl⟩
 ·skip
  refine XK.skip (XK.seq (XK.region rfl (XO.q (Q.assign rfl) (XO.done (XK.seq ?_)))))
  refine XK.seq (XK.region rfl (XO.q (Q.move rfl) ?_))
  refine XO.len rfl fun l11 => ?_
  refine XO.q (Q.move rfl) (XO.done (XK.block ?_))
  refine XK.while (X := Nat) [2, 3, 4, 6, 12, 13, 14, 15, 16, 17, 18, 19, 20, 21, 22, 23, 24, 25, 26, 27, 28, 29, 30, 31, 32, 33, 34, 35] (fun i => [(4, some (.int .i64 (secs l i))), (12, some (.int .i64 (i : Nat)))]) (fun i => []) (fun i => i ≤ l.length ∧ i ≤ 64 ∧ (l.take i).any badSpan = false ∧ 0 ≤ secs l i ∧ secs l i ≤ 3600 * i) (fun i => l.length - i) (0) [] rfl ⟨by omega, by omega, rfl, by simp [secs], by simp [secs]⟩ (.c rfl (.c rfl (.base 0 rfl rfl))) ?_
  rintro i ⟨hi, hi2, ha, hs0, hs1⟩ ih0
  dsimp only [lcA, lnA] at ih0 ⊢
  refine XK.seq (XK.region rfl ?_)
  refine XO.q (Q.lss rfl rfl) ?_
  refine XO.done (XK.seq ?_)
  refine XK.if rfl (fun c1 => ?_) (fun c1 => ?_)
  ·skip
   refine XK.skip (XK.seq (XK.block (XK.seq (XK.region rfl ?_))))
   refine XO.ix rfl rfl (by omega) (by omega) fun i14 => ?_
   refine XO.q (Q.ldEA [_, _] rfl (by first | assumption | omega) rfl rfl) ?_
   refine XO.alloc fun b6 => ?_
   refine XO.st rfl rfl rfl ?_
   refine XO.done (XK.seq (XK.seq (XK.region rfl ?_)))
   refine XO.q (Q.fieldAddr rfl) ?_
   refine XO.q (Q.ld rfl rfl) ?_
   refine XO.q (Q.lss rfl rfl) ?_
   refine XO.q (Q.move rfl) ?_
   refine XO.q (Quiet.guardF rfl rfl fun g20 p20 => Q.fieldAddr rfl) ?_
   refine XO.q (Quiet.guardF rfl rfl fun g21 p21 => Q.ld (lzv g21 rfl) rfl) ?_
   refine XO.q (Quiet.guardF rfl rfl fun g22 p22 => Q.gtr (lzv g22 rfl) rfl) ?_
   refine XO.q (Q.or rfl (fun hp => lzv hp rfl)) ?_
   refine XO.q (Q.move rfl) ?_
   refine XO.q (Quiet.guardF rfl rfl fun g25 p25 => Q.fieldAddr rfl) ?_
   refine XO.q (Quiet.guardF rfl rfl fun g26 p26 => Q.ld (lzv g26 rfl) rfl) ?_
   refine XO.lit1 [_] [_] [(l.getD i default).power] encI rfl rfl (by rfl) (by rfl) rfl (by rfl) (fun g27 => by exact .c 0 1 (lzv g27 rfl) rfl rfl (.n _)) (fun _ => rfl) (by rfl) rfl (fun _ => by infer_instance) rfl (fun v27 h27 O27 => ?_)
   refine XO.gcallF rfl rfl Tryz.call78 rfl (fun g28 => .c rfl (.c (lzv g28 rfl) .n)) rfl (fun g28 p28 => by haveI := O27 g28; exact within_spec 1000000 v27 h27 [(l.getD i default).power]) ?_
   refine XO.q (Quiet.guardF rfl rfl fun g29 p29 => Q.not (lzv g29 rfl)) ?_
   refine XO.q (Q.or rfl (fun hp => lzv hp rfl)) ?_
   refine XO.done ?_
   refine XK.if rfl (fun c2 => ?_) (fun c2 => ?_)
   ·skip
    refine XK.seq (XK.region rfl (XO.q (Q.assign rfl) (XO.q (Q.assign rfl) (XO.done ?_))))
    refine XK.rt [] Tryz.func129 Tryz.results129 (.t rfl (.t rfl .n)) ?_
    have hb : badSpan (l.getD i default) = true := by simpa [badSpan, or_assoc] using c2
    exact ⟨by rw [loadedP, if_neg (by omega), if_pos (List.any_eq_true.2 ⟨_, getD_mem (by omega), hb⟩)], rfl⟩
   ·skip
    have bs : badSpan (l.getD i default) = false := by
     rw [Bool.eq_false_iff]
     exact fun hh => c2 (by simpa [badSpan, or_assoc] using hh)
    have bt := badSpan_false.1 bs
    refine XK.skip (XK.region rfl (XO.q (Q.move rfl) ?_))
    refine XO.q (Q.fieldAddr rfl) ?_
    refine XO.q (Q.ld rfl rfl) ?_
    refine XO.q (Q.add rfl rfl ⟨by omega, by omega⟩) ?_
    refine XO.q (Q.assign rfl) (XO.done ?_)
    refine XK.inBlock ?_
    refine XK.region rfl ?_
    refine XO.q (Q.add rfl rfl ⟨by omega, by omega⟩) ?_
    refine XO.q (Q.move rfl) (XO.done ?_)
    exact ih0 (i + 1) _ _ ⟨by omega, by omega, any_step ha (by omega) bs, by rw [secs]; omega, by rw [secs]; omega⟩ (by first | omega | (dsimp only; omega)) (.c rfl (.c rfl (.base 56 rfl rfl))) inferInstance
  ·skip
   refine XK.exit rfl ?_
   refine XK.seq (XK.seq (XK.region rfl (XO.q (Q.move rfl) ?_)))
   refine XO.q (Q.gtr rfl rfl) ?_
   refine XO.done ?_
   refine XK.if rfl (fun c3 => ?_) (fun c3 => ?_)
   ·skip
    refine XK.seq (XK.region rfl (XO.q (Q.assign rfl) (XO.q (Q.assign rfl) (XO.done ?_))))
    refine XK.rt [] Tryz.func129 Tryz.results129 (.t rfl (.t rfl .n)) ?_
    have hil : i = l.length := by omega
    subst hil
    rw [List.take_length] at ha
    exact ⟨by rw [loadedP, if_neg (by omega), if_neg (by rw [ha]; decide), if_pos (by omega)], rfl⟩
   ·skip
    refine XK.skip (XK.seq (XK.region rfl (XO.q (Q.move rfl) (XO.q (Q.assign rfl) (XO.q (Q.assign rfl) ?_)))))
    refine XO.done ?_
    refine XK.rt [] Tryz.func129 Tryz.results129 (.t rfl (.t rfl .n)) ?_
    have hil : i = l.length := by omega
    subst hil
    rw [List.take_length] at ha
    exact ⟨by rw [loadedP, if_neg (by omega), if_neg (by rw [ha]; decide), if_neg (by omega)], rfl⟩
theorem fit_spec (b : BBank) (vb vg : Value) (hb hg : PHeap) [ib : Arr vb encBat 4 hb b.bats] [ig : Arr vg encGen 5 hg b.gens] (fs : List Int) (vf : Value) (hf : PHeap) [jf : Arr vf encI 1 hf fs] : Spec Tryz.prog 130 #[.agg #[vb, vg], vf] [] [hb, hg, hf] (fun v hs => v = .bool (fitP b fs) ∧ hs = []) := by
 have lg := ig.le
 have lf := jf.le
 refine Spec.intro (fn := Tryz.f130) (N := 36) Tryz.func130 rfl Tryz.ntmps130 rfl fun B => ?_
 refine XK.seq (XK.region rfl ?_)
 refine XO.box rfl fun b2 => ?_
 refine XO.q (Q.assign rfl) (XO.done (XK.seq (XK.seq (XK.region rfl (XO.q (Q.move rfl) ?_)))))
 refine XO.len rfl fun l8 => ?_
 refine XO.q (Q.fieldAddr rfl) ?_
 refine XO.q (Q.ld rfl rfl) ?_
 refine XO.len rfl fun l11 => ?_
 refine XO.q (Q.neq rfl rfl) ?_
 refine XO.done ?_
 refine XK.if rfl (fun c0 => ?_) (fun c0 => ?_)
 ·skip
  refine XK.seq (XK.region rfl (XO.q (Q.assign rfl) (XO.done ?_)))
  refine XK.rt [] Tryz.func130 Tryz.results130 (.t rfl .n) ?_
  exact ⟨by rw [fitP, decide_eq_false (by omega)]; rfl, rfl⟩
 ·skip
  refine XK.skip (XK.seq (XK.seq (XK.region rfl ?_)))
  refine XO.q (Q.fieldAddr rfl) ?_
  refine XO.q (Q.ld rfl rfl) ?_
  refine XO.len rfl fun l15 => ?_
  refine XO.q (Q.move rfl) (XO.done (XK.block ?_))
  refine XK.while (X := Nat) [4, 5, 6, 16, 17, 18, 19, 20, 21, 22, 23, 24, 25, 26, 27, 28, 29, 30, 31, 32, 33, 34, 35] (fun i => [(16, some (.int .i64 (i : Nat)))]) (fun i => []) (fun i => i ≤ b.gens.length ∧ allTo (fun i => !badFail b fs i) i = true) (fun i => b.gens.length - i) (0) [] rfl ⟨by omega, rfl⟩ (.c rfl (.base 0 rfl rfl)) ?_
  rintro i ⟨hi, ha⟩ ih0
  dsimp only [lcA, lnA] at ih0 ⊢
  refine XK.seq (XK.region rfl ?_)
  refine XO.q (Q.lss rfl rfl) ?_
  refine XO.done (XK.seq ?_)
  refine XK.if rfl (fun c1 => ?_) (fun c1 => ?_)
  ·skip
   refine XK.skip (XK.seq (XK.block (XK.seq (XK.region rfl (XO.q (Q.move rfl) ?_)))))
   refine XO.ix rfl rfl (by omega) (by omega) fun i19 => ?_
   refine XO.q (Q.ldEA [_, _, _, _, _] rfl (by first | assumption | omega) rfl rfl) ?_
   refine XO.alloc fun b6 => ?_
   refine XO.q (Q.assign rfl) ?_
   refine XO.st rfl rfl rfl ?_
   refine XO.done (XK.seq ?_)
   refine XK.drawn [0, 1, 2, 3, 4, 5, 6, 7, 8, 9, 10, 11, 12, 13] [b6] [] (.q 0 (.q 1 (.q 2 (.q 3 (.q 4 (.q 5 (.q 6 (.q 7 (.q 8 (.q 9 (.q 10 (.q 11 (.q 12 (.q 13 .done)))))))))))))) Tryz.mixed rfl (by kernel_rfl) ?_
   refine XT.q rfl rfl (Q.move rfl) ?_
   refine XT.q rfl rfl (Q.move rfl) ?_
   refine XT.ix rfl rfl rfl rfl (by omega) (by omega) fun i23 => ?_
   refine XT.q rfl rfl (Q.ldE rfl (by first | assumption | omega) rfl) ?_
   refine XT.q rfl rfl (Q.lss rfl rfl) ?_
   refine XT.q rfl rfl (Q.move rfl) ?_
   refine XT.q rfl rfl (Quiet.guardF rfl rfl fun g27 p27 => Q.move rfl) ?_
   refine XT.q rfl rfl (Quiet.guardF rfl rfl fun g28 p28 => Q.move rfl) ?_
   refine XT.q rfl rfl (Quiet.guardF rfl rfl fun g29 p29 => Q.ix (lzv g29 rfl) (lzv g29 rfl) (by omega) (by omega)) ?_
   refine XT.q rfl rfl (Quiet.guardF rfl rfl fun g30 p30 => Q.ldE (lzv g30 rfl) (by first | assumption | omega) rfl) ?_
   refine XT.q rfl rfl (Quiet.guardF rfl rfl fun g31 p31 => Q.fieldAddr rfl) ?_
   refine XT.q rfl rfl (Quiet.guardF rfl rfl fun g32 p32 => Q.ld (lzv g32 rfl) rfl) ?_
   refine XT.q rfl rfl (Quiet.guardF rfl rfl fun g33 p33 => Q.gtr (lzv g33 rfl) (lzv g33 rfl)) ?_
   refine XT.q rfl rfl (Q.or rfl (fun hp => lzv hp rfl)) ?_
   refine XT.done ?_
   refine XK.if rfl (fun c2 => ?_) (fun c2 => ?_)
   ·skip
    refine XK.seq (XK.region rfl (XO.q (Q.assign rfl) (XO.done ?_)))
    refine XK.rt [] Tryz.func130 Tryz.results130 (.t rfl .n) ?_
    have hb : badFail b fs i = true := by simpa [badFail] using c2
    exact ⟨by rw [fitP, allTo_false (s := i) (by omega) (by rw [hb]; rfl), Bool.and_false], rfl⟩
   ·skip
    refine XK.skip ?_
    refine XK.inBlock ?_
    refine XK.region rfl ?_
    refine XO.q (Q.add rfl rfl ⟨by omega, by omega⟩) ?_
    refine XO.q (Q.move rfl) (XO.done ?_)
    exact ih0 (i + 1) _ _ ⟨by omega, by rw [allTo_succ, ha, Bool.true_and, Bool.not_eq_true', Bool.eq_false_iff]; exact fun hh => c2 (by simpa [badFail] using hh)⟩ (by first | omega | (dsimp only; omega)) (.c rfl (.base 46 rfl rfl)) inferInstance
  ·skip
   refine XK.exit rfl ?_
   refine XK.seq (XK.region rfl (XO.q (Q.assign rfl) (XO.done ?_)))
   refine XK.rt [] Tryz.func130 Tryz.results130 (.t rfl .n) ?_
   have hil : i = b.gens.length := by omega
   subst hil
   exact ⟨by rw [fitP, ha, decide_eq_true (by omega)]; rfl, rfl⟩
theorem ready_spec (b : BBank) (vb vg : Value) (hb hg : PHeap) [ib : Arr vb encBat 4 hb b.bats] [ig : Arr vg encGen 5 hg b.gens] (l : List BSpan) (vl : Value) (hl : PHeap) [il : Arr vl encSpan 2 hl l] (fs : List Int) (vf : Value) (hf : PHeap) [jf : Arr vf encI 1 hf fs] : Spec Tryz.prog 75 #[.agg #[vb, vg], vl, vf] [] [hb, hg, hl, hf] (fun v hs => v = .int .i64 (readyP b l fs) ∧ hs = []) := by
 refine Spec.intro (fn := Tryz.f75) (N := 27) Tryz.func75 rfl Tryz.ntmps75 rfl fun B => ?_
 refine XK.seq (XK.region rfl ?_)
 refine XO.box rfl fun b3 => ?_
 refine XO.q (Q.assign rfl) (XO.done (XK.seq (XK.seq (XK.region rfl ?_))))
 refine XO.q (Q.ldA [_, _] rfl rfl rfl) ?_
 refine XO.call Tryz.call77 rfl rfl rfl (Check_spec b vb vg hb hg) fun v11 s11 R11 => ?_
 obtain ⟨rfl, rfl⟩ := R11
 dsimp only [lcA, lnA]
 refine XO.q (Q.assign rfl) (XO.done (XK.seq (XK.region rfl (XO.q (Q.move rfl) ?_))))
 refine XO.q (Q.neq rfl rfl) ?_
 refine XO.done ?_
 refine XK.if rfl (fun c0 => ?_) (fun c0 => ?_)
 ·skip
  refine XK.seq (XK.region rfl (XO.q (Q.move rfl) (XO.q (Q.assign rfl) (XO.done ?_))))
  refine XK.rt [] Tryz.func75 Tryz.results75 (.t rfl .n) ?_
  exact ⟨by rw [readyP, if_pos c0], rfl⟩
 ·skip
  refine XK.skip (XK.seq (XK.seq (XK.region rfl (XO.q (Q.move rfl) ?_))))
  refine XO.call Tryz.call129 rfl rfl rfl (loaded_spec l vl hl) fun v17 s17 R17 => ?_
  obtain ⟨rfl, rfl⟩ := R17
  dsimp only [lcA, lnA]
  refine XO.q (Q.move rfl) ?_
  refine XO.q (Q.extract rfl rfl) ?_
  refine XO.q (Q.extract rfl rfl) ?_
  refine XO.q (Q.assign rfl) (XO.q (Q.assign rfl) (XO.done (XK.seq (XK.region rfl (XO.q (Q.move rfl) ?_)))))
  refine XO.q (Q.neq rfl rfl) ?_
  refine XO.done ?_
  refine XK.if rfl (fun c1 => ?_) (fun c1 => ?_)
  ·skip
   refine XK.seq (XK.region rfl (XO.q (Q.move rfl) (XO.q (Q.assign rfl) (XO.done ?_))))
   refine XK.rt [] Tryz.func75 Tryz.results75 (.t rfl .n) ?_
   exact ⟨by rw [readyP, if_neg c0, if_pos c1], rfl⟩
  ·skip
   refine XK.skip (XK.seq (XK.seq (XK.region rfl ?_)))
   refine XO.q (Q.ldA [_, _] rfl rfl rfl) ?_
   refine XO.q (Q.move rfl) ?_
   refine XO.call Tryz.call130 rfl rfl rfl (fit_spec b vb vg hb hg fs vf hf) fun v25 s25 R25 => ?_
   obtain ⟨rfl, rfl⟩ := R25
   dsimp only [lcA, lnA]
   refine XO.q (Q.not rfl) ?_
   refine XO.done ?_
   refine XK.if rfl (fun c2 => ?_) (fun c2 => ?_)
   ·skip
    refine XK.seq (XK.region rfl (XO.q (Q.assign rfl) (XO.done ?_)))
    refine XK.rt [] Tryz.func75 Tryz.results75 (.t rfl .n) ?_
    exact ⟨by rw [readyP, if_neg c0, if_neg c1, if_pos (by simpa using c2)], rfl⟩
   ·skip
    refine XK.skip (XK.seq (XK.region rfl (XO.q (Q.assign rfl) (XO.done ?_))))
    refine XK.rt [] Tryz.func75 Tryz.results75 (.t rfl .n) ?_
    exact ⟨by rw [readyP, if_neg c0, if_neg c1, if_neg (by simpa using c2)], rfl⟩
end Go.X.Bk

set_option linter.unusedSimpArgs false
set_option linter.unusedVariables false
set_option maxRecDepth 20000
namespace Go.X.Bk
open Go.Proofs
theorem can_spec (p : Nat) (vb vg vs vc vn : Value) [ob : One vb] [oc : One vc] [on : One vn] (sv : Int) (gens : List BGen) (sts : List Int) (pk : PlayOk gens sts) (hg hs : PHeap) [ig : Arr vg encGen 5 hg gens] [is : Arr vs encI 1 hs sts] (i : Nat) (hi : i < sts.length) (t : Int) (ht0 : 0 ≤ t) (ht : t ≤ 20000) :
  Spec Tryz.prog 179 #[ptr p 0, .int .i64 (i : Nat), .int .i64 t] [] [blk p [vb, vg, vs, vc, vn, .int .i64 (sv)] 282, hg, hs] (fun v hs => v = .int .i64 (canAt gens sts t i) ∧ hs = []) := by
 have lg := ig.le
 have ls := is.le
 have hn := pk.n
 have hs1 := pk.s i hi
 have gk := pk.g _ (getD_memB (show i < gens.length by omega))
 have gr0 := gk.r0
 have gr1 := gk.r1
 refine Spec.intro (fn := Tryz.f179) (N := 41) Tryz.func179 rfl Tryz.ntmps179 rfl fun B => ?_
 refine XK.seq (XK.region rfl (XO.q (Q.assign rfl) (XO.done (XK.seq ?_))))
 refine XK.drawn [0, 1, 2, 3, 4, 5, 6, 7, 8, 9, 10, 11, 12, 13, 14, 17] [p] [] (.q 0 (.q 1 (.q 2 (.q 3 (.q 4 (.q 5 (.q 6 (.q 7 (.q 8 (.q 9 (.q 10 (.q 11 (.q 12 (.q 13 (.q 14 (.br 15 true (.br 16 true (.q 17 .done) .stop) .stop)))))))))))))))) Tryz.mixed rfl (by kernel_rfl) ?_
 refine XT.q rfl rfl (Q.move rfl) ?_
 refine XT.q rfl rfl (Q.nilCheck rfl) ?_
 refine XT.q rfl rfl (Q.fieldAddr rfl) ?_
 refine XT.q rfl rfl (Q.fieldAddr rfl) ?_
 refine XT.q rfl rfl (Q.ld rfl rfl) ?_
 refine XT.q rfl rfl (Q.move rfl) ?_
 refine XT.ix rfl rfl rfl rfl (by omega) (by omega) fun i15 => ?_
 refine XT.q rfl rfl (Q.ldEA [_, _, _, _, _] rfl (by first | assumption | omega) rfl rfl) ?_
 refine XT.q rfl rfl (Q.move rfl) ?_
 refine XT.q rfl rfl (Q.nilCheck rfl) ?_
 refine XT.q rfl rfl (Q.fieldAddr rfl) ?_
 refine XT.q rfl rfl (Q.ld rfl rfl) ?_
 refine XT.q rfl rfl (Q.move rfl) ?_
 refine XT.ix rfl rfl rfl rfl (by omega) (by omega) fun i22 => ?_
 refine XT.q rfl rfl (Q.ldE rfl (by first | assumption | omega) rfl) ?_
 refine XT.alloc rfl rfl (fun b7 => ⟨inferInstance, ?_⟩) XT.stop
 refine XT.st rfl rfl rfl rfl rfl ⟨inferInstance, ?_⟩ XT.stop
 refine XT.q rfl rfl (Q.assign rfl) ?_
 refine XT.done ?_
 refine XK.seq (XK.seq (XK.region rfl (XO.q (Q.move rfl) ?_)))
 refine XO.q (Q.lss rfl rfl) ?_
 refine XO.q (Q.move rfl) ?_
 refine XO.q (Quiet.guardF rfl rfl fun g27 p27 => Q.move rfl) ?_
 refine XO.q (Quiet.guardF rfl rfl fun g28 p28 => Q.move rfl) ?_
 refine XO.q (Quiet.guardF rfl rfl fun g29 p29 => Q.lss (lzv g29 rfl) (lzv g29 rfl)) ?_
 refine XO.q (Q.or rfl (fun hp => lzv hp rfl)) ?_
 refine XO.done ?_
 refine XK.if rfl (fun c0 => ?_) (fun c0 => ?_)
 ·skip
  refine XK.seq (XK.region rfl (XO.q (Q.assign rfl) (XO.done ?_)))
  refine XK.rt [] Tryz.func179 Tryz.results179 (.t rfl .n) ?_
  exact ⟨by rw [canAt, canP, if_pos c0], rfl⟩
 ·skip
  refine XK.skip (XK.seq (XK.region rfl ?_))
  refine XO.q (Q.fieldAddr rfl) ?_
  refine XO.q (Q.ld rfl rfl) ?_
  refine XO.q (Q.fieldAddr rfl) ?_
  refine XO.q (Q.ld rfl rfl) ?_
  refine XO.q (Q.move rfl) (XO.q (Q.move rfl) ?_)
  refine XO.q (Q.sub rfl rfl ⟨by omega, by omega⟩) ?_
  have m := mulLe (a := (gens.getD i default).ramp) (b := t - sts.getD i default + 1) (m := 1000000) (n := 20002) gk.r0 gk.r1 (by omega) (by omega)
  refine XO.q (Q.add rfl rfl ⟨by omega, by omega⟩) ?_
  refine XO.q (Q.mul rfl rfl ⟨by omega, by omega⟩) ?_
  refine XO.q (Q.min rfl rfl) ?_
  refine XO.q (Q.assign rfl) (XO.done ?_)
  refine XK.rt [] Tryz.func179 Tryz.results179 (.t rfl .n) ?_
  exact ⟨by rw [canAt, canP, if_neg c0], rfl⟩
theorem generate_spec (p : Nat) (vb vg vs vc vn : Value) [ob : One vb] [oc : One vc] [on : One vn] (sv : Int) (gens : List BGen) (sts : List Int) (pk : PlayOk gens sts) (hg hs : PHeap) [ig : Arr vg encGen 5 hg gens] [is : Arr vs encI 1 hs sts] (t : Int) (ht0 : 0 ≤ t) (ht : t ≤ 20000) (need : Int) (hn0 : 0 ≤ need) (hn1 : need ≤ 6000000) (vu : Value) (hu : PHeap) (us : List Int) [iu : OArr vu encI 1 3 hu us] (uk : UsedOk (canAt gens sts t) sts.length us) :
  Spec Tryz.prog 177 #[ptr p 0, .int .i64 t, .int .i64 need, vu] [hu] [blk p [vb, vg, vs, vc, vn, .int .i64 (sv)] 282, hg, hs] (fun v hs' => ∃ h', v = .int .i64 (genTo (canAt gens sts t) us need sts.length).2 ∧ hs' = [h'] ∧ OArr vu encI 1 3 h' (genTo (canAt gens sts t) us need sts.length).1) := by
 have ls := is.le
 have hall := fun i hi => genTo_ok uk hn0 i hi
 have hcan := fun j hj => canAt_ok (i := j) pk ht hj
 refine Spec.intro (fn := Tryz.f177) (N := 42) Tryz.func177 rfl Tryz.ntmps177 rfl fun B => ?_
 refine XK.seq (XK.region rfl (XO.q (Q.assign rfl) (XO.done (XK.seq (XK.seq ?_)))))
 refine XK.region rfl (XO.q (Q.move rfl) ?_)
 refine XO.q (Q.nilCheck rfl) ?_
 refine XO.q (Q.fieldAddr rfl) ?_
 refine XO.q (Q.ld rfl rfl) ?_
 refine XO.len rfl fun l15 => ?_
 refine XO.q (Q.move rfl) (XO.done (XK.block ?_))
 refine XK.while (X := Nat × PHeap) [2, 9, 10, 16, 17, 18, 19, 20, 21, 22, 23, 24, 25, 26, 27, 28, 29, 30, 31, 32, 33, 34, 35, 36, 37, 38, 39, 40] (fun ⟨i, ku⟩ => [(2, some (.int .i64 ((genTo (canAt gens sts t) us need (i)).2))), (16, some (.int .i64 (i : Nat)))]) (fun ⟨i, ku⟩ => [ku]) (fun ⟨i, ku⟩ => i ≤ sts.length ∧ OArr vu encI 1 3 ku (genTo (canAt gens sts t) us need (i)).1) (fun ⟨i, ku⟩ => sts.length - i) (0, hu) [hu] rfl ⟨by omega, iu⟩ (.c rfl (.c rfl (.base 0 rfl rfl))) ?_
 rintro ⟨i, ku⟩ ⟨hi, OU⟩ ih0
 dsimp only [lcA, lnA] at ih0 ⊢
 obtain ⟨uk1, un0, un1⟩ := hall i hi
 have ul := uk1.len
 refine XK.seq (XK.region rfl ?_)
 refine XO.q (Q.lss rfl rfl) ?_
 refine XO.done (XK.seq ?_)
 refine XK.if rfl (fun c0 => ?_) (fun c0 => ?_)
 ·skip
  have ub := uk1.b i (by omega)
  have cb := hcan i (by omega)
  refine XK.skip (XK.seq (XK.block (XK.seq (XK.region rfl (XO.q (Q.move rfl) ?_)))))
  refine XO.q (Q.assign rfl) (XO.done (XK.seq ?_))
  refine XK.drawn [0, 1, 2, 3, 5, 6, 7, 8, 9, 10, 11] [] [ku] (.q 0 (.q 1 (.q 2 (.q 3 (.q 5 (.q 6 (.q 7 (.q 8 (.br 4 true (.q 9 (.q 10 (.q 11 .done))) .stop))))))))) Tryz.mixed rfl (by kernel_rfl) ?_
  refine XT.q rfl rfl (Q.move rfl) ?_
  refine XT.q rfl rfl (Q.move rfl) ?_
  refine XT.q rfl rfl (Q.move rfl) ?_
  refine XT.q rfl rfl (Q.move rfl) ?_
  refine XT.q rfl rfl (Q.move rfl) ?_
  refine XT.q rfl rfl (Q.move rfl) ?_
  refine XT.ix rfl rfl rfl rfl (by omega) (by omega) fun i26 => ?_
  refine XT.q rfl rfl (Q.ldE rfl (by first | assumption | omega) rfl) ?_
  refine XT.call rfl rfl Tryz.call179 rfl rfl rfl (can_spec p vb vg vs vc vn sv gens sts pk hg hs i (by omega) t ht0 ht) (fun v23 s23 R23 => ?_) XT.stop
  obtain ⟨rfl, rfl⟩ := R23
  dsimp only [lcA, lnA]
  refine ⟨inferInstance, ?_⟩
  refine XT.q rfl rfl (Q.sub rfl rfl ⟨by omega, by omega⟩) ?_
  refine XT.q rfl rfl (Q.min rfl rfl) ?_
  refine XT.q rfl rfl (Q.assign rfl) ?_
  refine XT.done ?_
  refine XK.seq (XK.region rfl (XO.q (Q.move rfl) (XO.q (Q.move rfl) ?_)))
  refine XO.ix rfl rfl (by omega) (by omega) fun i32 => ?_
  refine XO.q (Q.ldE rfl (by first | assumption | omega) rfl) ?_
  refine XO.q (Q.move rfl) ?_
  refine XO.q (Q.add rfl rfl ⟨by omega, by omega⟩) ?_
  refine XO.ix rfl rfl (by omega) (by omega) fun i36 => ?_
  refine XO.stE _ rfl rfl rfl (by assumption) rfl rfl fun h5_7 O5_7 => ?_
  refine XO.done (XK.region rfl (XO.q (Q.move rfl) (XO.q (Q.move rfl) ?_)))
  refine XO.q (Q.sub rfl rfl ⟨by omega, by omega⟩) ?_
  refine XO.q (Q.assign rfl) (XO.done ?_)
  refine XK.inBlock ?_
  refine XK.region rfl ?_
  refine XO.q (Q.add rfl rfl ⟨by omega, by omega⟩) ?_
  refine XO.q (Q.move rfl) (XO.done ?_)
  exact ih0 (i + 1, h5_7) _ _ ⟨by dsimp only; omega, by dsimp only; exact O5_7⟩ (by first | omega | (dsimp only; omega)) (.c rfl (.c rfl (.base 58 rfl rfl))) inferInstance
 ·skip
  have hil : i = sts.length := by omega
  subst hil
  refine XK.exit rfl ?_
  refine XK.seq (XK.region rfl (XO.q (Q.move rfl) (XO.q (Q.assign rfl) (XO.done ?_))))
  refine XK.rt [ku] Tryz.func177 Tryz.results177 (.t rfl .n) ?_
  exact ⟨ku, rfl, rfl, OU⟩
theorem give_spec (v : Value) (h : PHeap) (cs : List BCell) [ic : OArr v encCell 5 329 h cs] (i : Nat) (hi : i < cs.length) (ck : CellOk (cs.getD i default)) (need : Int) (hn0 : 0 ≤ need) (hn1 : need ≤ 6000000) :
  Spec Tryz.prog 178 #[pat v 5 i 0, .int .i64 need] [h] [] (fun v' hs => ∃ h', v' = .int .i64 (giveC (cs.getD i default) need) ∧ hs = [h'] ∧ OArr v encCell 5 329 h' (cs.set i { bat := (cs.getD i default).bat, now := (cs.getD i default).now - giveC (cs.getD i default) need })) := by
 have g := giveC_ok ck hn0
 have n0 := ck.n0
 have nf := ck.nf
 have f1 := ck.f1
 unfold giveC at g
 refine Spec.intro (fn := Tryz.f178) (N := 26) Tryz.func178 rfl Tryz.ntmps178 rfl fun B => ?_
 refine XK.seq (XK.region rfl (XO.q (Q.assign rfl) (XO.done (XK.seq ?_))))
 refine XK.drawn [0, 1, 2, 3, 4, 5, 6, 7, 8, 9, 10, 11] [] [h] (.q 0 (.q 1 (.q 2 (.q 3 (.q 4 (.q 5 (.q 6 (.q 7 (.q 8 (.q 9 (.q 10 (.q 11 .done)))))))))))) Tryz.mixed rfl (by kernel_rfl) ?_
 refine XT.q rfl rfl (Q.move rfl) ?_
 refine XT.q rfl rfl (Q.nilCheckE rfl (by first | assumption | omega)) ?_
 refine XT.q rfl rfl (Q.fieldQ rfl (by first | assumption | omega)) ?_
 refine XT.q rfl rfl (Q.fieldQ rfl (by first | assumption | omega)) ?_
 refine XT.q rfl rfl (Q.ldE rfl (by first | assumption | omega) rfl) ?_
 refine XT.q rfl rfl (Q.move rfl) ?_
 refine XT.q rfl rfl (Q.nilCheckE rfl (by first | assumption | omega)) ?_
 refine XT.q rfl rfl (Q.fieldQ rfl (by first | assumption | omega)) ?_
 refine XT.q rfl rfl (Q.ldE rfl (by first | assumption | omega) rfl) ?_
 refine XT.q rfl rfl (Q.move rfl) ?_
 refine XT.q rfl rfl (Q.min3 rfl rfl rfl) ?_
 refine XT.q rfl rfl (Q.assign rfl) ?_
 refine XT.done ?_
 refine XK.seq (XK.region rfl (XO.q (Q.move rfl) ?_))
 refine XO.q (Q.nilCheckE rfl (by first | assumption | omega)) ?_
 refine XO.q (Q.fieldQ rfl (by first | assumption | omega)) ?_
 refine XO.q (Q.ldE rfl (by first | assumption | omega) rfl) ?_
 refine XO.q (Q.move rfl) ?_
 refine XO.q (Q.sub rfl rfl ⟨by omega, by omega⟩) ?_
 refine XO.q (Q.nilCheckE rfl (by first | assumption | omega)) ?_
 refine XO.q (Q.fieldQ rfl (by first | assumption | omega)) ?_
 refine XO.stE { bat := (cs.getD i default).bat, now := (cs.getD i default).now - giveC (cs.getD i default) need } rfl rfl rfl (by assumption) rfl rfl fun h2_8 O2_8 => ?_
 refine XO.done (XK.seq (XK.region rfl (XO.q (Q.move rfl) (XO.q (Q.assign rfl) (XO.done ?_)))))
 refine XK.rt [h2_8] Tryz.func178 Tryz.results178 (.t rfl .n) ?_
 exact ⟨h2_8, rfl, rfl, O2_8⟩
theorem take_spec (v : Value) (h : PHeap) (cs : List BCell) [ic : OArr v encCell 5 329 h cs] (i : Nat) (hi : i < cs.length) (ck : CellOk (cs.getD i default)) (need : Int) (hn0 : 0 ≤ need) (hn1 : need ≤ 6000000) :
  Spec Tryz.prog 180 #[pat v 5 i 0, .int .i64 need] [h] [] (fun v' hs => ∃ h', v' = .int .i64 (takeC (cs.getD i default) need) ∧ hs = [h'] ∧ OArr v encCell 5 329 h' (cs.set i { bat := (cs.getD i default).bat, now := (cs.getD i default).now + takeC (cs.getD i default) need })) := by
 have g := takeC_ok ck hn0
 have n0 := ck.n0
 have nf := ck.nf
 have f1 := ck.f1
 unfold takeC at g
 refine Spec.intro (fn := Tryz.f180) (N := 32) Tryz.func180 rfl Tryz.ntmps180 rfl fun B => ?_
 refine XK.seq (XK.region rfl (XO.q (Q.assign rfl) (XO.done (XK.seq ?_))))
 refine XK.drawn [0, 1, 2, 3, 4, 5, 6, 7, 8, 9, 10, 11, 12, 13, 14, 15, 16, 17] [] [h] (.q 0 (.q 1 (.q 2 (.q 3 (.q 4 (.q 5 (.q 6 (.q 7 (.q 8 (.q 9 (.q 10 (.q 11 (.q 12 (.q 13 (.q 14 (.q 15 (.q 16 (.q 17 .done)))))))))))))))))) Tryz.mixed rfl (by kernel_rfl) ?_
 refine XT.q rfl rfl (Q.move rfl) ?_
 refine XT.q rfl rfl (Q.nilCheckE rfl (by first | assumption | omega)) ?_
 refine XT.q rfl rfl (Q.fieldQ rfl (by first | assumption | omega)) ?_
 refine XT.q rfl rfl (Q.fieldQ rfl (by first | assumption | omega)) ?_
 refine XT.q rfl rfl (Q.ldE rfl (by first | assumption | omega) rfl) ?_
 refine XT.q rfl rfl (Q.move rfl) ?_
 refine XT.q rfl rfl (Q.nilCheckE rfl (by first | assumption | omega)) ?_
 refine XT.q rfl rfl (Q.fieldQ rfl (by first | assumption | omega)) ?_
 refine XT.q rfl rfl (Q.fieldQ rfl (by first | assumption | omega)) ?_
 refine XT.q rfl rfl (Q.ldE rfl (by first | assumption | omega) rfl) ?_
 refine XT.q rfl rfl (Q.move rfl) ?_
 refine XT.q rfl rfl (Q.nilCheckE rfl (by first | assumption | omega)) ?_
 refine XT.q rfl rfl (Q.fieldQ rfl (by first | assumption | omega)) ?_
 refine XT.q rfl rfl (Q.ldE rfl (by first | assumption | omega) rfl) ?_
 refine XT.q rfl rfl (Q.sub rfl rfl ⟨by omega, by omega⟩) ?_
 refine XT.q rfl rfl (Q.move rfl) ?_
 refine XT.q rfl rfl (Q.min3 rfl rfl rfl) ?_
 refine XT.q rfl rfl (Q.assign rfl) ?_
 refine XT.done ?_
 refine XK.seq (XK.region rfl (XO.q (Q.move rfl) ?_))
 refine XO.q (Q.nilCheckE rfl (by first | assumption | omega)) ?_
 refine XO.q (Q.fieldQ rfl (by first | assumption | omega)) ?_
 refine XO.q (Q.ldE rfl (by first | assumption | omega) rfl) ?_
 refine XO.q (Q.move rfl) ?_
 refine XO.q (Q.add rfl rfl ⟨by omega, by omega⟩) ?_
 refine XO.q (Q.nilCheckE rfl (by first | assumption | omega)) ?_
 refine XO.q (Q.fieldQ rfl (by first | assumption | omega)) ?_
 refine XO.stE { bat := (cs.getD i default).bat, now := (cs.getD i default).now + takeC (cs.getD i default) need } rfl rfl rfl (by assumption) rfl rfl fun h2_8 O2_8 => ?_
 refine XO.done (XK.seq (XK.region rfl (XO.q (Q.move rfl) (XO.q (Q.assign rfl) (XO.done ?_)))))
 refine XK.rt [h2_8] Tryz.func180 Tryz.results180 (.t rfl .n) ?_
 exact ⟨h2_8, rfl, rfl, O2_8⟩
theorem energies_spec (p : Nat) (vb vg vs vc vn : Value) [ob : One vb] [on : One vn] (sv : Int) [os : One vs] [og : One vg] (hc : PHeap) (cs : List BCell) [ic : Arr vc encCell 5 hc cs] (hl : cs.length ≤ 8) :
  Spec Tryz.prog 134 #[ptr p 0] [] [blk p [vb, vg, vs, vc, vn, .int .i64 (sv)] 282, hc] (fun v hs => ∃ h', hs = [h'] ∧ OArr v encI 1 3 h' (energiesP cs)) := by
 have lc := ic.le
 refine Spec.intro (fn := Tryz.f134) (N := 22) Tryz.func134 rfl Tryz.ntmps134 rfl fun B => ?_
 refine XK.seq (XK.region rfl (XO.q (Q.assign rfl) (XO.done (XK.seq (XK.region rfl ?_)))))
 refine XO.q (Q.assign rfl) (XO.done (XK.seq (XK.seq (XK.region rfl (XO.q (Q.move rfl) ?_)))))
 refine XO.q (Q.nilCheck rfl) ?_
 refine XO.q (Q.fieldAddr rfl) ?_
 refine XO.q (Q.ld rfl rfl) ?_
 refine XO.len rfl fun l10 => ?_
 refine XO.q (Q.move rfl) (XO.done (XK.block ?_))
 refine XK.while (X := Nat × PHeap × Value) [3, 5, 11, 12, 13, 14, 15, 16, 17, 18, 19, 20] (fun ⟨i, ko, vo⟩ => [(3, some (vo)), (11, some (.int .i64 (i : Nat)))]) (fun ⟨i, ko, vo⟩ => [ko]) (fun ⟨i, ko, vo⟩ => i ≤ cs.length ∧ OArr vo encI 1 3 ko (energiesP (cs.take i))) (fun ⟨i, ko, vo⟩ => cs.length - i) (0, emp, .slice none 0 0) [emp] rfl ⟨by omega, OArr.nil (fun _ => rfl)⟩ (.c rfl (.c rfl (.base 0 rfl rfl))) ?_
 rintro ⟨i, ko, vo⟩ ⟨hi, OE⟩ ih0
 dsimp only [lcA, lnA] at ih0 ⊢
 have le : (energiesP (cs.take i)).length = i := by unfold energiesP; rw [List.length_map, List.length_take]; omega
 refine XK.seq (XK.region rfl ?_)
 refine XO.q (Q.lss rfl rfl) ?_
 refine XO.done (XK.seq ?_)
 refine XK.if rfl (fun c0 => ?_) (fun c0 => ?_)
 ·skip
  refine XK.skip (XK.seq (XK.block (XK.seq (XK.region rfl ?_))))
  refine XO.ix rfl rfl (by omega) (by omega) fun i13 => ?_
  refine XO.q (Q.ldEA [_, _, _, _, _] rfl (by first | assumption | omega) rfl rfl) ?_
  refine XO.alloc fun b5 => ?_
  refine XO.st rfl rfl rfl ?_
  refine XO.done (XK.region rfl (XO.q (Q.move rfl) ?_))
  refine XO.q (Q.fieldAddr rfl) ?_
  refine XO.q (Q.ld rfl rfl) ?_
  refine XO.lit [_] [_] [(cs.getD i default).now] encI (by rfl) (by rfl) rfl (by rfl) (by exact .c 0 1 rfl rfl rfl (.n _)) (fun _ => rfl) (by rfl) rfl (by infer_instance) rfl fun v18 h18 O18 => ?_
  refine XO.append rfl rfl rfl rfl (by first | omega | (simp; omega)) fun v19 h19 O19 => ?_
  refine XO.q (Q.assign rfl) (XO.done ?_)
  refine XK.inBlock ?_
  refine XK.region rfl ?_
  refine XO.q (Q.add rfl rfl ⟨by omega, by omega⟩) ?_
  refine XO.q (Q.move rfl) (XO.done ?_)
  exact ih0 (i + 1, h19, v19) _ _ ⟨by dsimp only; omega, by dsimp only; rw [energies_snoc (by omega)]; exact O19⟩ (by first | omega | (dsimp only; omega)) (.c rfl (.c rfl (.base 26 rfl rfl))) inferInstance
 ·skip
  refine XK.exit rfl ?_
  refine XK.seq (XK.region rfl (XO.q (Q.move rfl) (XO.q (Q.assign rfl) (XO.done ?_))))
  refine XK.rt [ko] Tryz.func134 Tryz.results134 (.t rfl .n) ?_
  have hil : i = cs.length := by omega
  subst hil
  rw [List.take_length] at OE
  exact ⟨ko, rfl, OE⟩
end Go.X.Bk

set_option linter.unusedSimpArgs false
set_option linter.unusedVariables false
set_option maxRecDepth 20000
namespace Go.X.Bk
open Go.Proofs
theorem begin_spec (b : BBank) (vb vg : Value) (hb hg : PHeap) [ib : Arr vb encBat 4 hb b.bats] [ig : Arr vg encGen 5 hg b.gens] (fs : List Int) (vf : Value) (hf : PHeap) [jf : Arr vf encI 1 hf fs] (ok : BOk b) (fk : FOk b fs) : Spec Tryz.prog 131 #[.agg #[vb, vg], vf] [] [hb, hg, hf] (fun v hs => ∃ p vs vc vn ks kc kn, v = ptr p 0 ∧ hs = [blk p [vb, vg, vs, vc, vn, .int .i64 0] 282, ks, kc, kn] ∧ OArr vs encI 1 3 ks (startsP b fs) ∧ OArr vc encCell 5 329 kc (begun b).cells ∧ OArr vn encI 1 3 kn (begun b).burnt) := by
 have lb := ib.le
 have lg := ig.le
 have n8 := ok.nb
 have n6 := ok.ng
 have nf := fk.n
 refine Spec.intro (fn := Tryz.f131) (N := 63) Tryz.func131 rfl Tryz.ntmps131 rfl fun B => ?_
 refine XK.seq (XK.region rfl ?_)
 refine XO.box rfl fun b2 => ?_
 refine XO.q (Q.assign rfl) (XO.done (XK.seq ?_))
 refine XK.drawn [0, 1, 2, 3, 5, 7] [b2] [] (.q 0 (.q 1 (.q 2 (.q 3 (.br 4 true (.q 5 (.br 6 true (.q 7 .done) .stop)) .stop))))) Tryz.mixed rfl (by kernel_rfl) ?_
 refine XT.q rfl rfl (Q.ldA [_, _] rfl rfl rfl) ?_
 refine XT.q rfl rfl (Q.fieldAddr rfl) ?_
 refine XT.q rfl rfl (Q.ld rfl rfl) ?_
 refine XT.q rfl rfl (Q.len rfl) ?_
 refine XT.make encI (0) rfl rfl rfl rfl rfl (by omega) (by omega) (fun _ => rfl) rfl rfl rfl (by dsimp only [encI]; infer_instance) (fun v14 h14 O14 => ⟨inferInstance, ?_⟩) XT.stop
 refine XT.q rfl rfl (Q.build [_, _, _, _, _, _] (.c 0 2 rfl rfl rfl (.c 4 1 rfl rfl rfl (.n _)))) ?_
 refine XT.box rfl rfl rfl (fun b16 => ⟨inferInstance, ?_⟩) XT.stop
 refine XT.q rfl rfl (Q.assign rfl) ?_
 refine XT.done ?_
 refine XK.seq (XK.seq (XK.region rfl ?_))
 refine XO.q (Q.fieldAddr rfl) ?_
 refine XO.q (Q.ld rfl rfl) ?_
 refine XO.len rfl fun l19 => ?_
 refine XO.q (Q.move rfl) (XO.done (XK.block ?_))
 refine XK.while (X := Nat × PHeap × Value) [7, 20, 21, 22, 23, 24, 25, 26, 27, 28, 29, 30, 31, 32, 33, 34, 35, 36, 37] (fun ⟨i, kc, vc⟩ => [(20, some (.int .i64 (i : Nat)))]) (fun ⟨i, kc, vc⟩ => [blk b16 [vb, vg, .slice none 0 0, vc, v14, .int .i64 0] 282, kc]) (fun ⟨i, kc, vc⟩ => i ≤ b.bats.length ∧ OArr vc encCell 5 329 kc ((b.bats.take i).map (fun x => ⟨x, x.energy⟩))) (fun ⟨i, kc, vc⟩ => b.bats.length - i) (0, emp, .slice none 0 0) [blk b16 [vb, vg, .slice none 0 0, .slice none 0 0, v14, .int .i64 0] 282, emp] rfl ⟨by omega, OArr.nil (fun _ => rfl)⟩ (.c rfl (.base 0 rfl rfl)) ?_
 rintro ⟨i, kc, vc⟩ ⟨hi, OC⟩ ih0
 dsimp only [lcA, lnA] at ih0 ⊢
 have lc : ((b.bats.take i).map (fun x => (⟨x, x.energy⟩ : BCell))).length = i := by rw [List.length_map, List.length_take]; omega
 refine XK.seq (XK.region rfl ?_)
 refine XO.q (Q.lss rfl rfl) ?_
 refine XO.done (XK.seq ?_)
 refine XK.if rfl (fun c0 => ?_) (fun c0 => ?_)
 ·skip
  refine XK.skip (XK.seq (XK.block (XK.seq (XK.region rfl ?_))))
  refine XO.ix rfl rfl (by omega) (by omega) fun i22 => ?_
  refine XO.q (Q.ldEA [_, _, _, _] rfl (by first | assumption | omega) rfl rfl) ?_
  refine XO.alloc fun b7 => ?_
  refine XO.st rfl rfl rfl ?_
  refine XO.done ?_
  refine XK.drawn [0, 1, 2, 3, 5, 6, 7, 8, 11, 12] [b7] [] (.q 0 (.q 1 (.q 2 (.q 3 (.q 5 (.q 6 (.q 7 (.q 8 (.br 4 true (.br 9 true (.br 10 true (.q 11 (.q 12 (.br 13 true .done .stop))) .stop) .stop) (.br 9 true (.br 4 true (.br 10 true (.q 11 (.q 12 (.br 13 true .done .stop))) .stop) .stop) .stop)))))))))) Tryz.mixed rfl (by kernel_rfl) ?_
  refine XT.q rfl rfl (Q.move rfl) ?_
  refine XT.q rfl rfl (Q.move rfl) ?_
  refine XT.q rfl rfl (Q.nilCheck rfl) ?_
  refine XT.q rfl rfl (Q.fieldAddr rfl) ?_
  refine XT.q rfl rfl (Q.ldA [_, _, _, _] rfl rfl rfl) ?_
  refine XT.q rfl rfl (Q.fieldAddr rfl) ?_
  refine XT.q rfl rfl (Q.ld rfl rfl) ?_
  refine XT.q rfl rfl (Q.build [_, _, _, _, _] (.c 0 4 rfl rfl rfl (.c 4 1 rfl rfl rfl (.n _)))) ?_
  refine XT.qs rfl rfl (Q.ld rfl rfl) ⟨inferInstance, ?_⟩ ?_
  ·skip
   refine XT.lit [_, _, _, _, _] [_, _, _, _, _] [⟨b.bats.getD i default, (b.bats.getD i default).energy⟩] encCell rfl rfl (by rfl) (by rfl) rfl (by rfl) (by exact .c 0 5 rfl rfl rfl (.n _)) (fun _ => rfl) (by rfl) rfl (by infer_instance) rfl (fun v33 h33 O33 => ⟨inferInstance, ?_⟩) XT.stop
   refine XT.append rfl rfl rfl rfl rfl rfl (by first | omega | (simp; omega)) (fun v34 h34 O34 => ⟨inferInstance, ?_⟩) XT.stop
   refine XT.q rfl rfl (Q.nilCheck rfl) ?_
   refine XT.q rfl rfl (Q.fieldAddr rfl) ?_
   refine XT.st rfl rfl rfl rfl rfl ⟨inferInstance, ?_⟩ XT.stop
   refine XT.done ?_
   refine XK.inBlock ?_
   refine XK.region rfl ?_
   refine XO.q (Q.add rfl rfl ⟨by omega, by omega⟩) ?_
   refine XO.q (Q.move rfl) (XO.done ?_)
   exact ih0 (i + 1, h34, v34) _ _ ⟨by dsimp only; omega, by dsimp only; rw [cells_snoc (by omega)]; exact O34⟩ (by first | omega | (dsimp only; omega)) (.c rfl (.base 39 rfl rfl)) inferInstance
  ·skip
   refine XT.lit [_, _, _, _, _] [_, _, _, _, _] [⟨b.bats.getD i default, (b.bats.getD i default).energy⟩] encCell rfl rfl (by rfl) (by rfl) rfl (by rfl) (by exact .c 0 5 rfl rfl rfl (.n _)) (fun _ => rfl) (by rfl) rfl (by infer_instance) rfl (fun v33 h33 O33 => ⟨inferInstance, ?_⟩) XT.stop
   refine XT.qs rfl rfl (Q.ld rfl rfl) ⟨inferInstance, ?_⟩ XT.stop
   refine XT.append rfl rfl rfl rfl rfl rfl (by first | omega | (simp; omega)) (fun v34 h34 O34 => ⟨inferInstance, ?_⟩) XT.stop
   refine XT.q rfl rfl (Q.nilCheck rfl) ?_
   refine XT.q rfl rfl (Q.fieldAddr rfl) ?_
   refine XT.st rfl rfl rfl rfl rfl ⟨inferInstance, ?_⟩ XT.stop
   refine XT.done ?_
   refine XK.inBlock ?_
   refine XK.region rfl ?_
   refine XO.q (Q.add rfl rfl ⟨by omega, by omega⟩) ?_
   refine XO.q (Q.move rfl) (XO.done ?_)
   exact ih0 (i + 1, h34, v34) _ _ ⟨by dsimp only; omega, by dsimp only; rw [cells_snoc (by omega)]; exact O34⟩ (by first | omega | (dsimp only; omega)) (.c rfl (.base 39 rfl rfl)) inferInstance
 ·skip
  have hil : i = b.bats.length := by omega
  subst hil
  rw [List.take_length] at OC
  clear ih0 lc hi c0
  refine XK.exit rfl ?_
  refine XK.seq (XK.seq (XK.region rfl ?_))
  refine XO.q (Q.fieldAddr rfl) ?_
  refine XO.q (Q.ld rfl rfl) ?_
  refine XO.len rfl fun l40 => ?_
  refine XO.q (Q.move rfl) (XO.done (XK.block ?_))
  refine XK.while (X := Nat × PHeap × Value) [8, 9, 41, 42, 43, 44, 45, 46, 47, 48, 49, 50, 51, 52, 53, 54, 55, 56, 57, 58, 59, 60, 61] (fun ⟨i, ks, vs⟩ => [(41, some (.int .i64 (i : Nat)))]) (fun ⟨i, ks, vs⟩ => [blk b16 [vb, vg, vs, vc, v14, .int .i64 0] 282, ks]) (fun ⟨i, ks, vs⟩ => i ≤ b.gens.length ∧ OArr vs encI 1 3 ks (startsTo b.gens fs i)) (fun ⟨i, ks, vs⟩ => b.gens.length - i) (0, emp, .slice none 0 0) [blk b16 [vb, vg, .slice none 0 0, vc, v14, .int .i64 0] 282, emp] rfl ⟨by omega, OArr.nil (fun _ => rfl)⟩ (.c rfl (.base 0 rfl rfl)) ?_
  rintro ⟨i, ks, vs⟩ ⟨hi, OS⟩ ih1
  dsimp only [lcA, lnA] at ih1 ⊢
  have ls := startsTo_len b.gens fs i
  refine XK.seq (XK.region rfl ?_)
  refine XO.q (Q.lss rfl rfl) ?_
  refine XO.done (XK.seq ?_)
  refine XK.if rfl (fun c1 => ?_) (fun c1 => ?_)
  ·skip
   refine XK.skip (XK.seq (XK.block (XK.seq (XK.region rfl (XO.q (Q.move rfl) ?_)))))
   refine XO.ix rfl rfl (by omega) (by omega) fun i44 => ?_
   refine XO.q (Q.ldEA [_, _, _, _, _] rfl (by first | assumption | omega) rfl rfl) ?_
   refine XO.alloc fun b9 => ?_
   refine XO.q (Q.assign rfl) ?_
   refine XO.st rfl rfl rfl ?_
   refine XO.done ?_
   refine XK.drawn [0, 1, 2, 3, 5, 6, 7, 8, 9, 13, 14] [b9] [] (.q 0 (.q 1 (.q 2 (.q 3 (.q 5 (.q 6 (.q 7 (.q 8 (.q 9 (.br 4 true (.br 10 true (.br 11 true (.br 12 true (.q 13 (.q 14 (.br 15 true .done .stop))) .stop) .stop) .stop) (.br 10 true (.br 4 true (.br 11 true (.br 12 true (.q 13 (.q 14 (.br 15 true .done .stop))) .stop) .stop) (.br 11 true (.br 4 true (.br 12 true (.q 13 (.q 14 (.br 15 true .done .stop))) .stop) .stop) .stop)) .stop))))))))))) Tryz.mixed rfl (by kernel_rfl) ?_
   refine XT.q rfl rfl (Q.move rfl) ?_
   refine XT.q rfl rfl (Q.move rfl) ?_
   refine XT.q rfl rfl (Q.nilCheck rfl) ?_
   refine XT.q rfl rfl (Q.fieldAddr rfl) ?_
   refine XT.q rfl rfl (Q.ldA [_, _, _, _, _] rfl rfl rfl) ?_
   refine XT.q rfl rfl (Q.move rfl) ?_
   refine XT.q rfl rfl (Q.move rfl) ?_
   refine XT.ix rfl rfl rfl rfl (by omega) (by omega) fun i54 => ?_
   refine XT.q rfl rfl (Q.ldE rfl (by first | assumption | omega) rfl) ?_
   refine XT.qs rfl rfl (Q.ld rfl rfl) ⟨inferInstance, ?_⟩ ?_
   ·skip
    have fi := fk.f i (by omega)
    refine XT.call rfl rfl Tryz.call175 rfl rfl rfl (start_spec _ (ok.gen _ (getD_memB (by omega))) _ fi.1 fi.2) (fun v56 s56 R56 => ?_) XT.stop
    obtain ⟨rfl, rfl⟩ := R56
    dsimp only [lcA, lnA]
    refine ⟨inferInstance, ?_⟩
    refine XT.lit [_] [_] [startP (b.gens.getD i default) (fs.getD i default)] encI rfl rfl (by rfl) (by rfl) rfl (by rfl) (by exact .c 0 1 rfl rfl rfl (.n _)) (fun _ => rfl) (by rfl) rfl (by infer_instance) rfl (fun v57 h57 O57 => ⟨inferInstance, ?_⟩) XT.stop
    refine XT.append rfl rfl rfl rfl rfl rfl (by first | omega | (simp; omega)) (fun v58 h58 O58 => ⟨inferInstance, ?_⟩) XT.stop
    refine XT.q rfl rfl (Q.nilCheck rfl) ?_
    refine XT.q rfl rfl (Q.fieldAddr rfl) ?_
    refine XT.st rfl rfl rfl rfl rfl ⟨inferInstance, ?_⟩ XT.stop
    refine XT.done ?_
    refine XK.inBlock ?_
    refine XK.region rfl ?_
    refine XO.q (Q.add rfl rfl ⟨by omega, by omega⟩) ?_
    refine XO.q (Q.move rfl) (XO.done ?_)
    exact ih1 (i + 1, h58, v58) _ _ ⟨by dsimp only; omega, by dsimp only; exact O58⟩ (by first | omega | (dsimp only; omega)) (.c rfl (.base 47 rfl rfl)) inferInstance
   ·skip
    have fi := fk.f i (by omega)
    refine XT.call rfl rfl Tryz.call175 rfl rfl rfl (start_spec _ (ok.gen _ (getD_memB (by omega))) _ fi.1 fi.2) (fun v56 s56 R56 => ?_) XT.stop
    obtain ⟨rfl, rfl⟩ := R56
    dsimp only [lcA, lnA]
    refine ⟨inferInstance, ?_⟩
    refine XT.qs rfl rfl (Q.ld rfl rfl) ⟨inferInstance, ?_⟩ ?_
    ·skip
     refine XT.lit [_] [_] [startP (b.gens.getD i default) (fs.getD i default)] encI rfl rfl (by rfl) (by rfl) rfl (by rfl) (by exact .c 0 1 rfl rfl rfl (.n _)) (fun _ => rfl) (by rfl) rfl (by infer_instance) rfl (fun v57 h57 O57 => ⟨inferInstance, ?_⟩) XT.stop
     refine XT.append rfl rfl rfl rfl rfl rfl (by first | omega | (simp; omega)) (fun v58 h58 O58 => ⟨inferInstance, ?_⟩) XT.stop
     refine XT.q rfl rfl (Q.nilCheck rfl) ?_
     refine XT.q rfl rfl (Q.fieldAddr rfl) ?_
     refine XT.st rfl rfl rfl rfl rfl ⟨inferInstance, ?_⟩ XT.stop
     refine XT.done ?_
     refine XK.inBlock ?_
     refine XK.region rfl ?_
     refine XO.q (Q.add rfl rfl ⟨by omega, by omega⟩) ?_
     refine XO.q (Q.move rfl) (XO.done ?_)
     exact ih1 (i + 1, h58, v58) _ _ ⟨by dsimp only; omega, by dsimp only; exact O58⟩ (by first | omega | (dsimp only; omega)) (.c rfl (.base 47 rfl rfl)) inferInstance
    ·skip
     refine XT.lit [_] [_] [startP (b.gens.getD i default) (fs.getD i default)] encI rfl rfl (by rfl) (by rfl) rfl (by rfl) (by exact .c 0 1 rfl rfl rfl (.n _)) (fun _ => rfl) (by rfl) rfl (by infer_instance) rfl (fun v57 h57 O57 => ⟨inferInstance, ?_⟩) XT.stop
     refine XT.qs rfl rfl (Q.ld rfl rfl) ⟨inferInstance, ?_⟩ XT.stop
     refine XT.append rfl rfl rfl rfl rfl rfl (by first | omega | (simp; omega)) (fun v58 h58 O58 => ⟨inferInstance, ?_⟩) XT.stop
     refine XT.q rfl rfl (Q.nilCheck rfl) ?_
     refine XT.q rfl rfl (Q.fieldAddr rfl) ?_
     refine XT.st rfl rfl rfl rfl rfl ⟨inferInstance, ?_⟩ XT.stop
     refine XT.done ?_
     refine XK.inBlock ?_
     refine XK.region rfl ?_
     refine XO.q (Q.add rfl rfl ⟨by omega, by omega⟩) ?_
     refine XO.q (Q.move rfl) (XO.done ?_)
     exact ih1 (i + 1, h58, v58) _ _ ⟨by dsimp only; omega, by dsimp only; exact O58⟩ (by first | omega | (dsimp only; omega)) (.c rfl (.base 47 rfl rfl)) inferInstance
  ·skip
   refine XK.exit rfl ?_
   refine XK.seq (XK.region rfl (XO.q (Q.move rfl) (XO.q (Q.assign rfl) (XO.done ?_))))
   refine XK.rt [blk b16 [vb, vg, vs, vc, v14, .int .i64 0] 282, ks, kc, h14] Tryz.func131 Tryz.results131 (.t rfl .n) ?_
   have hil : i = b.gens.length := by omega
   subst hil
   exact ⟨b16, vs, vc, v14, ks, kc, h14, rfl, rfl, OS, OC, O14⟩
theorem generate0 (p : Nat) (vb vg vs vc vn : Value) [ob : One vb] [oc : One vc] [on : One vn] (sv : Int) (gens : List BGen) (sts : List Int) (pk : PlayOk gens sts) (hg hs : PHeap) [ig : Arr vg encGen 5 hg gens] [is : Arr vs encI 1 hs sts] (t : Int) (ht0 : 0 ≤ t) (ht : t ≤ 20000) (load : Int) (hn0 : 0 ≤ load) (hn1 : load ≤ 1000000) (vu : Value) (hu : PHeap) [iu : OArr vu encI 1 3 hu (List.replicate sts.length 0)] :
  Spec Tryz.prog 177 #[ptr p 0, .int .i64 t, .int .i64 load, vu] [hu] [blk p [vb, vg, vs, vc, vn, .int .i64 (sv)] 282, hg, hs] (fun v hs' => ∃ h', v = .int .i64 (gen0 gens sts t load).2 ∧ hs' = [h'] ∧ OArr vu encI 1 3 h' (gen0 gens sts t load).1) :=
 generate_spec p vb vg vs vc vn sv gens sts pk hg hs t ht0 ht load hn0 (by omega) vu hu (List.replicate sts.length 0) (zero_used fun j hj => (canAt_ok pk ht hj).1)
theorem generate1 (p : Nat) (vb vg vs vc vn : Value) [ob : One vb] [oc : One vc] [on : One vn] (sv : Int) (gens : List BGen) (sts : List Int) (pk : PlayOk gens sts) (hg hs : PHeap) [ig : Arr vg encGen 5 hg gens] [is : Arr vs encI 1 hs sts] (t : Int) (ht0 : 0 ≤ t) (ht : t ≤ 20000) (load : Int) (hn0 : 0 ≤ load) (hn1 : load ≤ 1000000) {nc k : Nat} {s : BSt} (so : StOk sts nc k s) (vu : Value) (hu : PHeap) [iu : OArr vu encI 1 3 hu (gen0 gens sts t load).1] :
  Spec Tryz.prog 177 #[ptr p 0, .int .i64 t, .int .i64 (take0 gens sts t load s).2, vu] [hu] [blk p [vb, vg, vs, vc, vn, .int .i64 (sv)] 282, hg, hs] (fun v hs' => ∃ h', v = .int .i64 (gen1 gens sts t load s).2 ∧ hs' = [h'] ∧ OArr vu encI 1 3 h' (gen1 gens sts t load s).1) :=
 generate_spec p vb vg vs vc vn sv gens sts pk hg hs t ht0 ht (take0 gens sts t load s).2 (take0_ok pk ht hn0 so).2.1 (take0_ok pk ht hn0 so).2.2 vu hu (gen0 gens sts t load).1 (gen0_ok pk ht hn0).1
set_option maxHeartbeats 1000000 in
theorem second_spec (p : Nat) (vb vg vs vc vn : Value) [ob : One vb] (gens : List BGen) (sts : List Int) (pk : PlayOk gens sts) (hg hs : PHeap) [ig : Arr vg encGen 5 hg gens] [is : Arr vs encI 1 hs sts] (s : BSt) (hc hn : PHeap) [ic : OArr vc encCell 5 329 hc s.cells] [jn : OArr vn encI 1 3 hn s.burnt] {nc k : Nat} (so : StOk sts nc k s) (hk : k ≤ 20000)
  (t : Int) (ht0 : 0 ≤ t) (ht : t ≤ 20000) (load : Int) (hn0 : 0 ≤ load) (hn1 : load ≤ 1000000) (strict : Bool) :
  Spec Tryz.prog 132 #[ptr p 0, .int .i64 t, .int .i64 load, .bool strict] [blk p [vb, vg, vs, vc, vn, .int .i64 (s.served)] 282, hc, hn] [hg, hs] (fun v hs' => ∃ vc' hc' hn', v = .int .i64 (secondP gens sts t load strict s).1 ∧ hs' = [blk p [vb, vg, vs, vc', vn, .int .i64 (secondP gens sts t load strict s).2.served] 282, hc', hn'] ∧ OArr vc' encCell 5 329 hc' (secondP gens sts t load strict s).2.cells ∧ OArr vn encI 1 3 hn' (secondP gens sts t load strict s).2.burnt) := by
 have lc := ic.arr.le
 have ls := is.le
 have n8 := so.nc8
 have cl := so.c.len
 have n6 := pk.ng
 have ns := pk.n
 have s0 := so.s0
 have s1 := so.s1
 have bl := so.b.len
 have g0 := gen0_ok pk ht hn0
 have gl := g0.1.len
 have v0 := give0_ok pk ht hn0 so
 have t0 := take0_ok pk ht hn0 so
 have p0 := spare0_ok pk ht hn0
 have g1 := gen1_ok pk ht hn0 so
 have g1l := g1.len
 have hca := fun j hj => canAt_ok (i := j) pk ht hj
 have hgv := fun i hi => giveTo_ok so.c g0.2.1 i hi
 have hsp := fun i hi => spareTo_ok g0.1 (fun j hj => (hca j hj).2) i hi
 have p0 : 0 ≤ (spareTo (canAt gens sts t) (gen0 gens sts t load).1 sts.length) ∧ (spareTo (canAt gens sts t) (gen0 gens sts t load).1 sts.length) ≤ 6000000 := p0
 have htk := fun i hi => takeTo_ok so.c p0.1 i hi
 refine Spec.intro (fn := Tryz.f132) (N := 141) Tryz.func132 rfl Tryz.ntmps132 rfl fun B => ?_
 refine XK.seq (XK.region rfl (XO.q (Q.assign rfl) (XO.done (XK.seq (XK.region rfl ?_)))))
 refine XO.q (Q.move rfl) ?_
 refine XO.q (Q.nilCheck rfl) ?_
 refine XO.q (Q.fieldAddr rfl) ?_
 refine XO.q (Q.ld rfl rfl) ?_
 refine XO.call Tryz.call176 rfl rfl rfl (cloneC vc hc s.cells (by omega)) fun v23 s23 R23 => ?_
 obtain ⟨k23, rfl, O23⟩ := R23
 dsimp only [lcA, lnA]
 refine XO.q (Q.assign rfl) (XO.done (XK.seq (XK.region rfl (XO.q (Q.move rfl) ?_))))
 refine XO.q (Q.nilCheck rfl) ?_
 refine XO.q (Q.fieldAddr rfl) ?_
 refine XO.q (Q.ld rfl rfl) ?_
 refine XO.len rfl fun l28 => ?_
 refine XO.make encI (0) rfl rfl rfl (by omega) (by omega) (fun _ => rfl) rfl rfl rfl (by dsimp only [encI]; infer_instance) fun v29 h29 O29 => ?_
 refine XO.q (Q.assign rfl) (XO.done (XK.seq (XK.region rfl (XO.q (Q.move rfl) (XO.q (Q.move rfl) ?_)))))
 refine XO.q (Q.move rfl) (XO.q (Q.move rfl) ?_)
 refine XO.call Tryz.call177 rfl rfl rfl (generate0 p vb vg vs vc vn s.served gens sts pk hg hs t ht0 ht load hn0 hn1 v29 h29) fun v34 s34 R34 => ?_
 obtain ⟨k34, rfl, rfl, O34⟩ := R34
 dsimp only [lcA, lnA]
 refine XO.q (Q.assign rfl) (XO.done (XK.seq (XK.seq (XK.region rfl (XO.q (Q.move rfl) ?_)))))
 refine XO.q (Q.gtr rfl rfl) ?_
 refine XO.done ?_
 refine XK.if rfl (fun c0 => ?_) (fun c0 => ?_)
 ·skip
  refine XK.seq (XK.seq (XK.region rfl (XO.q (Q.move rfl) ?_)))
  refine XO.q (Q.nilCheck rfl) ?_
  refine XO.q (Q.fieldAddr rfl) ?_
  refine XO.q (Q.ld rfl rfl) ?_
  refine XO.len rfl fun l41 => ?_
  refine XO.q (Q.move rfl) (XO.done (XK.block ?_))
  refine XK.while (X := Nat × PHeap) [11, 12, 42, 43, 44, 45, 46, 47, 48, 49, 50, 51, 52, 53, 54, 55] (fun ⟨i, kc⟩ => [(11, some (.int .i64 ((giveTo s.cells (gen0 gens sts t load).2 (i)).2))), (42, some (.int .i64 (i : Nat)))]) (fun ⟨i, kc⟩ => [kc]) (fun ⟨i, kc⟩ => i ≤ s.cells.length ∧ OArr vc encCell 5 329 kc (giveTo s.cells (gen0 gens sts t load).2 (i)).1) (fun ⟨i, kc⟩ => s.cells.length - i) (0, hc) [hc] rfl ⟨by omega, ic⟩ (.c rfl (.c rfl (.base 0 rfl rfl))) ?_
  rintro ⟨i, kc⟩ ⟨hi, OG⟩ ih0
  dsimp only [lcA, lnA] at ih0 ⊢
  have gvi := hgv i (by omega)
  have gvl := gvi.1.len
  refine XK.seq (XK.region rfl ?_)
  refine XO.q (Q.lss rfl rfl) ?_
  refine XO.done (XK.seq ?_)
  refine XK.if rfl (fun c1 => ?_) (fun c1 => ?_)
  ·skip
   have gci := giveC_ok (gvi.1.ok i (by omega)) gvi.2.1
   refine XK.skip (XK.seq (XK.block (XK.seq (XK.region rfl (XO.q (Q.move rfl) ?_)))))
   refine XO.q (Q.assign rfl) (XO.done (XK.region rfl (XO.q (Q.move rfl) (XO.q (Q.move rfl) ?_))))
   refine XO.q (Q.nilCheck rfl) ?_
   refine XO.q (Q.fieldAddr rfl) ?_
   refine XO.q (Q.ld rfl rfl) ?_
   refine XO.q (Q.move rfl) ?_
   refine XO.ix rfl rfl (by omega) (by omega) fun i51 => ?_
   refine XO.q (Q.move rfl) ?_
   refine XO.call Tryz.call178 rfl rfl rfl (give_spec vc kc (giveTo s.cells (gen0 gens sts t load).2 (i)).1 i (by omega) (gvi.1.ok i (by omega)) (giveTo s.cells (gen0 gens sts t load).2 (i)).2 gvi.2.1 (by omega)) fun v53 s53 R53 => ?_
   obtain ⟨k53, rfl, rfl, O53⟩ := R53
   dsimp only [lcA, lnA]
   refine XO.q (Q.sub rfl rfl ⟨by omega, by omega⟩) ?_
   refine XO.q (Q.assign rfl) (XO.done ?_)
   refine XK.inBlock ?_
   refine XK.region rfl ?_
   refine XO.q (Q.add rfl rfl ⟨by omega, by omega⟩) ?_
   refine XO.q (Q.move rfl) (XO.done ?_)
   exact ih0 (i + 1, k53) _ _ ⟨by dsimp only; omega, by dsimp only; exact O53⟩ (by first | omega | (dsimp only; omega)) (.c rfl (.c rfl (.base 34 rfl rfl))) inferInstance
  ·skip
   have hil : i = s.cells.length := by omega
   subst hil
   clear ih0
   have v0 : 0 ≤ (giveTo s.cells (gen0 gens sts t load).2 (s.cells.length)).2 ∧ (giveTo s.cells (gen0 gens sts t load).2 (s.cells.length)).2 ≤ load := v0.2
   refine XK.exit rfl ?_
   refine XK.seq (XK.region rfl (XO.q (Q.move rfl) ?_))
   refine XO.q (Q.gtr rfl rfl) ?_
   refine XO.q (Q.move rfl) ?_
   refine XO.q (Quiet.guardT rfl rfl fun g59 p59 => Q.move rfl) ?_
   refine XO.q (Q.and rfl (fun hp => lzv hp rfl)) ?_
   refine XO.done ?_
   refine XK.if rfl (fun c2 => ?_) (fun c2 => ?_)
   ·skip
    refine XK.seq (XK.region rfl (XO.q (Q.move rfl) (XO.q (Q.move rfl) ?_)))
    refine XO.q (Q.nilCheck rfl) ?_
    refine XO.q (Q.fieldAddr rfl) ?_
    refine XO.st rfl rfl rfl ?_
    refine XO.done (XK.seq (XK.region rfl (XO.q (Q.move rfl) (XO.q (Q.assign rfl) (XO.done ?_)))))
    refine XK.rt [blk p [vb, vg, vs, v23, vn, .int .i64 (s.served)] 282, k23, hn] Tryz.func132 Tryz.results132 (.t rfl .n) ?_
    have e : secondP gens sts t load strict s = ((give0 gens sts t load s).2, s) := by
     unfold secondP
     rw [if_pos c0, if_pos ⟨c2.1, by simpa using c2.2⟩]
    rw [e]
    exact ⟨v23, k23, hn, rfl, rfl, O23, jn⟩
   ·skip
    refine XK.skip (XK.seq (XK.seq (XK.region rfl (XO.q (Q.move rfl) ?_))))
    refine XO.len rfl fun l113 => ?_
    refine XO.q (Q.move rfl) (XO.done (XK.block ?_))
    refine XK.while (X := Nat × PHeap) [17, 18, 114, 115, 116, 117, 118, 119, 120, 121, 122, 123, 124, 125, 126, 127, 128, 129] (fun ⟨i, kn⟩ => [(114, some (.int .i64 (i : Nat)))]) (fun ⟨i, kn⟩ => [kn]) (fun ⟨i, kn⟩ => i ≤ sts.length ∧ OArr vn encI 1 3 kn (addTo s.burnt (gen0 gens sts t load).1 i)) (fun ⟨i, kn⟩ => sts.length - i) (0, hn) [hn] rfl ⟨by omega, jn⟩ (.c rfl (.base 0 rfl rfl)) ?_
    rintro ⟨i, kn⟩ ⟨hi, OB⟩ ih1
    dsimp only [lcA, lnA] at ih1 ⊢
    obtain ⟨al, aa⟩ := addTo_at (bs := s.burnt) (us := (gen0 gens sts t load).1) i (by omega)
    refine XK.seq (XK.region rfl ?_)
    refine XO.q (Q.lss rfl rfl) ?_
    refine XO.done (XK.seq ?_)
    refine XK.if rfl (fun c3 => ?_) (fun c3 => ?_)
    ·skip
     have ai := aa i
     rw [if_neg (by omega)] at ai
     have sb := so.b.b i (by omega)
     have ub := g0.1.b i (by omega)
     have cb := hca i (by omega)
     refine XK.skip (XK.seq (XK.block (XK.seq (XK.region rfl (XO.q (Q.move rfl) ?_)))))
     refine XO.ix rfl rfl (by omega) (by omega) fun i117 => ?_
     refine XO.q (Q.ldE rfl (by first | assumption | omega) rfl) ?_
     refine XO.q (Q.assign rfl) (XO.q (Q.assign rfl) (XO.done (XK.region rfl (XO.q (Q.move rfl) ?_))))
     refine XO.q (Q.nilCheck rfl) ?_
     refine XO.q (Q.fieldAddr rfl) ?_
     refine XO.q (Q.ld rfl rfl) ?_
     refine XO.q (Q.move rfl) ?_
     refine XO.ix rfl rfl (by omega) (by omega) fun i124 => ?_
     refine XO.q (Q.ldE rfl (by first | assumption | omega) rfl) ?_
     refine XO.q (Q.move rfl) ?_
     refine XO.q (Q.add rfl rfl ⟨by omega, by omega⟩) ?_
     refine XO.ix rfl rfl (by omega) (by omega) fun i128 => ?_
     refine XO.stE _ rfl rfl rfl (by assumption) rfl rfl fun h29_10 O29_10 => ?_
     refine XO.done ?_
     refine XK.inBlock ?_
     refine XK.region rfl ?_
     refine XO.q (Q.add rfl rfl ⟨by omega, by omega⟩) ?_
     refine XO.q (Q.move rfl) (XO.done ?_)
     exact ih1 (i + 1, h29_10) _ _ ⟨by dsimp only; omega, by dsimp only; exact O29_10⟩ (by first | omega | (dsimp only; omega)) (.c rfl (.base 37 rfl rfl)) inferInstance
    ·skip
     refine XK.exit rfl ?_
     refine XK.seq (XK.region rfl (XO.q (Q.move rfl) ?_))
     refine XO.q (Q.nilCheck rfl) ?_
     refine XO.q (Q.fieldAddr rfl) ?_
     refine XO.q (Q.ld rfl rfl) ?_
     refine XO.q (Q.move rfl) (XO.q (Q.move rfl) ?_)
     refine XO.q (Q.sub rfl rfl ⟨by omega, by omega⟩) ?_
     refine XO.q (Q.add rfl rfl ⟨by omega, by omega⟩) ?_
     refine XO.q (Q.nilCheck rfl) ?_
     refine XO.q (Q.fieldAddr rfl) ?_
     refine XO.st rfl rfl rfl ?_
     refine XO.done (XK.seq (XK.region rfl (XO.q (Q.move rfl) (XO.q (Q.assign rfl) (XO.done ?_)))))
     refine XK.rt [blk p [vb, vg, vs, vc, vn, .int .i64 (s.served + (load - (giveTo s.cells (gen0 gens sts t load).2 (s.cells.length)).2))] 282, kc, kn] Tryz.func132 Tryz.results132 (.t rfl .n) ?_
     have hil : i = sts.length := by omega
     subst hil
     have e : secondP gens sts t load strict s = ((give0 gens sts t load s).2, ⟨(give0 gens sts t load s).1, addTo s.burnt (gen0 gens sts t load).1 sts.length, s.served + (load - (give0 gens sts t load s).2)⟩) := by
      unfold secondP
      rw [if_pos c0, if_neg (by exact c2)]
     rw [e]
     exact ⟨vc, kc, kn, rfl, rfl, OG, OB⟩
 ·skip
  refine XK.seq (XK.region rfl (XO.q (Q.assign rfl) (XO.done (XK.seq (XK.seq ?_)))))
  refine XK.region rfl (XO.q (Q.move rfl) ?_)
  refine XO.q (Q.nilCheck rfl) ?_
  refine XO.q (Q.fieldAddr rfl) ?_
  refine XO.q (Q.ld rfl rfl) ?_
  refine XO.len rfl fun l70 => ?_
  refine XO.q (Q.move rfl) (XO.done (XK.block ?_))
  refine XK.while (X := Nat) [13, 14, 71, 72, 73, 74, 75, 76, 77, 78, 79, 80, 81, 82, 83, 84, 85] (fun i => [(13, some (.int .i64 (spareTo (canAt gens sts t) (gen0 gens sts t load).1 i))), (71, some (.int .i64 (i : Nat)))]) (fun i => []) (fun i => i ≤ sts.length) (fun i => sts.length - i) (0) [] rfl (by omega) (.c rfl (.c rfl (.base 0 rfl rfl))) ?_
  rintro i hi ih2
  dsimp only [lcA, lnA] at ih2 ⊢
  have spi := hsp i hi
  refine XK.seq (XK.region rfl ?_)
  refine XO.q (Q.lss rfl rfl) ?_
  refine XO.done (XK.seq ?_)
  refine XK.if rfl (fun c4 => ?_) (fun c4 => ?_)
  ·skip
   have ubi := g0.1.b i (by omega)
   have cbi := hca i (by omega)
   refine XK.skip (XK.seq (XK.block (XK.seq (XK.region rfl (XO.q (Q.move rfl) ?_)))))
   refine XO.q (Q.assign rfl) (XO.done ?_)
   refine XK.drawn [0, 1, 2, 3, 5, 6, 7, 8, 9, 10, 11] [] [k34] (.q 0 (.q 1 (.q 2 (.q 3 (.q 5 (.q 6 (.q 7 (.q 8 (.br 4 true (.q 9 (.q 10 (.q 11 .done))) .stop))))))))) Tryz.mixed rfl (by kernel_rfl) ?_
   refine XT.q rfl rfl (Q.move rfl) ?_
   refine XT.q rfl rfl (Q.move rfl) ?_
   refine XT.q rfl rfl (Q.move rfl) ?_
   refine XT.q rfl rfl (Q.move rfl) ?_
   refine XT.q rfl rfl (Q.move rfl) ?_
   refine XT.q rfl rfl (Q.move rfl) ?_
   refine XT.ix rfl rfl rfl rfl (by omega) (by omega) fun i81 => ?_
   refine XT.q rfl rfl (Q.ldE rfl (by first | assumption | omega) rfl) ?_
   refine XT.call rfl rfl Tryz.call179 rfl rfl rfl (can_spec p vb vg vs vc vn s.served gens sts pk hg hs i (by omega) t ht0 ht) (fun v78 s78 R78 => ?_) XT.stop
   obtain ⟨rfl, rfl⟩ := R78
   dsimp only [lcA, lnA]
   refine ⟨inferInstance, ?_⟩
   refine XT.q rfl rfl (Q.sub rfl rfl ⟨by omega, by omega⟩) ?_
   refine XT.q rfl rfl (Q.add rfl rfl ⟨by omega, by omega⟩) ?_
   refine XT.q rfl rfl (Q.assign rfl) ?_
   refine XT.done ?_
   refine XK.inBlock ?_
   refine XK.region rfl ?_
   refine XO.q (Q.add rfl rfl ⟨by omega, by omega⟩) ?_
   refine XO.q (Q.move rfl) (XO.done ?_)
   exact ih2 (i + 1) _ _ (by omega) (by first | omega | (dsimp only; omega)) (.c rfl (.c rfl (.base 36 rfl rfl))) inferInstance
  ·skip
   have hil : i = sts.length := by omega
   subst hil
   clear ih2
   refine XK.exit rfl ?_
   refine XK.seq (XK.region rfl (XO.q (Q.assign rfl) (XO.done (XK.seq (XK.seq ?_)))))
   refine XK.region rfl (XO.q (Q.move rfl) ?_)
   refine XO.q (Q.nilCheck rfl) ?_
   refine XO.q (Q.fieldAddr rfl) ?_
   refine XO.q (Q.ld rfl rfl) ?_
   refine XO.len rfl fun l90 => ?_
   refine XO.q (Q.move rfl) (XO.done (XK.block ?_))
   refine XK.while (X := Nat × PHeap) [15, 16, 91, 92, 93, 94, 95, 96, 97, 98, 99, 100, 101, 102, 103, 104, 105, 106] (fun ⟨i, kc⟩ => [(15, some (.int .i64 ((takeTo s.cells (spareTo (canAt gens sts t) (gen0 gens sts t load).1 sts.length) (i)).2))), (91, some (.int .i64 (i : Nat)))]) (fun ⟨i, kc⟩ => [kc]) (fun ⟨i, kc⟩ => i ≤ s.cells.length ∧ OArr vc encCell 5 329 kc (takeTo s.cells (spareTo (canAt gens sts t) (gen0 gens sts t load).1 sts.length) (i)).1) (fun ⟨i, kc⟩ => s.cells.length - i) (0, hc) [hc] rfl ⟨by omega, ic⟩ (.c rfl (.c rfl (.base 0 rfl rfl))) ?_
   rintro ⟨i, kc⟩ ⟨hi, OT⟩ ih3
   dsimp only [lcA, lnA] at ih3 ⊢
   have tki := htk i (by omega)
   have tkl := tki.1.len
   refine XK.seq (XK.region rfl ?_)
   refine XO.q (Q.lss rfl rfl) ?_
   refine XO.done (XK.seq ?_)
   refine XK.if rfl (fun c5 => ?_) (fun c5 => ?_)
   ·skip
    have tci := takeC_ok (tki.1.ok i (by omega)) (need := (spareTo (canAt gens sts t) (gen0 gens sts t load).1 sts.length) - (takeTo s.cells (spareTo (canAt gens sts t) (gen0 gens sts t load).1 sts.length) (i)).2) (by omega)
    refine XK.skip (XK.seq (XK.block (XK.seq (XK.region rfl (XO.q (Q.move rfl) ?_)))))
    refine XO.q (Q.assign rfl) (XO.done (XK.region rfl (XO.q (Q.move rfl) (XO.q (Q.move rfl) ?_))))
    refine XO.q (Q.nilCheck rfl) ?_
    refine XO.q (Q.fieldAddr rfl) ?_
    refine XO.q (Q.ld rfl rfl) ?_
    refine XO.q (Q.move rfl) ?_
    refine XO.ix rfl rfl (by omega) (by omega) fun i100 => ?_
    refine XO.q (Q.move rfl) (XO.q (Q.move rfl) ?_)
    refine XO.q (Q.sub rfl rfl ⟨by omega, by omega⟩) ?_
    refine XO.call Tryz.call180 rfl rfl rfl (take_spec vc kc (takeTo s.cells (spareTo (canAt gens sts t) (gen0 gens sts t load).1 sts.length) (i)).1 i (by omega) (tki.1.ok i (by omega)) ((spareTo (canAt gens sts t) (gen0 gens sts t load).1 sts.length) - (takeTo s.cells (spareTo (canAt gens sts t) (gen0 gens sts t load).1 sts.length) (i)).2) (by omega) (by omega)) fun v104 s104 R104 => ?_
    obtain ⟨k104, rfl, rfl, O104⟩ := R104
    dsimp only [lcA, lnA]
    refine XO.q (Q.add rfl rfl ⟨by omega, by omega⟩) ?_
    refine XO.q (Q.assign rfl) (XO.done ?_)
    refine XK.inBlock ?_
    refine XK.region rfl ?_
    refine XO.q (Q.add rfl rfl ⟨by omega, by omega⟩) ?_
    refine XO.q (Q.move rfl) (XO.done ?_)
    exact ih3 (i + 1, k104) _ _ ⟨by dsimp only; omega, by dsimp only; exact O104⟩ (by first | omega | (dsimp only; omega)) (.c rfl (.c rfl (.base 38 rfl rfl))) inferInstance
   ·skip
    have hil : i = s.cells.length := by omega
    subst hil
    clear ih3
    refine XK.exit rfl ?_
    refine XK.region rfl (XO.q (Q.move rfl) (XO.q (Q.move rfl) (XO.q (Q.move rfl) (XO.q (Q.move rfl) ?_))))
    refine XO.call Tryz.call177 rfl rfl rfl (generate1 p vb vg vs vc vn s.served gens sts pk hg hs t ht0 ht load hn0 hn1 so v29 k34) fun v111 s111 R111 => ?_
    obtain ⟨k111, rfl, rfl, O111⟩ := R111
    dsimp only [lcA, lnA]
    refine XO.done (XK.seq (XK.seq (XK.region rfl (XO.q (Q.move rfl) ?_))))
    refine XO.len rfl fun l113 => ?_
    refine XO.q (Q.move rfl) (XO.done (XK.block ?_))
    refine XK.while (X := Nat × PHeap) [17, 18, 114, 115, 116, 117, 118, 119, 120, 121, 122, 123, 124, 125, 126, 127, 128, 129] (fun ⟨i, kn⟩ => [(114, some (.int .i64 (i : Nat)))]) (fun ⟨i, kn⟩ => [kn]) (fun ⟨i, kn⟩ => i ≤ sts.length ∧ OArr vn encI 1 3 kn (addTo s.burnt (gen1 gens sts t load s).1 i)) (fun ⟨i, kn⟩ => sts.length - i) (0, hn) [hn] rfl ⟨by omega, jn⟩ (.c rfl (.base 0 rfl rfl)) ?_
    rintro ⟨i, kn⟩ ⟨hi, OB⟩ ih4
    dsimp only [lcA, lnA] at ih4 ⊢
    obtain ⟨al, aa⟩ := addTo_at (bs := s.burnt) (us := (gen1 gens sts t load s).1) i (by omega)
    refine XK.seq (XK.region rfl ?_)
    refine XO.q (Q.lss rfl rfl) ?_
    refine XO.done (XK.seq ?_)
    refine XK.if rfl (fun c6 => ?_) (fun c6 => ?_)
    ·skip
     have ai := aa i
     rw [if_neg (by omega)] at ai
     have sb := so.b.b i (by omega)
     have ub := g1.b i (by omega)
     have cb := hca i (by omega)
     refine XK.skip (XK.seq (XK.block (XK.seq (XK.region rfl (XO.q (Q.move rfl) ?_)))))
     refine XO.ix rfl rfl (by omega) (by omega) fun i117 => ?_
     refine XO.q (Q.ldE rfl (by first | assumption | omega) rfl) ?_
     refine XO.q (Q.assign rfl) (XO.q (Q.assign rfl) (XO.done (XK.region rfl (XO.q (Q.move rfl) ?_))))
     refine XO.q (Q.nilCheck rfl) ?_
     refine XO.q (Q.fieldAddr rfl) ?_
     refine XO.q (Q.ld rfl rfl) ?_
     refine XO.q (Q.move rfl) ?_
     refine XO.ix rfl rfl (by omega) (by omega) fun i124 => ?_
     refine XO.q (Q.ldE rfl (by first | assumption | omega) rfl) ?_
     refine XO.q (Q.move rfl) ?_
     refine XO.q (Q.add rfl rfl ⟨by omega, by omega⟩) ?_
     refine XO.ix rfl rfl (by omega) (by omega) fun i128 => ?_
     refine XO.stE _ rfl rfl rfl (by assumption) rfl rfl fun h29_10 O29_10 => ?_
     refine XO.done ?_
     refine XK.inBlock ?_
     refine XK.region rfl ?_
     refine XO.q (Q.add rfl rfl ⟨by omega, by omega⟩) ?_
     refine XO.q (Q.move rfl) (XO.done ?_)
     exact ih4 (i + 1, h29_10) _ _ ⟨by dsimp only; omega, by dsimp only; exact O29_10⟩ (by first | omega | (dsimp only; omega)) (.c rfl (.base 37 rfl rfl)) inferInstance
    ·skip
     refine XK.exit rfl ?_
     refine XK.seq (XK.region rfl (XO.q (Q.move rfl) ?_))
     refine XO.q (Q.nilCheck rfl) ?_
     refine XO.q (Q.fieldAddr rfl) ?_
     refine XO.q (Q.ld rfl rfl) ?_
     refine XO.q (Q.move rfl) (XO.q (Q.move rfl) ?_)
     refine XO.q (Q.sub rfl rfl ⟨by omega, by omega⟩) ?_
     refine XO.q (Q.add rfl rfl ⟨by omega, by omega⟩) ?_
     refine XO.q (Q.nilCheck rfl) ?_
     refine XO.q (Q.fieldAddr rfl) ?_
     refine XO.st rfl rfl rfl ?_
     refine XO.done (XK.seq (XK.region rfl (XO.q (Q.move rfl) (XO.q (Q.assign rfl) (XO.done ?_)))))
     refine XK.rt [blk p [vb, vg, vs, vc, vn, .int .i64 (s.served + (load - (gen0 gens sts t load).2))] 282, kc, kn] Tryz.func132 Tryz.results132 (.t rfl .n) ?_
     have hil : i = sts.length := by omega
     subst hil
     have e : secondP gens sts t load strict s = ((gen0 gens sts t load).2, ⟨(take0 gens sts t load s).1, addTo s.burnt (gen1 gens sts t load s).1 sts.length, s.served + (load - (gen0 gens sts t load).2)⟩) := by
      unfold secondP
      rw [if_neg c0]
     rw [e]
     exact ⟨vc, kc, kn, rfl, rfl, OT, OB⟩
end Go.X.Bk

set_option linter.unusedSimpArgs false
set_option linter.unusedVariables false
set_option maxRecDepth 20000
namespace Go.X.Bk
open Go.Proofs
def secItems (pw : List Int) : List (List Value) := (List.range pw.length).map (fun k => [.int .i64 (k : Nat), .int .i64 (pw.getD k default)])
theorem secItems_len (pw : List Int) : (secItems pw).length = pw.length := by simp [secItems]
theorem secItems_at {pw : List Int} {i : Nat} (hi : i < pw.length) : (secItems pw).getD i [] = [.int .i64 (i : Nat), .int .i64 (pw.getD i default)] := by
 rw [List.getD_eq_getElem?_getD, secItems, List.getElem?_map, List.getElem?_range hi]; rfl
theorem secItems_two {pw : List Int} : ∀ i, i < (secItems pw).length → ((secItems pw).getD i []).length = 2 := fun i hi => by
 rw [secItems_len] at hi
 rw [secItems_at hi]; rfl
theorem seconds1 (b : Nat) (l : List BSpan) (vl : Value) (hl : PHeap) [il : Arr vl encSpan 2 hl l] (lk : LOk l) : It Tryz.prog (.func (.func 181) #[] #[ptr b 0]) (secItems (powers l)) [blk b [vl] 105, hl] := by
 intro f Hr QQ XX hy q hq
 refine VSpec.fn (P := Tryz.prog) (g := 181) (fst := []) (vs := [f]) (cap := [ptr b 0]) (A := [f, ptr b 0]) (Hm := [q]) Tryz.call181 rfl ?_
 dsimp only [lcA, lnA]
 rw [secItems_len] at *
 have ll := il.le
 have hpl := powers_len lk
 have ln := lk.n
 have hca := cnt_all l
 have hcall : ∀ i j : Nat, i < l.length → (j : Int) < (l.getD i default).seconds → ∀ q, QQ (cnt l i + j) q →
   VSpec Tryz.prog f [.int .i64 ((cnt l i + j : Nat) : Int), .int .i64 (l.getD i default).power] [q] Hr (fun v hs => ∃ bb q', v = .bool bb ∧ hs = [q'] ∧ (bb = true → QQ (cnt l i + j + 1) q') ∧ (bb = false → XX q')) := by
  intro i j hi hj q hq
  obtain ⟨h1, h2⟩ := powers_at l hi hj
  have := hy _ h1 q hq
  rwa [secItems_at h1, h2] at this
 refine Spec.intro (fn := Tryz.f181) (N := 26) Tryz.func181 rfl Tryz.ntmps181 rfl fun B => ?_
 refine XK.seq (XK.region rfl (XO.q (Q.assign rfl) (XO.done (XK.seq (XK.region rfl ?_)))))
 refine XO.q (Q.ld rfl rfl) ?_
 refine XO.len rfl fun l7 => ?_
 refine XO.q (Q.move rfl) (XO.done (XK.block ?_))
 refine XK.while (X := Nat × PHeap) [3, 5, 8, 9, 10, 11, 12, 13, 14, 15, 16, 17, 18, 19, 20, 21, 22, 23, 24, 25] (fun ⟨i, q1⟩ => [(3, some (.int .i64 ((cnt l i : Nat) : Int))), (8, some (.int .i64 (i : Nat)))]) (fun ⟨i, q1⟩ => [q1]) (fun ⟨i, q1⟩ => i ≤ l.length ∧ QQ (cnt l i) q1) (fun ⟨i, q1⟩ => l.length - i) (0, q) [q] rfl ⟨by omega, hq⟩ (.c rfl (.c rfl (.base 0 rfl rfl))) ?_
 rintro ⟨i, q1⟩ ⟨hi, hQ⟩ ih0
 dsimp only [lcA, lnA] at ih0 ⊢
 refine XK.seq (XK.region rfl ?_)
 refine XO.q (Q.lss rfl rfl) ?_
 refine XO.done (XK.seq ?_)
 refine XK.if rfl (fun c0 => ?_) (fun c0 => ?_)
 ·skip
  have sk := lk.s _ (getD_memB (show i < l.length by omega))
  refine XK.skip (XK.seq (XK.block (XK.seq (XK.region rfl ?_))))
  refine XO.ix rfl rfl (by omega) (by omega) fun i10 => ?_
  refine XO.q (Q.ldEA [_, _] rfl (by first | assumption | omega) rfl rfl) ?_
  refine XO.alloc fun b5 => ?_
  refine XO.st rfl rfl rfl ?_
  refine XO.done (XK.seq (XK.region rfl ?_))
  refine XO.q (Q.fieldAddr rfl) ?_
  refine XO.q (Q.ld rfl rfl) ?_
  refine XO.q (Q.move rfl) (XO.done (XK.block ?_))
  refine XK.while (X := Nat × PHeap) [3, 14, 15, 16, 17, 18, 19, 20, 21, 22, 23, 24] (fun ⟨j, q2⟩ => [(3, some (.int .i64 ((cnt l i + j : Nat) : Int))), (14, some (.int .i64 (j : Nat)))]) (fun ⟨j, q2⟩ => [q2]) (fun ⟨j, q2⟩ => (j : Int) ≤ (l.getD i default).seconds ∧ QQ (cnt l i + j) q2) (fun ⟨j, q2⟩ => (l.getD i default).seconds.toNat - j) (0, q1) [q1] rfl ⟨by omega, hQ⟩ (.c rfl (.c rfl (.base 0 rfl rfl))) ?_
  rintro ⟨j, q2⟩ ⟨hj, hQ2⟩ ih1
  dsimp only [lcA, lnA] at ih1 ⊢
  refine XK.seq (XK.region rfl ?_)
  refine XO.q (Q.lss rfl rfl) ?_
  refine XO.done (XK.seq ?_)
  refine XK.if rfl (fun c1 => ?_) (fun c1 => ?_)
  ·skip
   obtain ⟨hp1, hp2⟩ := powers_at l (i := i) (j := j) (by omega) (by omega)
   refine XK.skip (XK.seq (XK.block (XK.seq (XK.seq (XK.region rfl ?_)))))
   refine XO.q (Q.move rfl) (XO.q (Q.move rfl) ?_)
   refine XO.q (Q.fieldAddr rfl) ?_
   refine XO.q (Q.ld rfl rfl) ?_
   refine XO.vcall rfl rfl (hcall i j (by omega) (by omega) q2 hQ2) fun v20 s20 R20 => ?_
   obtain ⟨bb, q3, rfl, rfl, hT, hF⟩ := R20
   dsimp only [lcA, lnA]
   refine XO.q (Q.not rfl) ?_
   refine XO.done ?_
   refine XK.if rfl (fun c2 => ?_) (fun c2 => ?_)
   ·skip
    refine XK.rt [q3] Tryz.func181 Tryz.results181 (.n) ?_
    exact ⟨q3, rfl, .inr (hF (by cases bb <;> simp_all))⟩
   ·skip
    refine XK.skip (XK.region rfl (XO.q (Q.move rfl) ?_))
    refine XO.q (Q.add rfl rfl ⟨by omega, by omega⟩) ?_
    rw [show ((cnt l i + j : Nat) : Int) + 1 = ((cnt l i + j + 1 : Nat) : Int) from rfl]
    refine XO.q (Q.assign rfl) (XO.done ?_)
    refine XK.inBlock ?_
    refine XK.region rfl ?_
    refine XO.q (Q.add rfl rfl ⟨by omega, by omega⟩) ?_
    refine XO.q (Q.move rfl) (XO.done ?_)
    exact ih1 (j + 1, q3) _ _ ⟨by dsimp only; omega, hT (by cases bb <;> simp_all)⟩ (by dsimp only; omega) (.c rfl (.c rfl (.base 26 rfl rfl))) inferInstance
  ·skip
   refine XK.exit rfl ?_
   refine XK.inBlock ?_
   refine XK.region rfl ?_
   refine XO.q (Q.add rfl rfl ⟨by omega, by omega⟩) ?_
   refine XO.q (Q.move rfl) (XO.done ?_)
   have hjn : cnt l i + j = cnt l (i + 1) := by rw [cnt]; omega
   rw [hjn] at hQ2 ⊢
   exact ih0 (i + 1, q2) _ _ ⟨by dsimp only; omega, hQ2⟩ (by first | omega | (dsimp only; omega)) (.c rfl (.c rfl (.base 46 rfl rfl))) inferInstance
 ·skip
  refine XK.exit rfl ?_
  refine XK.fn [q1] Tryz.func181 Tryz.results181 (.n) ?_
  have hil : i = l.length := by omega
  subst hil
  rw [hca] at hQ
  exact ⟨q1, rfl, .inl hQ⟩
theorem seconds_spec (vl : Value) [ol : One vl] : Spec Tryz.prog 133 #[vl] [] [] (fun v hs => ∃ b, v = .func (.func 181) #[] #[ptr b 0] ∧ hs = [blk b [vl] 105]) := by
 refine Spec.intro (fn := Tryz.f133) (N := 4) Tryz.func133 rfl Tryz.ntmps133 rfl fun B => ?_
 refine XK.seq (XK.region rfl ?_)
 refine XO.box rfl fun b1 => ?_
 refine XO.q (Q.assign rfl) (XO.done (XK.seq (XK.region rfl ?_)))
 refine XO.q (Q.func (fun _ he => rfl) (fun _ he => evs_rel he rfl)) ?_
 refine XO.q (Q.assign rfl) (XO.done ?_)
 refine XK.rt [blk b1 [vl] 105] Tryz.func133 Tryz.results133 (.t rfl .n) ?_
 exact ⟨b1, rfl, rfl⟩
abbrev resV (r : BRes) (ve vn : Value) : Value := .agg #[.int .i64 r.dark, ve, vn, .int .i64 r.served]
theorem dark_second {gens : List BGen} {sts : List Int} {t load : Int} {s : BSt} (h : 0 < (secondP gens sts t load true s).1) : (secondP gens sts t load true s).2 = s := by
 unfold secondP at h ⊢
 split
 ·rename_i h1
  rw [if_pos h1] at h
  split
  ·rfl
  ·rename_i h2
   rw [if_neg h2] at h
   exact absurd ⟨h, rfl⟩ h2
 ·rename_i h1
  rw [if_neg h1] at h
  exact absurd h h1
set_option maxHeartbeats 1000000 in
theorem run_nil (b : BBank) (vb vg : Value) (hb hg : PHeap) [ib : Arr vb encBat 4 hb b.bats] [ig : Arr vg encGen 5 hg b.gens] (l : List BSpan) (vl : Value) (hl : PHeap) [il : Arr vl encSpan 2 hl l] (fs : List Int) (vf : Value) (hf : PHeap) [jf : Arr vf encI 1 hf fs] (ok : BOk b) (lk : LOk l) (fk : FOk b fs) : Spec Tryz.prog 76 #[.agg #[vb, vg], vl, vf, .nilFunc] [] [hb, hg, hl, hf]
  (fun v hs => ∃ ve vn ke kn, v = resV (runP b (powers l) fs) ve vn ∧ hs = [ke, kn] ∧ OArr ve encI 1 3 ke (runP b (powers l) fs).energy ∧ OArr vn encI 1 3 kn (runP b (powers l) fs).burnt) := by
 have ln := lk.n
 have hpw := pwOk lk
 have pk := playOk ok fk
 have b0 := begun_ok ok fk
 have hst : ∀ i, i ≤ (powers l).length → StOk (startsP b fs) b.bats.length i (stateP b (powers l) fs true i) := fun i hi => playTo_ok pk hpw b0 true i hi
 have hla := fun i hi => lackAt_ok (i := i) pk hpw b0 true hi
 have hn2 := hpw.n
 have n8 := ok.nb
 refine Spec.intro (fn := Tryz.f76) (N := 47) Tryz.func76 rfl Tryz.ntmps76 rfl fun B => ?_
 refine XK.seq (XK.region rfl ?_)
 refine XO.box rfl fun b4 => ?_
 refine XO.box rfl fun b7 => ?_
 refine XO.alloc fun b8 => ?_
 refine XO.done (XK.seq (XK.region rfl ?_))
 refine XO.q (Q.ldA [_, _] rfl rfl rfl) ?_
 refine XO.q (Q.move rfl) ?_
 refine XO.call Tryz.call131 rfl rfl rfl (begin_spec b vb vg hb hg fs vf hf ok fk) fun v16 s16 R16 => ?_
 obtain ⟨p, vs, vc, vn, ks, kc, kn, rfl, rfl, OS, OC, ON⟩ := R16
 dsimp only [lcA, lnA]
 refine XO.alloc fun b9 => ?_
 refine XO.st rfl rfl rfl ?_
 refine XO.done (XK.seq (XK.region rfl ?_))
 refine XO.alloc fun b10 => ?_
 refine XO.st rfl rfl rfl ?_
 refine XO.done (XK.seq (XK.region rfl ?_))
 refine XO.q (Q.ld rfl rfl) ?_
 refine XO.q (Q.func (fun _ he => evs_rel he rfl) (fun _ he => rfl)) ?_
 refine XO.alloc fun b11 => ?_
 refine XO.st rfl rfl rfl ?_
 refine XO.done (XK.seq (XK.seq (XK.region rfl (XO.q (Q.move rfl) ?_))))
 refine XO.call Tryz.call133 rfl rfl rfl (seconds_spec vl) fun v20 s20 R20 => ?_
 obtain ⟨bs, rfl, rfl⟩ := R20
 dsimp only [lcA, lnA]
 refine XO.done (XK.block ?_)
 refine XK.range (X := Nat × Value × PHeap × PHeap × Int) (ps := [21, 22]) (secItems (powers l)) (fun ⟨m, vc1, kc1, kn1, dk⟩ => [blk p [vb, vg, vs, vc1, vn, .int .i64 (stateP b (powers l) fs true (m)).served] 282, kc1, kn1, blk b10 [.int .i64 dk] 3]) (fun i ⟨m, vc1, kc1, kn1, dk⟩ => m = i ∧ m ≤ (powers l).length ∧ dk = -1 ∧ OArr vc1 encCell 5 329 kc1 (stateP b (powers l) fs true (m)).cells ∧ OArr vn encI 1 3 kn1 (stateP b (powers l) fs true (m)).burnt ∧ (∀ j, j < m → isDark b (powers l) fs j = false)) (fun j0 ⟨m, vc1, kc1, kn1, dk⟩ => j0 = Code.exit 0 ∧ m < (powers l).length ∧ dk = m ∧ isDark b (powers l) fs m = true ∧ OArr vc1 encCell 5 329 kc1 (stateP b (powers l) fs true (m)).cells ∧ OArr vn encI 1 3 kn1 (stateP b (powers l) fs true (m)).burnt ∧ (∀ j, j < m → isDark b (powers l) fs j = false)) (0, vc, kc, kn, -1) [blk p [vb, vg, vs, vc, vn, .int .i64 0] 282, kc, kn, blk b10 [.int .i64 (-1)] 3] rfl ⟨rfl, by omega, rfl, OC, ON, fun j hj => by omega⟩ rfl (seconds1 bs l vl hl lk) rfl (secItems_two) ?_ ?_ ?_
 ·rintro lq rec B' i ⟨m, vc1, kc1, kn1, dk⟩ hi ⟨hmi, hm, hdk, C1, N1, D1⟩
  dsimp only [lcA, lnA]
  rw [secItems_len] at hi
  subst hmi
  subst hdk
  rw [secItems_at hi]
  dsimp only [pars]
  refine XK.seq (XK.region rfl (XO.q (Q.assign rfl) (XO.done (XK.region rfl (XO.q (Q.assign rfl) ?_)))))
  refine XO.done ?_
  refine XK.beginRound ?_
  refine XK.block (XK.seq (XK.seq (XK.region rfl ?_)))
  refine XO.q (Q.ld rfl rfl) ?_
  refine XO.q (Q.move rfl) (XO.q (Q.move rfl) ?_)
  refine XO.vcall rfl rfl (VSpec.fn (fst := [ptr p 0]) (cap := []) Tryz.call132 rfl (second_spec p vb vg vs vc1 vn b.gens (startsP b fs) pk hg ks (stateP b (powers l) fs true (m)) kc1 kn1 (hst m (by omega)) (by omega) ((m : Nat) : Int) (by omega) (by omega) ((powers l).getD m default) (hpw.p m (by omega)).1 (hpw.p m (by omega)).2 true)) fun v26 s26 R26 => ?_
  obtain ⟨vc2, kc2, kn2, rfl, rfl, C2, N2⟩ := R26
  dsimp only [lcA, lnA]
  have hd : isDark b (powers l) fs m = decide (0 < (secondP b.gens (startsP b fs) ((m : Nat) : Int) ((powers l).getD m default) true (stateP b (powers l) fs true (m))).1) := rfl
  have es : (secondP b.gens (startsP b fs) ((m : Nat) : Int) ((powers l).getD m default) true (stateP b (powers l) fs true (m))).2 = (stateP b (powers l) fs true (m + 1)) := rfl
  rw [es] at C2 N2 ⊢
  refine XO.q (Q.gtr rfl rfl) ?_
  refine XO.done ?_
  refine XK.if rfl (fun c0 => ?_) (fun c0 => ?_)
  ·skip
   refine XK.seq (XK.region rfl (XO.q (Q.move rfl) ?_))
   refine XO.st rfl rfl rfl ?_
   refine XO.done ?_
   have e : (stateP b (powers l) fs true (m + 1)) = (stateP b (powers l) fs true (m)) := dark_second c0
   rw [e] at C2 N2 ⊢
   exact XK.leave (j := some (.exit 0)) [blk p [vb, vg, vs, vc2, vn, .int .i64 (stateP b (powers l) fs true (m)).served] 282, kc2, kn2, blk b10 [.int .i64 ((m : Nat) : Int)] 3] ⟨rfl, rfl⟩ ⟨(m, vc2, kc2, kn2, (m : Int)), ⟨rfl, hi, rfl, by rw [hd]; exact decide_eq_true c0, C2, N2, D1⟩, rfl⟩
  ·skip
   refine XK.skip (XK.seq (XK.region rfl ?_))
   refine XO.q (Q.ld rfl rfl) ?_
   refine XO.q (Q.neqNilN rfl) ?_
   refine XO.done ?_
   refine XK.if rfl (fun c1 => ?_) (fun c1 => ?_)
   ·skip
    simp at c1
   ·skip
    refine XK.skip ?_
    refine XK.inBlock ?_
    exact XK.leave (j := none) [blk p [vb, vg, vs, vc2, vn, .int .i64 (stateP b (powers l) fs true (m + 1)).served] 282, kc2, kn2, blk b10 [.int .i64 (-1)] 3] trivial ⟨(m + 1, vc2, kc2, kn2, -1), ⟨rfl, by dsimp only; omega, rfl, C2, N2, fun j hj => (by rcases Nat.lt_or_ge j m with h3 | h3; exact D1 j h3; rw [show j = m by dsimp only at hj; omega, hd]; exact decide_eq_false c0)⟩, rfl⟩
 ·rintro ⟨m, vc1, kc1, kn1, dk⟩ ⟨hmi, hm, hdk, C1, N1, D1⟩
  dsimp only [lcA, lnA]
  rw [secItems_len] at hmi
  subst hdk
  refine XK.inBlock ?_
  refine XK.seq ?_
  refine XK.drawn [0, 1, 3, 4, 5, 6, 7, 8, 9, 10, 11] [b9, b10, p] [] (.q 0 (.q 1 (.q 3 (.q 4 (.q 5 (.q 6 (.q 7 (.q 8 (.q 9 (.q 10 (.br 2 true (.q 11 (.br 12 false .done .stop)) .stop))))))))))) Tryz.mixed rfl (by kernel_rfl) ?_
  refine XT.q rfl rfl (Q.ld rfl rfl) ?_
  refine XT.q rfl rfl (Q.ld rfl rfl) ?_
  refine XT.q rfl rfl (Q.ld rfl rfl) ?_
  refine XT.q rfl rfl (Q.nilCheck rfl) ?_
  refine XT.q rfl rfl (Q.fieldAddr rfl) ?_
  refine XT.q rfl rfl (Q.ld rfl rfl) ?_
  refine XT.q rfl rfl (Q.ld rfl rfl) ?_
  refine XT.q rfl rfl (Q.nilCheck rfl) ?_
  refine XT.q rfl rfl (Q.fieldAddr rfl) ?_
  refine XT.q rfl rfl (Q.ld rfl rfl) ?_
  refine XT.call rfl rfl Tryz.call134 rfl rfl rfl (energies_spec p vb vg vs vc1 vn (stateP b (powers l) fs true (m)).served kc1 (stateP b (powers l) fs true (m)).cells (by rw [(hst (m) (by omega)).c.len]; exact n8)) (fun v37 s37 R37 => ?_) XT.stop
  obtain ⟨k37, rfl, O37⟩ := R37
  dsimp only [lcA, lnA]
  refine ⟨inferInstance, ?_⟩
  refine XT.q rfl rfl (Q.build [_, _, _, _] (.c 0 1 rfl rfl rfl (.c 1 1 rfl rfl rfl (.c 2 1 rfl rfl rfl (.c 3 1 rfl rfl rfl (.n _)))))) ?_
  refine XT.st rfl rfl rfl rfl rfl ⟨inferInstance, ?_⟩ XT.stop
  refine XT.done ?_
  refine XK.rt [k37, kn1] Tryz.func76 Tryz.results76 (.cell [_, _, _, _] rfl rfl rfl (.n)) ?_
  subst hmi
  obtain ⟨er, ee⟩ := run_never D1
  rw [er]
  exact ⟨v37, vn, k37, kn1, rfl, rfl, O37, N1⟩
 ·rintro _ ⟨m, vc1, kc1, kn1, dk⟩ ⟨rfl, hm, hdk, hdm, C1, N1, D1⟩
  dsimp only [lcA, lnA]
  subst hdk
  refine XK.exit rfl ?_
  refine XK.seq ?_
  refine XK.drawn [0, 1, 3, 4, 5, 6, 7, 8, 9, 10, 11] [b9, b10, p] [] (.q 0 (.q 1 (.q 3 (.q 4 (.q 5 (.q 6 (.q 7 (.q 8 (.q 9 (.q 10 (.br 2 true (.q 11 (.br 12 false .done .stop)) .stop))))))))))) Tryz.mixed rfl (by kernel_rfl) ?_
  refine XT.q rfl rfl (Q.ld rfl rfl) ?_
  refine XT.q rfl rfl (Q.ld rfl rfl) ?_
  refine XT.q rfl rfl (Q.ld rfl rfl) ?_
  refine XT.q rfl rfl (Q.nilCheck rfl) ?_
  refine XT.q rfl rfl (Q.fieldAddr rfl) ?_
  refine XT.q rfl rfl (Q.ld rfl rfl) ?_
  refine XT.q rfl rfl (Q.ld rfl rfl) ?_
  refine XT.q rfl rfl (Q.nilCheck rfl) ?_
  refine XT.q rfl rfl (Q.fieldAddr rfl) ?_
  refine XT.q rfl rfl (Q.ld rfl rfl) ?_
  refine XT.call rfl rfl Tryz.call134 rfl rfl rfl (energies_spec p vb vg vs vc1 vn (stateP b (powers l) fs true (m)).served kc1 (stateP b (powers l) fs true (m)).cells (by rw [(hst (m) (by omega)).c.len]; exact n8)) (fun v37 s37 R37 => ?_) XT.stop
  obtain ⟨k37, rfl, O37⟩ := R37
  dsimp only [lcA, lnA]
  refine ⟨inferInstance, ?_⟩
  refine XT.q rfl rfl (Q.build [_, _, _, _] (.c 0 1 rfl rfl rfl (.c 1 1 rfl rfl rfl (.c 2 1 rfl rfl rfl (.c 3 1 rfl rfl rfl (.n _)))))) ?_
  refine XT.st rfl rfl rfl rfl rfl ⟨inferInstance, ?_⟩ XT.stop
  refine XT.done ?_
  refine XK.rt [k37, kn1] Tryz.func76 Tryz.results76 (.cell [_, _, _, _] rfl rfl rfl (.n)) ?_
  obtain ⟨er, ee⟩ := run_here hm D1 hdm
  rw [er]
  exact ⟨v37, vn, k37, kn1, rfl, rfl, O37, N1⟩
end Go.X.Bk

set_option linter.unusedSimpArgs false
set_option linter.unusedVariables false
set_option maxRecDepth 20000
namespace Go.X.Bk
open Go.Proofs
theorem Run_spec (b : BBank) (vb vg : Value) (hb hg : PHeap) [ib : Arr vb encBat 4 hb b.bats] [ig : Arr vg encGen 5 hg b.gens] (l : List BSpan) (vl : Value) (hl : PHeap) [il : Arr vl encSpan 2 hl l] (fs : List Int) (vf : Value) (hf : PHeap) [jf : Arr vf encI 1 hf fs] : Spec Tryz.prog 29 #[.agg #[vb, vg], vl, vf] [] [hb, hg, hl, hf] (fun v hs => ∃ ve vn ke kn, v = .tuple #[resV (if readyP b l fs = 0 then runP b (powers l) fs else ⟨0, [], [], 0⟩) ve vn, .int .i64 (readyP b l fs)] ∧ hs = [ke, kn] ∧ OArr ve encI 1 3 ke (if readyP b l fs = 0 then runP b (powers l) fs else ⟨0, [], [], 0⟩).energy ∧ OArr vn encI 1 3 kn (if readyP b l fs = 0 then runP b (powers l) fs else ⟨0, [], [], 0⟩).burnt) := by
 refine Spec.intro (fn := Tryz.f29) (N := 21) Tryz.func29 rfl Tryz.ntmps29 rfl fun B => ?_
 refine XK.seq (XK.region rfl ?_)
 refine XO.box rfl fun b3 => ?_
 refine XO.alloc fun b6 => ?_
 refine XO.q (Q.assign rfl) (XO.done (XK.seq (XK.seq (XK.region rfl ?_))))
 refine XO.q (Q.ldA [_, _] rfl rfl rfl) ?_
 refine XO.q (Q.move rfl) (XO.q (Q.move rfl) ?_)
 refine XO.call Tryz.call75 rfl rfl rfl (ready_spec b vb vg hb hg l vl hl fs vf hf) fun v12 s12 R12 => ?_
 obtain ⟨rfl, rfl⟩ := R12
 dsimp only [lcA, lnA]
 refine XO.q (Q.assign rfl) (XO.done (XK.seq (XK.region rfl (XO.q (Q.move rfl) ?_))))
 refine XO.q (Q.neq rfl rfl) ?_
 refine XO.done ?_
 refine XK.if rfl (fun c0 => ?_) (fun c0 => ?_)
 ·skip
  refine XK.seq (XK.region rfl ?_)
  refine XO.q (Q.build [_, _, _, _] (.n _)) ?_
  refine XO.q (Q.move rfl) ?_
  refine XO.st rfl rfl rfl ?_
  refine XO.q (Q.assign rfl) (XO.done ?_)
  refine XK.rt [emp, emp] Tryz.func29 Tryz.results29 (.cell [_, _, _, _] rfl rfl rfl (.t rfl .n)) ?_
  rw [if_neg c0]
  exact ⟨.slice none 0 0, .slice none 0 0, emp, emp, rfl, rfl, OArr.nil (fun _ => rfl), OArr.nil (fun _ => rfl)⟩
 ·skip
  refine XK.skip (XK.seq (XK.region rfl ?_))
  refine XO.q (Q.ldA [_, _] rfl rfl rfl) ?_
  refine XO.q (Q.move rfl) (XO.q (Q.move rfl) ?_)
  have rk := readyP_iff.1 (Decidable.of_not_not c0)
  refine XO.call Tryz.call76 rfl rfl rfl (run_nil b vb vg hb hg l vl hl fs vf hf rk.ob rk.ol rk.of) fun v20 s20 R20 => ?_
  obtain ⟨ve, vn, ke, kn, rfl, rfl, OE, OB⟩ := R20
  dsimp only [lcA, lnA]
  refine XO.st rfl rfl rfl ?_
  refine XO.q (Q.assign rfl) (XO.done ?_)
  refine XK.rt [ke, kn] Tryz.func29 Tryz.results29 (.cell [_, _, _, _] rfl rfl rfl (.t rfl .n)) ?_
  have e0 := Decidable.of_not_not c0
  rw [if_pos e0, e0]
  exact ⟨ve, vn, ke, kn, rfl, rfl, OE, OB⟩
end Go.X.Bk

set_option linter.unusedSimpArgs false
set_option linter.unusedVariables false
set_option maxRecDepth 20000
namespace Go.X.Ht
open Go.Proofs
def encRoom (x : HRoom) : List Value := [.int .i64 x.store, .int .i64 x.limit]
def encWall (x : HWall) : List Value := [.int .i64 x.a, .int .i64 x.b, .int .i64 x.pass]
def encBranch (x : HBranch) : List Value := [.int .i64 x.up, .int .i64 x.opn, .int .i64 x.leak]
def encCooler (x : HCooler) : List Value := [.int .i64 x.room, .int .i64 x.br, .int .i64 x.gain, .int .i64 x.carry, .int .i64 x.supply]
theorem okRoom_iff {x : HRoom} : okRoom x = true ↔ ¬ ((x.store < 1 ∨ 1000000 < x.store) ∨ ¬ inP x.limit 1000000 = true) := by
 simp only [okRoom, Bool.and_eq_true, decide_eq_true_eq, not_or, Classical.not_not]
 constructor <;> rintro ⟨⟨a, b⟩, c⟩ <;> exact ⟨⟨by omega, by omega⟩, c⟩
theorem okWall_iff {n : Nat} {x : HWall} : okWall n x = true ↔ ¬ (((¬ ixP x.a n = true ∨ x.b ≠ -1 ∧ ¬ ixP x.b n = true) ∨ x.a = x.b) ∨ ¬ inP x.pass 100000 = true) := by
 simp only [okWall, Bool.and_eq_true, Bool.or_eq_true, decide_eq_true_eq, not_or, Classical.not_not, not_and]
 constructor
 ·rintro ⟨⟨⟨a, b⟩, c⟩, d⟩
  exact ⟨⟨⟨a, fun h => b.resolve_left h⟩, c⟩, d⟩
 ·rintro ⟨⟨⟨a, b⟩, c⟩, d⟩
  exact ⟨⟨⟨a, if h : x.b = -1 then .inl h else .inr (b h)⟩, c⟩, d⟩
theorem okBranch_iff {i : Nat} {x : HBranch} : okBranch i x = true ↔ ¬ ((((i : Int) = 0 ∧ x.up ≠ -1 ∨ (0 : Int) < i ∧ ¬ ixP x.up i = true) ∨ ¬ inP x.opn 100 = true) ∨ ¬ inP x.leak 100000 = true) := by
 unfold okBranch
 by_cases h : i = 0
 ·subst h; simp [and_assoc]
 ·have h1 : ¬ (i : Int) = 0 := by omega
  have h2 : (0 : Int) < i := by omega
  have h3 : 0 < i := by omega
  simp [h, h2, h3, and_assoc]
theorem okCooler_iff {n m : Nat} {x : HCooler} : okCooler n m x = true ↔ ¬ ((((¬ ixP x.room n = true ∨ ¬ ixP x.br m = true) ∨ ¬ inP x.gain 100000 = true) ∨ ¬ inP x.carry 1000 = true) ∨ ¬ inP x.supply 1000000 = true) := by
 simp only [okCooler, Bool.and_eq_true, not_or, Classical.not_not]
theorem in_spec (n m : Int) : Spec Tryz.prog 61 #[.int .i64 n, .int .i64 m] [] [] (fun v hs => v = .bool (inP n m) ∧ hs = []) := by
 refine Spec.intro (fn := Tryz.f61) (N := 12) Tryz.func61 rfl Tryz.ntmps61 rfl fun B => ?_
 refine XK.seq (XK.region rfl (XO.q (Q.assign rfl) (XO.done (XK.seq (XK.region rfl ?_)))))
 refine XO.q (Q.move rfl) ?_
 refine XO.q (Q.geq rfl rfl) ?_
 refine XO.q (Q.move rfl) ?_
 refine XO.q (Quiet.guardT rfl rfl fun g8 p8 => Q.move rfl) ?_
 refine XO.q (Quiet.guardT rfl rfl fun g9 p9 => Q.move rfl) ?_
 refine XO.q (Quiet.guardT rfl rfl fun g10 p10 => Q.leq (lzv g10 rfl) (lzv g10 rfl)) ?_
 refine XO.q (Q.and rfl (fun hp => lzv hp rfl)) ?_
 refine XO.q (Q.assign rfl) (XO.done ?_)
 refine XK.rt [] Tryz.func61 Tryz.results61 (.t rfl .n) ?_
 exact ⟨rfl, rfl⟩
theorem indexRoom (n : Int) (v : Value) (hh : PHeap) (xs : List HRoom) [s : Arr v encRoom 2 hh xs] : Spec Tryz.prog 163 #[.int .i64 n, v] [] [hh] (fun v hs => v = .bool (ixP n xs.length) ∧ hs = []) := by
 refine Spec.intro (fn := Tryz.f163) (N := 13) Tryz.func163 rfl Tryz.ntmps163 rfl fun B => ?_
 refine XK.seq (XK.region rfl (XO.q (Q.assign rfl) (XO.done (XK.seq (XK.region rfl ?_)))))
 refine XO.q (Q.move rfl) ?_
 refine XO.q (Q.geq rfl rfl) ?_
 refine XO.q (Q.move rfl) ?_
 refine XO.q (Quiet.guardT rfl rfl fun g8 p8 => Q.move rfl) ?_
 refine XO.q (Quiet.guardT rfl rfl fun g9 p9 => Q.move rfl) ?_
 refine XO.q (Quiet.guardT rfl rfl fun g10 p10 => Q.len (lzv g10 rfl)) ?_
 refine XO.q (Quiet.guardT rfl rfl fun g11 p11 => Q.lss (lzv g11 rfl) (lzv g11 rfl)) ?_
 refine XO.q (Q.and rfl (fun hp => lzv hp rfl)) ?_
 refine XO.q (Q.assign rfl) (XO.done ?_)
 refine XK.rt [] Tryz.func163 Tryz.results163 (.t rfl .n) ?_
 exact ⟨rfl, rfl⟩
theorem indexBranch (n : Int) (v : Value) (hh : PHeap) (xs : List HBranch) [s : Arr v encBranch 3 hh xs] : Spec Tryz.prog 164 #[.int .i64 n, v] [] [hh] (fun v hs => v = .bool (ixP n xs.length) ∧ hs = []) := by
 refine Spec.intro (fn := Tryz.f164) (N := 13) Tryz.func164 rfl Tryz.ntmps164 rfl fun B => ?_
 refine XK.seq (XK.region rfl (XO.q (Q.assign rfl) (XO.done (XK.seq (XK.region rfl ?_)))))
 refine XO.q (Q.move rfl) ?_
 refine XO.q (Q.geq rfl rfl) ?_
 refine XO.q (Q.move rfl) ?_
 refine XO.q (Quiet.guardT rfl rfl fun g8 p8 => Q.move rfl) ?_
 refine XO.q (Quiet.guardT rfl rfl fun g9 p9 => Q.move rfl) ?_
 refine XO.q (Quiet.guardT rfl rfl fun g10 p10 => Q.len (lzv g10 rfl)) ?_
 refine XO.q (Quiet.guardT rfl rfl fun g11 p11 => Q.lss (lzv g11 rfl) (lzv g11 rfl)) ?_
 refine XO.q (Q.and rfl (fun hp => lzv hp rfl)) ?_
 refine XO.q (Q.assign rfl) (XO.done ?_)
 refine XK.rt [] Tryz.func164 Tryz.results164 (.t rfl .n) ?_
 exact ⟨rfl, rfl⟩
theorem indexCut (n : Int) (v : Value) (hh : PHeap) (xs : List HBranch) [s : Arr v encBranch 3 hh xs] (i : Nat) (hi : i ≤ xs.length) : Spec Tryz.prog 164 #[.int .i64 n, cutv v 3 0 i] [] [hh] (fun v hs => v = .bool (ixP n i) ∧ hs = []) := by
 haveI := Arr.cut s (i := 0) (j := i) (by omega) hi
 have h := indexBranch n (cutv v 3 0 i) hh ((xs.drop 0).take (i - 0))
 rwa [List.drop_zero, Nat.sub_zero, List.length_take, Nat.min_eq_left hi] at h
theorem allowed_spec (h : Hall) (vr vw vb vc : Value) (hr hw hb hc : PHeap) [ir : Arr vr encRoom 2 hr h.rooms] [iw : Arr vw encWall 3 hw h.walls] [ib : Arr vb encBranch 3 hb h.branches] [ic : Arr vc encCooler 5 hc h.coolers] : Spec Tryz.prog 106 #[.agg #[vr, vw, vb, vc]] [] [hr, hw, hb, hc] (fun v hs => v = .bool (allowedP h) ∧ hs = []) := by
 have lr := ir.le
 have lw := iw.le
 have lb := ib.le
 have lc := ic.le
 refine Spec.intro (fn := Tryz.f106) (N := 155) Tryz.func106 rfl Tryz.ntmps106 rfl fun B => ?_
 refine XK.seq (XK.region rfl ?_)
 refine XO.box rfl fun b1 => ?_
 refine XO.q (Q.assign rfl) (XO.done (XK.seq (XK.seq (XK.region rfl ?_))))
 refine XO.q (Q.fieldAddr rfl) ?_
 refine XO.q (Q.ld rfl rfl) ?_
 refine XO.len rfl fun l13 => ?_
 refine XO.q (Q.move rfl) (XO.done (XK.block ?_))
 refine XK.while (X := Nat) [2, 4, 14, 15, 16, 17, 18, 19, 20, 21, 22, 23, 24, 25, 26, 27, 28, 29, 30, 31, 32] (fun i => [(14, some (.int .i64 (i : Nat)))]) (fun i => []) (fun i => i ≤ h.rooms.length ∧ roomsOk h i = true) (fun i => h.rooms.length - i) (0) [] rfl ⟨by omega, rfl⟩ (.c rfl (.base 0 rfl rfl)) ?_
 rintro i ⟨hi, hall⟩ ih0
 dsimp only [lcA, lnA] at ih0 ⊢
 refine XK.seq (XK.region rfl ?_)
 refine XO.q (Q.lss rfl rfl) ?_
 refine XO.done (XK.seq ?_)
 refine XK.if rfl (fun c0 => ?_) (fun c0 => ?_)
 ·skip
  refine XK.skip (XK.seq (XK.block (XK.seq (XK.region rfl ?_))))
  refine XO.ix rfl rfl (by omega) (by omega) fun i16 => ?_
  refine XO.q (Q.ldEA [_, _] rfl (by first | assumption | omega) rfl rfl) ?_
  refine XO.alloc fun b4 => ?_
  refine XO.st rfl rfl rfl ?_
  refine XO.done (XK.seq (XK.region rfl ?_))
  refine XO.q (Q.fieldAddr rfl) ?_
  refine XO.q (Q.ld rfl rfl) ?_
  refine XO.q (Q.lss rfl rfl) ?_
  refine XO.q (Q.move rfl) ?_
  refine XO.q (Quiet.guardF rfl rfl fun g22 p22 => Q.fieldAddr rfl) ?_
  refine XO.q (Quiet.guardF rfl rfl fun g23 p23 => Q.ld (lzv g23 rfl) rfl) ?_
  refine XO.q (Quiet.guardF rfl rfl fun g24 p24 => Q.gtr (lzv g24 rfl) rfl) ?_
  refine XO.q (Q.or rfl (fun hp => lzv hp rfl)) ?_
  refine XO.q (Q.move rfl) ?_
  refine XO.q (Quiet.guardF rfl rfl fun g27 p27 => Q.fieldAddr rfl) ?_
  refine XO.q (Quiet.guardF rfl rfl fun g28 p28 => Q.ld (lzv g28 rfl) rfl) ?_
  refine XO.gcallF rfl rfl Tryz.call61 rfl (fun g29 => .c (lzv g29 rfl) (.c rfl .n)) rfl (fun g29 p29 => in_spec _ _) ?_
  refine XO.q (Quiet.guardF rfl rfl fun g30 p30 => Q.not (lzv g30 rfl)) ?_
  refine XO.q (Q.or rfl (fun hp => lzv hp rfl)) ?_
  refine XO.done ?_
  refine XK.if rfl (fun c1 => ?_) (fun c1 => ?_)
  ·skip
   refine XK.seq (XK.region rfl (XO.q (Q.assign rfl) (XO.done ?_)))
   refine XK.rt [] Tryz.func106 Tryz.results106 (.t rfl .n) ?_
   have hb : roomsOk h h.rooms.length = false := allTo_false (s := i) (by omega) (by rw [Bool.eq_false_iff]; intro h; exact (okRoom_iff.1 h) c1)
   exact ⟨by simp [allowedP, hb], rfl⟩
  ·skip
   refine XK.skip ?_
   refine XK.inBlock ?_
   refine XK.region rfl ?_
   refine XO.q (Q.add rfl rfl ⟨by omega, by omega⟩) ?_
   refine XO.q (Q.move rfl) (XO.done ?_)
   exact ih0 (i + 1) _ _ ⟨by omega, by rw [roomsOk, allTo_succ]; rw [roomsOk] at hall; rw [hall, Bool.true_and]; exact okRoom_iff.2 c1⟩ (by first | omega | (dsimp only; omega)) (.c rfl (.base 42 rfl rfl)) inferInstance
 ·skip
  have e1 : roomsOk h h.rooms.length = true := by rw [show h.rooms.length = i by omega]; exact hall
  clear ih0 hall hi c0
  refine XK.exit rfl ?_
  refine XK.seq (XK.seq (XK.region rfl ?_))
  refine XO.q (Q.fieldAddr rfl) ?_
  refine XO.q (Q.ld rfl rfl) ?_
  refine XO.len rfl fun l35 => ?_
  refine XO.q (Q.move rfl) (XO.done (XK.block ?_))
  refine XK.while (X := Nat) [2, 6, 36, 37, 38, 39, 40, 41, 42, 43, 44, 45, 46, 47, 48, 49, 50, 51, 52, 53, 54, 55, 56, 57, 58, 59, 60, 61, 62, 63, 64, 65, 66, 67, 68, 69, 70, 71, 72] (fun i => [(36, some (.int .i64 (i : Nat)))]) (fun i => []) (fun i => i ≤ h.walls.length ∧ wallsOk h i = true) (fun i => h.walls.length - i) (0) [] rfl ⟨by omega, rfl⟩ (.c rfl (.base 0 rfl rfl)) ?_
  rintro i ⟨hi, hall⟩ ih1
  dsimp only [lcA, lnA] at ih1 ⊢
  refine XK.seq (XK.region rfl ?_)
  refine XO.q (Q.lss rfl rfl) ?_
  refine XO.done (XK.seq ?_)
  refine XK.if rfl (fun c2 => ?_) (fun c2 => ?_)
  ·skip
   refine XK.skip (XK.seq (XK.block (XK.seq (XK.region rfl ?_))))
   refine XO.ix rfl rfl (by omega) (by omega) fun i38 => ?_
   refine XO.q (Q.ldEA [_, _, _] rfl (by first | assumption | omega) rfl rfl) ?_
   refine XO.alloc fun b6 => ?_
   refine XO.st rfl rfl rfl ?_
   refine XO.done (XK.seq (XK.region rfl ?_))
   refine XO.q (Q.fieldAddr rfl) ?_
   refine XO.q (Q.ld rfl rfl) ?_
   refine XO.q (Q.fieldAddr rfl) ?_
   refine XO.q (Q.ld rfl rfl) ?_
   refine XO.call Tryz.call163 rfl rfl rfl (indexRoom _ vr hr h.rooms) fun v44 s44 R44 => ?_
   obtain ⟨rfl, rfl⟩ := R44
   dsimp only [lcA, lnA]
   refine XO.q (Q.not rfl) ?_
   refine XO.q (Q.move rfl) ?_
   refine XO.q (Quiet.guardF rfl rfl fun g47 p47 => Q.fieldAddr rfl) ?_
   refine XO.q (Quiet.guardF rfl rfl fun g48 p48 => Q.ld (lzv g48 rfl) rfl) ?_
   refine XO.q (Quiet.guardF rfl rfl fun g49 p49 => Q.neq (lzv g49 rfl) rfl) ?_
   refine XO.q (Quiet.guardF rfl rfl fun g50 p50 => Q.move (lzv g50 rfl)) ?_
   refine XO.q (Quiet.guard2 rfl rfl fun g51a g51b => have p51a := bpF g51a; have p51b := bpT g51b; Q.fieldAddr rfl) ?_
   refine XO.q (Quiet.guard2 rfl rfl fun g52a g52b => have p52a := bpF g52a; have p52b := bpT g52b; Q.ld (lzv g52b (lzv g52a rfl)) rfl) ?_
   refine XO.q (Quiet.guard2 rfl rfl fun g53a g53b => have p53a := bpF g53a; have p53b := bpT g53b; Q.fieldAddr rfl) ?_
   refine XO.q (Quiet.guard2 rfl rfl fun g54a g54b => have p54a := bpF g54a; have p54b := bpT g54b; Q.ld (lzv g54b (lzv g54a rfl)) rfl) ?_
   refine XO.vg2 rfl rfl (fun g55a g55b => rfl) (fun g55a g55b => .c (lzv g55b (lzv g55a rfl)) (.c (lzv g55b (lzv g55a rfl)) .n)) (fun g55a g55b => have p55a := bpF g55a; have p55b := bpT g55b; VSpec.fn (P := Tryz.prog) Tryz.call163 rfl (indexRoom _ vr hr h.rooms)) ?_
   refine XO.q (Quiet.guard2 rfl rfl fun g56a g56b => have p56a := bpF g56a; have p56b := bpT g56b; Q.not (lzv g56b (lzv g56a rfl))) ?_
   refine XO.q (Quiet.guardF rfl rfl fun g57 p57 => Q.and (lzv g57 rfl) (fun hp => (lzv hp (lzv g57 rfl)))) ?_
   refine XO.q (Q.or rfl (fun hp => lzv hp rfl)) ?_
   refine XO.q (Q.move rfl) ?_
   refine XO.q (Quiet.guardF rfl rfl fun g60 p60 => Q.fieldAddr rfl) ?_
   refine XO.q (Quiet.guardF rfl rfl fun g61 p61 => Q.ld (lzv g61 rfl) rfl) ?_
   refine XO.q (Quiet.guardF rfl rfl fun g62 p62 => Q.fieldAddr rfl) ?_
   refine XO.q (Quiet.guardF rfl rfl fun g63 p63 => Q.ld (lzv g63 rfl) rfl) ?_
   refine XO.q (Quiet.guardF rfl rfl fun g64 p64 => Q.eql (lzv g64 rfl) (lzv g64 rfl)) ?_
   refine XO.q (Q.or rfl (fun hp => lzv hp rfl)) ?_
   refine XO.q (Q.move rfl) ?_
   refine XO.q (Quiet.guardF rfl rfl fun g67 p67 => Q.fieldAddr rfl) ?_
   refine XO.q (Quiet.guardF rfl rfl fun g68 p68 => Q.ld (lzv g68 rfl) rfl) ?_
   refine XO.gcallF rfl rfl Tryz.call61 rfl (fun g69 => .c (lzv g69 rfl) (.c rfl .n)) rfl (fun g69 p69 => in_spec _ _) ?_
   refine XO.q (Quiet.guardF rfl rfl fun g70 p70 => Q.not (lzv g70 rfl)) ?_
   refine XO.q (Q.or rfl (fun hp => lzv hp rfl)) ?_
   refine XO.done ?_
   refine XK.if rfl (fun c3 => ?_) (fun c3 => ?_)
   ·skip
    refine XK.seq (XK.region rfl (XO.q (Q.assign rfl) (XO.done ?_)))
    refine XK.rt [] Tryz.func106 Tryz.results106 (.t rfl .n) ?_
    have hb : wallsOk h h.walls.length = false := allTo_false (s := i) (by omega) (by rw [Bool.eq_false_iff]; intro h; exact (okWall_iff.1 h) c3)
    exact ⟨by simp [allowedP, hb], rfl⟩
   ·skip
    refine XK.skip ?_
    refine XK.inBlock ?_
    refine XK.region rfl ?_
    refine XO.q (Q.add rfl rfl ⟨by omega, by omega⟩) ?_
    refine XO.q (Q.move rfl) (XO.done ?_)
    exact ih1 (i + 1) _ _ ⟨by omega, by rw [wallsOk, allTo_succ]; rw [wallsOk] at hall; rw [hall, Bool.true_and]; exact okWall_iff.2 c3⟩ (by first | omega | (dsimp only; omega)) (.c rfl (.base 78 rfl rfl)) inferInstance
  ·skip
   have e2 : wallsOk h h.walls.length = true := by rw [show h.walls.length = i by omega]; exact hall
   clear ih1 hall hi c2
   refine XK.exit rfl ?_
   refine XK.seq (XK.seq (XK.region rfl ?_))
   refine XO.q (Q.fieldAddr rfl) ?_
   refine XO.q (Q.ld rfl rfl) ?_
   refine XO.len rfl fun l75 => ?_
   refine XO.q (Q.move rfl) (XO.done (XK.block ?_))
   refine XK.while (X := Nat) [2, 7, 8, 76, 77, 78, 79, 80, 81, 82, 83, 84, 85, 86, 87, 88, 89, 90, 91, 92, 93, 94, 95, 96, 97, 98, 99, 100, 101, 102, 103, 104, 105, 106, 107, 108, 109, 110, 111, 112, 113, 114] (fun i => [(76, some (.int .i64 (i : Nat)))]) (fun i => []) (fun i => i ≤ h.branches.length ∧ branchesOk h i = true) (fun i => h.branches.length - i) (0) [] rfl ⟨by omega, rfl⟩ (.c rfl (.base 0 rfl rfl)) ?_
   rintro i ⟨hi, hall⟩ ih2
   dsimp only [lcA, lnA] at ih2 ⊢
   refine XK.seq (XK.region rfl ?_)
   refine XO.q (Q.lss rfl rfl) ?_
   refine XO.done (XK.seq ?_)
   refine XK.if rfl (fun c4 => ?_) (fun c4 => ?_)
   ·skip
    refine XK.skip (XK.seq (XK.block (XK.seq (XK.region rfl (XO.q (Q.move rfl) ?_)))))
    refine XO.ix rfl rfl (by omega) (by omega) fun i79 => ?_
    refine XO.q (Q.ldEA [_, _, _] rfl (by first | assumption | omega) rfl rfl) ?_
    refine XO.alloc fun b8 => ?_
    refine XO.q (Q.assign rfl) ?_
    refine XO.st rfl rfl rfl ?_
    refine XO.done (XK.seq ?_)
    refine XK.drawn [0, 1, 2, 3, 4, 5, 6, 7, 8, 9, 10, 11, 12, 13, 14, 15, 16, 18, 19, 20, 21, 22, 23, 25, 26, 27, 28, 29, 31, 32] [b8, b1] [] (.q 0 (.q 1 (.q 2 (.q 3 (.q 4 (.q 5 (.q 6 (.q 7 (.q 8 (.q 9 (.q 10 (.q 11 (.q 12 (.q 13 (.q 14 (.q 15 (.q 16 (.br 17 true (.q 18 (.q 19 (.q 20 (.q 21 (.q 22 (.q 23 (.br 24 true (.q 25 (.q 26 (.q 27 (.q 28 (.q 29 (.br 30 true (.q 31 (.q 32 .done)) .stop)))))) .stop))))))) .stop)))))))))))))))))) Tryz.mixed rfl (by kernel_rfl) ?_
    refine XT.q rfl rfl (Q.move rfl) ?_
    refine XT.q rfl rfl (Q.eql rfl rfl) ?_
    refine XT.q rfl rfl (Q.move rfl) ?_
    refine XT.q rfl rfl (Quiet.guardT rfl rfl fun g84 p84 => Q.fieldAddr rfl) ?_
    refine XT.q rfl rfl (Quiet.guardT rfl rfl fun g85 p85 => Q.ld (lzv g85 rfl) rfl) ?_
    refine XT.q rfl rfl (Quiet.guardT rfl rfl fun g86 p86 => Q.neq (lzv g86 rfl) rfl) ?_
    refine XT.q rfl rfl (Q.and rfl (fun hp => lzv hp rfl)) ?_
    refine XT.q rfl rfl (Q.move rfl) ?_
    refine XT.q rfl rfl (Quiet.guardF rfl rfl fun g89 p89 => Q.move rfl) ?_
    refine XT.q rfl rfl (Quiet.guardF rfl rfl fun g90 p90 => Q.gtr (lzv g90 rfl) rfl) ?_
    refine XT.q rfl rfl (Quiet.guardF rfl rfl fun g91 p91 => Q.move (lzv g91 rfl)) ?_
    refine XT.q rfl rfl (Quiet.guard2 rfl rfl fun g92a g92b => have p92a := bpF g92a; have p92b := bpT g92b; Q.fieldAddr rfl) ?_
    refine XT.q rfl rfl (Quiet.guard2 rfl rfl fun g93a g93b => have p93a := bpF g93a; have p93b := bpT g93b; Q.ld (lzv g93b (lzv g93a rfl)) rfl) ?_
    refine XT.q rfl rfl (Quiet.guard2 rfl rfl fun g94a g94b => have p94a := bpF g94a; have p94b := bpT g94b; Q.fieldAddr rfl) ?_
    refine XT.q rfl rfl (Quiet.guard2 rfl rfl fun g95a g95b => have p95a := bpF g95a; have p95b := bpT g95b; Q.ld (lzv g95b (lzv g95a rfl)) rfl) ?_
    refine XT.q rfl rfl (Quiet.guard2 rfl rfl fun g96a g96b => have p96a := bpF g96a; have p96b := bpT g96b; Q.move rfl) ?_
    refine XT.q rfl rfl (Quiet.guard2 rfl rfl fun g97a g97b => have p97a := bpF g97a; have p97b := bpT g97b; Q.cut (i := 0) (j := i) (lzv g97b (lzv g97a rfl)) .n (.s (lzv g97b (lzv g97a rfl)) (by omega)) (by omega) (by omega)) ?_
    refine XT.vg2 rfl rfl rfl rfl (fun g98a g98b => rfl) (fun g98a g98b => .c (lzv g98b (lzv g98a rfl)) (.c (lzv g98b (lzv g98a rfl)) .n)) (fun g98a g98b => have p98a := bpF g98a; have p98b := bpT g98b; VSpec.fn (P := Tryz.prog) Tryz.call164 rfl (indexCut _ vb hb h.branches i (by omega))) ⟨inferInstance, ?_⟩ XT.stop
    refine XT.q rfl rfl (Quiet.guard2 rfl rfl fun g99a g99b => have p99a := bpF g99a; have p99b := bpT g99b; Q.not (lzv g99b (lzv g99a rfl))) ?_
    refine XT.q rfl rfl (Quiet.guardF rfl rfl fun g100 p100 => Q.and (lzv g100 rfl) (fun hp => (lzv hp (lzv g100 rfl)))) ?_
    refine XT.q rfl rfl (Q.or rfl (fun hp => lzv hp rfl)) ?_
    refine XT.q rfl rfl (Q.move rfl) ?_
    refine XT.q rfl rfl (Quiet.guardF rfl rfl fun g103 p103 => Q.fieldAddr rfl) ?_
    refine XT.q rfl rfl (Quiet.guardF rfl rfl fun g104 p104 => Q.ld (lzv g104 rfl) rfl) ?_
    refine XT.gcallF rfl rfl rfl rfl Tryz.call61 rfl (fun g105 => .c (lzv g105 rfl) (.c rfl .n)) rfl (fun g105 p105 => in_spec _ _) ⟨inferInstance, ?_⟩ XT.stop
    refine XT.q rfl rfl (Quiet.guardF rfl rfl fun g106 p106 => Q.not (lzv g106 rfl)) ?_
    refine XT.q rfl rfl (Q.or rfl (fun hp => lzv hp rfl)) ?_
    refine XT.q rfl rfl (Q.move rfl) ?_
    refine XT.q rfl rfl (Quiet.guardF rfl rfl fun g109 p109 => Q.fieldAddr rfl) ?_
    refine XT.q rfl rfl (Quiet.guardF rfl rfl fun g110 p110 => Q.ld (lzv g110 rfl) rfl) ?_
    refine XT.gcallF rfl rfl rfl rfl Tryz.call61 rfl (fun g111 => .c (lzv g111 rfl) (.c rfl .n)) rfl (fun g111 p111 => in_spec _ _) ⟨inferInstance, ?_⟩ XT.stop
    refine XT.q rfl rfl (Quiet.guardF rfl rfl fun g112 p112 => Q.not (lzv g112 rfl)) ?_
    refine XT.q rfl rfl (Q.or rfl (fun hp => lzv hp rfl)) ?_
    refine XT.done ?_
    refine XK.if rfl (fun c5 => ?_) (fun c5 => ?_)
    ·skip
     refine XK.seq (XK.region rfl (XO.q (Q.assign rfl) (XO.done ?_)))
     refine XK.rt [] Tryz.func106 Tryz.results106 (.t rfl .n) ?_
     have hb : branchesOk h h.branches.length = false := allTo_false (s := i) (by omega) (by rw [Bool.eq_false_iff]; intro h; exact (okBranch_iff.1 h) c5)
     exact ⟨by simp [allowedP, hb], rfl⟩
    ·skip
     refine XK.skip ?_
     refine XK.inBlock ?_
     refine XK.region rfl ?_
     refine XO.q (Q.add rfl rfl ⟨by omega, by omega⟩) ?_
     refine XO.q (Q.move rfl) (XO.done ?_)
     exact ih2 (i + 1) _ _ ⟨by omega, by rw [branchesOk, allTo_succ]; rw [branchesOk] at hall; rw [hall, Bool.true_and]; exact okBranch_iff.2 c5⟩ (by first | omega | (dsimp only; omega)) (.c rfl (.base 84 rfl rfl)) inferInstance
   ·skip
    have e3 : branchesOk h h.branches.length = true := by rw [show h.branches.length = i by omega]; exact hall
    clear ih2 hall hi c4
    refine XK.exit rfl ?_
    refine XK.seq (XK.seq (XK.region rfl ?_))
    refine XO.q (Q.fieldAddr rfl) ?_
    refine XO.q (Q.ld rfl rfl) ?_
    refine XO.len rfl fun l117 => ?_
    refine XO.q (Q.move rfl) (XO.done (XK.block ?_))
    refine XK.while (X := Nat) [2, 10, 118, 119, 120, 121, 122, 123, 124, 125, 126, 127, 128, 129, 130, 131, 132, 133, 134, 135, 136, 137, 138, 139, 140, 141, 142, 143, 144, 145, 146, 147, 148, 149, 150, 151, 152, 153, 154] (fun i => [(118, some (.int .i64 (i : Nat)))]) (fun i => []) (fun i => i ≤ h.coolers.length ∧ coolersOk h i = true) (fun i => h.coolers.length - i) (0) [] rfl ⟨by omega, rfl⟩ (.c rfl (.base 0 rfl rfl)) ?_
    rintro i ⟨hi, hall⟩ ih3
    dsimp only [lcA, lnA] at ih3 ⊢
    refine XK.seq (XK.region rfl ?_)
    refine XO.q (Q.lss rfl rfl) ?_
    refine XO.done (XK.seq ?_)
    refine XK.if rfl (fun c6 => ?_) (fun c6 => ?_)
    ·skip
     refine XK.skip (XK.seq (XK.block (XK.seq (XK.region rfl ?_))))
     refine XO.ix rfl rfl (by omega) (by omega) fun i120 => ?_
     refine XO.q (Q.ldEA [_, _, _, _, _] rfl (by first | assumption | omega) rfl rfl) ?_
     refine XO.alloc fun b10 => ?_
     refine XO.st rfl rfl rfl ?_
     refine XO.done (XK.seq (XK.region rfl ?_))
     refine XO.q (Q.fieldAddr rfl) ?_
     refine XO.q (Q.ld rfl rfl) ?_
     refine XO.q (Q.fieldAddr rfl) ?_
     refine XO.q (Q.ld rfl rfl) ?_
     refine XO.call Tryz.call163 rfl rfl rfl (indexRoom _ vr hr h.rooms) fun v126 s126 R126 => ?_
     obtain ⟨rfl, rfl⟩ := R126
     dsimp only [lcA, lnA]
     refine XO.q (Q.not rfl) ?_
     refine XO.q (Q.move rfl) ?_
     refine XO.q (Quiet.guardF rfl rfl fun g129 p129 => Q.fieldAddr rfl) ?_
     refine XO.q (Quiet.guardF rfl rfl fun g130 p130 => Q.ld (lzv g130 rfl) rfl) ?_
     refine XO.q (Quiet.guardF rfl rfl fun g131 p131 => Q.fieldAddr rfl) ?_
     refine XO.q (Quiet.guardF rfl rfl fun g132 p132 => Q.ld (lzv g132 rfl) rfl) ?_
     refine XO.gcallF rfl rfl Tryz.call164 rfl (fun g133 => .c (lzv g133 rfl) (.c (lzv g133 rfl) .n)) rfl (fun g133 p133 => indexBranch _ vb hb h.branches) ?_
     refine XO.q (Quiet.guardF rfl rfl fun g134 p134 => Q.not (lzv g134 rfl)) ?_
     refine XO.q (Q.or rfl (fun hp => lzv hp rfl)) ?_
     refine XO.q (Q.move rfl) ?_
     refine XO.q (Quiet.guardF rfl rfl fun g137 p137 => Q.fieldAddr rfl) ?_
     refine XO.q (Quiet.guardF rfl rfl fun g138 p138 => Q.ld (lzv g138 rfl) rfl) ?_
     refine XO.gcallF rfl rfl Tryz.call61 rfl (fun g139 => .c (lzv g139 rfl) (.c rfl .n)) rfl (fun g139 p139 => in_spec _ _) ?_
     refine XO.q (Quiet.guardF rfl rfl fun g140 p140 => Q.not (lzv g140 rfl)) ?_
     refine XO.q (Q.or rfl (fun hp => lzv hp rfl)) ?_
     refine XO.q (Q.move rfl) ?_
     refine XO.q (Quiet.guardF rfl rfl fun g143 p143 => Q.fieldAddr rfl) ?_
     refine XO.q (Quiet.guardF rfl rfl fun g144 p144 => Q.ld (lzv g144 rfl) rfl) ?_
     refine XO.gcallF rfl rfl Tryz.call61 rfl (fun g145 => .c (lzv g145 rfl) (.c rfl .n)) rfl (fun g145 p145 => in_spec _ _) ?_
     refine XO.q (Quiet.guardF rfl rfl fun g146 p146 => Q.not (lzv g146 rfl)) ?_
     refine XO.q (Q.or rfl (fun hp => lzv hp rfl)) ?_
     refine XO.q (Q.move rfl) ?_
     refine XO.q (Quiet.guardF rfl rfl fun g149 p149 => Q.fieldAddr rfl) ?_
     refine XO.q (Quiet.guardF rfl rfl fun g150 p150 => Q.ld (lzv g150 rfl) rfl) ?_
     refine XO.gcallF rfl rfl Tryz.call61 rfl (fun g151 => .c (lzv g151 rfl) (.c rfl .n)) rfl (fun g151 p151 => in_spec _ _) ?_
     refine XO.q (Quiet.guardF rfl rfl fun g152 p152 => Q.not (lzv g152 rfl)) ?_
     refine XO.q (Q.or rfl (fun hp => lzv hp rfl)) ?_
     refine XO.done ?_
     refine XK.if rfl (fun c7 => ?_) (fun c7 => ?_)
     ·skip
      refine XK.seq (XK.region rfl (XO.q (Q.assign rfl) (XO.done ?_)))
      refine XK.rt [] Tryz.func106 Tryz.results106 (.t rfl .n) ?_
      have hb : coolersOk h h.coolers.length = false := allTo_false (s := i) (by omega) (by rw [Bool.eq_false_iff]; intro h; exact (okCooler_iff.1 h) c7)
      exact ⟨by simp [allowedP, hb], rfl⟩
     ·skip
      refine XK.skip ?_
      refine XK.inBlock ?_
      refine XK.region rfl ?_
      refine XO.q (Q.add rfl rfl ⟨by omega, by omega⟩) ?_
      refine XO.q (Q.move rfl) (XO.done ?_)
      exact ih3 (i + 1) _ _ ⟨by omega, by rw [coolersOk, allTo_succ]; rw [coolersOk] at hall; rw [hall, Bool.true_and]; exact okCooler_iff.2 c7⟩ (by first | omega | (dsimp only; omega)) (.c rfl (.base 78 rfl rfl)) inferInstance
    ·skip
     have e4 : coolersOk h h.coolers.length = true := by rw [show h.coolers.length = i by omega]; exact hall
     refine XK.exit rfl ?_
     refine XK.seq (XK.region rfl (XO.q (Q.assign rfl) (XO.done ?_)))
     refine XK.rt [] Tryz.func106 Tryz.results106 (.t rfl .n) ?_
     exact ⟨by rw [allowedP, e1, e2, e3, e4]; rfl, rfl⟩
end Go.X.Ht

set_option linter.unusedSimpArgs false
set_option linter.unusedVariables false
set_option maxRecDepth 20000
namespace Go.X.Ht
open Go.Proofs
theorem hcheck_many {h : Hall} (c : (((((h.rooms.length : Int) < 1 ∨ 8 < (h.rooms.length : Int)) ∨ 16 < (h.walls.length : Int)) ∨ 16 < (h.branches.length : Int)) ∨ 16 < (h.coolers.length : Int))) : hcheck h = 2 := by rw [hcheck, if_pos c]
theorem Check_spec (h : Hall) (vr vw vb vc : Value) (hr hw hb hc : PHeap) [ir : Arr vr encRoom 2 hr h.rooms] [iw : Arr vw encWall 3 hw h.walls] [ib : Arr vb encBranch 3 hb h.branches] [ic : Arr vc encCooler 5 hc h.coolers] : Spec Tryz.prog 49 #[.agg #[vr, vw, vb, vc]] [] [hr, hw, hb, hc] (fun v hs => v = .int .i64 (hcheck h) ∧ hs = []) := by
 have lr := ir.le
 have lw := iw.le
 have lb := ib.le
 have lc := ic.le
 refine Spec.intro (fn := Tryz.f49) (N := 92) Tryz.func49 rfl Tryz.ntmps49 rfl fun B => ?_
 refine XK.seq (XK.region rfl ?_)
 refine XO.box rfl fun b1 => ?_
 refine XO.q (Q.assign rfl) (XO.done (XK.seq (XK.seq (XK.region rfl ?_))))
 refine XO.q (Q.fieldAddr rfl) ?_
 refine XO.q (Q.ld rfl rfl) ?_
 refine XO.len rfl fun l12 => ?_
 refine XO.q (Q.lss rfl rfl) ?_
 refine XO.q (Q.move rfl) ?_
 refine XO.q (Quiet.guardF rfl rfl fun g15 p15 => Q.fieldAddr rfl) ?_
 refine XO.q (Quiet.guardF rfl rfl fun g16 p16 => Q.ld (lzv g16 rfl) rfl) ?_
 refine XO.q (Quiet.guardF rfl rfl fun g17 p17 => Q.len (lzv g17 rfl)) ?_
 refine XO.q (Quiet.guardF rfl rfl fun g18 p18 => Q.gtr (lzv g18 rfl) rfl) ?_
 refine XO.q (Q.or rfl (fun hp => lzv hp rfl)) ?_
 refine XO.q (Q.move rfl) ?_
 refine XO.q (Quiet.guardF rfl rfl fun g21 p21 => Q.fieldAddr rfl) ?_
 refine XO.q (Quiet.guardF rfl rfl fun g22 p22 => Q.ld (lzv g22 rfl) rfl) ?_
 refine XO.q (Quiet.guardF rfl rfl fun g23 p23 => Q.len (lzv g23 rfl)) ?_
 refine XO.q (Quiet.guardF rfl rfl fun g24 p24 => Q.gtr (lzv g24 rfl) rfl) ?_
 refine XO.q (Q.or rfl (fun hp => lzv hp rfl)) ?_
 refine XO.q (Q.move rfl) ?_
 refine XO.q (Quiet.guardF rfl rfl fun g27 p27 => Q.fieldAddr rfl) ?_
 refine XO.q (Quiet.guardF rfl rfl fun g28 p28 => Q.ld (lzv g28 rfl) rfl) ?_
 refine XO.q (Quiet.guardF rfl rfl fun g29 p29 => Q.len (lzv g29 rfl)) ?_
 refine XO.q (Quiet.guardF rfl rfl fun g30 p30 => Q.gtr (lzv g30 rfl) rfl) ?_
 refine XO.q (Q.or rfl (fun hp => lzv hp rfl)) ?_
 refine XO.q (Q.move rfl) ?_
 refine XO.q (Quiet.guardF rfl rfl fun g33 p33 => Q.fieldAddr rfl) ?_
 refine XO.q (Quiet.guardF rfl rfl fun g34 p34 => Q.ld (lzv g34 rfl) rfl) ?_
 refine XO.q (Quiet.guardF rfl rfl fun g35 p35 => Q.len (lzv g35 rfl)) ?_
 refine XO.q (Quiet.guardF rfl rfl fun g36 p36 => Q.gtr (lzv g36 rfl) rfl) ?_
 refine XO.q (Q.or rfl (fun hp => lzv hp rfl)) ?_
 refine XO.done ?_
 refine XK.if rfl (fun c0 => ?_) (fun c0 => ?_)
 ·skip
  refine XK.seq (XK.region rfl (XO.q (Q.assign rfl) (XO.done ?_)))
  refine XK.rt [] Tryz.func49 Tryz.results49 (.t rfl .n) ?_
  exact ⟨by rw [hcheck_many c0], rfl⟩
 ·skip
  refine XK.skip (XK.seq (XK.seq (XK.region rfl ?_)))
  refine XO.q (Q.ldA [_, _, _, _] rfl rfl rfl) ?_
  refine XO.call Tryz.call106 rfl rfl rfl (allowed_spec h vr vw vb vc hr hw hb hc) fun v39 s39 R39 => ?_
  obtain ⟨rfl, rfl⟩ := R39
  dsimp only [lcA, lnA]
  refine XO.q (Q.not rfl) ?_
  refine XO.done ?_
  refine XK.if rfl (fun c1 => ?_) (fun c1 => ?_)
  ·skip
   refine XK.seq (XK.region rfl (XO.q (Q.assign rfl) (XO.done ?_)))
   refine XK.rt [] Tryz.func49 Tryz.results49 (.t rfl .n) ?_
   exact ⟨by rw [hcheck, if_neg c0, if_pos (by simpa using c1)], rfl⟩
  ·skip
   have ha : allowedP h = true := Classical.byContradiction c1
   refine XK.skip (XK.seq (XK.seq (XK.region rfl ?_)))
   refine XO.q (Q.fieldAddr rfl) ?_
   refine XO.q (Q.ld rfl rfl) ?_
   refine XO.len rfl fun l43 => ?_
   refine XO.q (Q.move rfl) (XO.done (XK.block ?_))
   refine XK.while (X := Nat) [2, 3, 4, 5, 7, 9, 44, 45, 46, 47, 48, 49, 50, 51, 52, 53, 54, 55, 56, 57, 58, 59, 60, 61, 62, 63, 64, 65, 66, 67, 68, 69, 70, 71, 72, 73, 74, 75, 76, 77, 78, 79, 80, 81, 82, 83, 84, 85, 86, 87, 88, 89, 90, 91] (fun i => [(44, some (.int .i64 (i : Nat)))]) (fun i => []) (fun i => i ≤ h.rooms.length ∧ allTo (fun i => decide (slope h i ≤ (h.rooms.getD i default).store)) i = true) (fun i => h.rooms.length - i) (0) [] rfl ⟨by omega, rfl⟩ (.c rfl (.base 0 rfl rfl)) ?_
   rintro i ⟨hi, hall⟩ ih0
   dsimp only [lcA, lnA] at ih0 ⊢
   refine XK.seq (XK.region rfl ?_)
   refine XO.q (Q.lss rfl rfl) ?_
   refine XO.done (XK.seq ?_)
   refine XK.if rfl (fun c2 => ?_) (fun c2 => ?_)
   ·skip
    refine XK.skip (XK.seq (XK.block (XK.seq (XK.region rfl (XO.q (Q.move rfl) ?_)))))
    refine XO.ix rfl rfl (by omega) (by omega) fun i47 => ?_
    refine XO.q (Q.ldEA [_, _] rfl (by first | assumption | omega) rfl rfl) ?_
    refine XO.alloc fun b4 => ?_
    refine XO.q (Q.assign rfl) ?_
    refine XO.st rfl rfl rfl ?_
    refine XO.done (XK.seq (XK.region rfl (XO.q (Q.assign rfl) (XO.done (XK.seq ?_)))))
    refine XK.seq (XK.region rfl ?_)
    refine XO.q (Q.fieldAddr rfl) ?_
    refine XO.q (Q.ld rfl rfl) ?_
    refine XO.len rfl fun l51 => ?_
    refine XO.q (Q.move rfl) (XO.done (XK.block ?_))
    refine XK.while (X := Nat) [5, 7, 52, 53, 54, 55, 56, 57, 58, 59, 60, 61, 62, 63, 64, 65, 66, 67, 68, 69, 70] (fun k => [(52, some (.int .i64 (k : Nat))), (5, some (.int .i64 (sumTo (wslope h i) k)))]) (fun k => []) (fun k => k ≤ h.walls.length) (fun k => h.walls.length - k) (0) [] rfl (by omega) (.c rfl (.c rfl (.base 0 rfl rfl))) ?_
    rintro k hk ih1
    dsimp only [lcA, lnA] at ih1 ⊢
    refine XK.seq (XK.region rfl ?_)
    refine XO.q (Q.lss rfl rfl) ?_
    refine XO.done (XK.seq ?_)
    refine XK.if rfl (fun c3 => ?_) (fun c3 => ?_)
    ·skip
     have hws := wsum_rng ha (by omega) i (k := k) (by omega)
     have hwf := (allowed_facts ha).2.1 k (by omega)
     refine XK.skip (XK.seq (XK.block (XK.seq (XK.region rfl ?_))))
     refine XO.ix rfl rfl (by omega) (by omega) fun i54 => ?_
     refine XO.q (Q.ldEA [_, _, _] rfl (by first | assumption | omega) rfl rfl) ?_
     refine XO.alloc fun b7 => ?_
     refine XO.st rfl rfl rfl ?_
     refine XO.done (XK.seq (XK.region rfl ?_))
     refine XO.q (Q.fieldAddr rfl) ?_
     refine XO.q (Q.ld rfl rfl) ?_
     refine XO.q (Q.move rfl) ?_
     refine XO.q (Q.eql rfl rfl) ?_
     refine XO.q (Q.move rfl) ?_
     refine XO.q (Quiet.guardF rfl rfl fun g61 p61 => Q.fieldAddr rfl) ?_
     refine XO.q (Quiet.guardF rfl rfl fun g62 p62 => Q.ld (lzv g62 rfl) rfl) ?_
     refine XO.q (Quiet.guardF rfl rfl fun g63 p63 => Q.move rfl) ?_
     refine XO.q (Quiet.guardF rfl rfl fun g64 p64 => Q.eql (lzv g64 rfl) (lzv g64 rfl)) ?_
     refine XO.q (Q.or rfl (fun hp => lzv hp rfl)) ?_
     refine XO.done ?_
     refine XK.if rfl (fun c4 => ?_) (fun c4 => ?_)
     ·skip
      refine XK.region rfl (XO.q (Q.move rfl) ?_)
      refine XO.q (Q.fieldAddr rfl) ?_
      refine XO.q (Q.ld rfl rfl) ?_
      refine XO.q (Q.add rfl rfl ⟨by omega, by omega⟩) ?_
      refine XO.q (Q.assign rfl) (XO.done ?_)
      refine XK.inBlock ?_
      refine XK.region rfl ?_
      refine XO.q (Q.add rfl rfl ⟨by omega, by omega⟩) ?_
      refine XO.q (Q.move rfl) (XO.done ?_)
      rw [show sumTo (wslope h i) k + (h.walls.getD k default).pass = sumTo (wslope h i) (k + 1) by rw [sumTo, wslope, if_pos c4]]
      exact ih1 (k + 1) _ _ (by omega) (by first | omega | (dsimp only; omega)) (.c rfl (.c rfl (.base 44 rfl rfl))) inferInstance
     ·skip
      refine XK.skip ?_
      refine XK.inBlock ?_
      refine XK.region rfl ?_
      refine XO.q (Q.add rfl rfl ⟨by omega, by omega⟩) ?_
      refine XO.q (Q.move rfl) (XO.done ?_)
      rw [show sumTo (wslope h i) k = sumTo (wslope h i) (k + 1) by rw [sumTo, wslope, if_neg c4, Int.add_zero]]
      exact ih1 (k + 1) _ _ (by omega) (by first | omega | (dsimp only; omega)) (.c rfl (.c rfl (.base 39 rfl rfl))) inferInstance
    ·skip
     have hkw : k = h.walls.length := by omega
     rw [hkw]
     have hws := wsum_rng ha (by omega) i (k := h.walls.length) (Nat.le_refl _)
     rw [show sumTo (wslope h i) h.walls.length = sumTo (wslope h i) h.walls.length + sumTo (cslope h i) 0 by rw [sumTo, Int.add_zero]]
     clear ih1 hk hkw c3
     refine XK.exit rfl ?_
     refine XK.seq (XK.seq (XK.region rfl ?_))
     refine XO.q (Q.fieldAddr rfl) ?_
     refine XO.q (Q.ld rfl rfl) ?_
     refine XO.len rfl fun l73 => ?_
     refine XO.q (Q.move rfl) (XO.done (XK.block ?_))
     refine XK.while (X := Nat) [5, 9, 74, 75, 76, 77, 78, 79, 80, 81, 82, 83, 84, 85, 86] (fun k => [(74, some (.int .i64 (k : Nat))), (5, some (.int .i64 (sumTo (wslope h i) h.walls.length + sumTo (cslope h i) k)))]) (fun k => []) (fun k => k ≤ h.coolers.length) (fun k => h.coolers.length - k) (0) [] rfl (by omega) (.c rfl (.c rfl (.base 0 rfl rfl))) ?_
     rintro k hk ih2
     dsimp only [lcA, lnA] at ih2 ⊢
     refine XK.seq (XK.region rfl ?_)
     refine XO.q (Q.lss rfl rfl) ?_
     refine XO.done (XK.seq ?_)
     refine XK.if rfl (fun c5 => ?_) (fun c5 => ?_)
     ·skip
      have hcs := csum_rng ha (by omega) i (k := k) (by omega)
      have hcf := (allowed_facts ha).2.2 k (by omega)
      refine XK.skip (XK.seq (XK.block (XK.seq (XK.region rfl ?_))))
      refine XO.ix rfl rfl (by omega) (by omega) fun i76 => ?_
      refine XO.q (Q.ldEA [_, _, _, _, _] rfl (by first | assumption | omega) rfl rfl) ?_
      refine XO.alloc fun b9 => ?_
      refine XO.st rfl rfl rfl ?_
      refine XO.done (XK.seq (XK.region rfl ?_))
      refine XO.q (Q.fieldAddr rfl) ?_
      refine XO.q (Q.ld rfl rfl) ?_
      refine XO.q (Q.move rfl) ?_
      refine XO.q (Q.eql rfl rfl) ?_
      refine XO.done ?_
      refine XK.if rfl (fun c6 => ?_) (fun c6 => ?_)
      ·skip
       refine XK.region rfl (XO.q (Q.move rfl) ?_)
       refine XO.q (Q.fieldAddr rfl) ?_
       refine XO.q (Q.ld rfl rfl) ?_
       refine XO.q (Q.add rfl rfl ⟨by omega, by omega⟩) ?_
       refine XO.q (Q.assign rfl) (XO.done ?_)
       refine XK.inBlock ?_
       refine XK.region rfl ?_
       refine XO.q (Q.add rfl rfl ⟨by omega, by omega⟩) ?_
       refine XO.q (Q.move rfl) (XO.done ?_)
       rw [show sumTo (wslope h i) h.walls.length + sumTo (cslope h i) k + (h.coolers.getD k default).gain = sumTo (wslope h i) h.walls.length + sumTo (cslope h i) (k + 1) by rw [sumTo, cslope, if_pos c6, Int.add_assoc]]
       exact ih2 (k + 1) _ _ (by omega) (by first | omega | (dsimp only; omega)) (.c rfl (.c rfl (.base 32 rfl rfl))) inferInstance
      ·skip
       refine XK.skip ?_
       refine XK.inBlock ?_
       refine XK.region rfl ?_
       refine XO.q (Q.add rfl rfl ⟨by omega, by omega⟩) ?_
       refine XO.q (Q.move rfl) (XO.done ?_)
       rw [show sumTo (cslope h i) k = sumTo (cslope h i) (k + 1) by rw [sumTo, cslope, if_neg c6, Int.add_zero]]
       exact ih2 (k + 1) _ _ (by omega) (by first | omega | (dsimp only; omega)) (.c rfl (.c rfl (.base 27 rfl rfl))) inferInstance
     ·skip
      have hkc : k = h.coolers.length := by omega
      rw [hkc]
      refine XK.exit rfl ?_
      refine XK.seq (XK.region rfl (XO.q (Q.move rfl) ?_))
      refine XO.q (Q.fieldAddr rfl) ?_
      refine XO.q (Q.ld rfl rfl) ?_
      refine XO.q (Q.gtr rfl rfl) ?_
      refine XO.done ?_
      refine XK.if rfl (fun c7 => ?_) (fun c7 => ?_)
      ·skip
       refine XK.seq (XK.region rfl (XO.q (Q.assign rfl) (XO.done ?_)))
       refine XK.rt [] Tryz.func49 Tryz.results49 (.t rfl .n) ?_
       exact ⟨by rw [hcheck, if_neg c0, if_neg (by rw [ha]; simp), if_neg]; rw [allTo_false (s := i) (by omega) (by rw [decide_eq_false_iff_not]; change ¬ sumTo (wslope h i) h.walls.length + sumTo (cslope h i) h.coolers.length ≤ _; omega)]; simp, rfl⟩
      ·skip
       refine XK.skip ?_
       refine XK.inBlock ?_
       refine XK.region rfl ?_
       refine XO.q (Q.add rfl rfl ⟨by omega, by omega⟩) ?_
       refine XO.q (Q.move rfl) (XO.done ?_)
       exact ih0 (i + 1) _ _ ⟨by omega, by rw [allTo_succ, hall, Bool.true_and, decide_eq_true_eq]; change sumTo (wslope h i) h.walls.length + sumTo (cslope h i) h.coolers.length ≤ _; omega⟩ (by first | omega | (dsimp only; omega)) (.c rfl (.base 118 rfl rfl)) inferInstance
   ·skip
    refine XK.exit rfl ?_
    refine XK.seq (XK.region rfl (XO.q (Q.assign rfl) (XO.done ?_)))
    refine XK.rt [] Tryz.func49 Tryz.results49 (.t rfl .n) ?_
    have hin : i = h.rooms.length := by omega
    rw [hin] at hall
    exact ⟨by rw [hcheck, if_neg c0, if_neg (by rw [ha]; simp), if_pos hall], rfl⟩
end Go.X.Ht

set_option linter.unusedSimpArgs false
set_option linter.unusedVariables false
set_option maxRecDepth 20000
namespace Go.X.Ht
open Go.Proofs
theorem feed_spec (h : Hall) (vr vw vb vc : Value) (hb : PHeap) [ib : Arr vb encBranch 3 hb h.branches] (ok : HOk h) (pump : Int) (hp : 0 ≤ pump) (hp2 : pump ≤ 100000) (b2 b5 b6 : Nat) (vo : Value) :
  ∀ (m i : Nat), i < h.branches.length → h.branches.length - i ≤ m → ∀ (x : Int), 0 ≤ x → x ≤ 100000 → max (x - (h.branches.getD i default).leak) 0 = (flowsL h pump).getD i 0 → ∀ (ho : PHeap) (o : List Int), OArr vo encI 1 3 ho o → o.length = h.branches.length → (∀ j, Sub h i j → o.getD j 0 = 0) →
  Spec Tryz.prog 200 #[.int .i64 (i : Nat), .int .i64 x, ptr b2 0, ptr b5 0, ptr b6 0] [ho] [blk b2 [vr, vw, vb, vc] 28, blk b5 [vo] 29, blk b6 [(.func (.func 200) #[] #[ptr b2 0, ptr b5 0, ptr b6 0])] 349, hb]
   (fun v hs => ∃ h' o', hs = [h'] ∧ OArr vo encI 1 3 h' o' ∧ o'.length = h.branches.length ∧ (∀ j, j < h.branches.length → Sub h i j → o'.getD j 0 = (flowsL h pump).getD j 0) ∧ ∀ j, ¬ Sub h i j → o'.getD j 0 = o.getD j 0) := by
 intro m
 induction m with
 | zero => intro i hi hm; omega
 | succ m ih =>
  intro i hi hm x hx hx2 hF ho o OO hol hz
  have hbr := ok.branch i hi
  have hb2 := ok.b2
  have hone := open_le ok (i : Int) (n := h.branches.length) (Nat.le_refl _)
  refine Spec.intro (fn := Tryz.f200) (N := 69) Tryz.func200 rfl Tryz.ntmps200 rfl fun B => ?_
  refine XK.seq ?_
  refine XK.drawn [0, 1, 2, 3, 4, 5, 6, 7, 8, 9, 10, 11] [b5, b2] [] (.q 0 (.q 1 (.q 2 (.q 3 (.q 4 (.q 5 (.q 6 (.q 7 (.q 8 (.q 9 (.q 10 (.q 11 (.br 12 false .done .stop))))))))))))) Tryz.mixed rfl (by kernel_rfl) ?_
  refine XT.q rfl rfl (Q.ld rfl rfl) ?_
  refine XT.q rfl rfl (Q.move rfl) ?_
  refine XT.q rfl rfl (Q.move rfl) ?_
  refine XT.q rfl rfl (Q.fieldAddr rfl) ?_
  refine XT.q rfl rfl (Q.ld rfl rfl) ?_
  refine XT.q rfl rfl (Q.move rfl) ?_
  refine XT.ix rfl rfl rfl rfl (by omega) (by omega) fun i18 => ?_
  refine XT.q rfl rfl (Q.fieldQ rfl (by first | assumption | omega)) ?_
  refine XT.q rfl rfl (Q.ldE rfl (by first | assumption | omega) rfl) ?_
  refine XT.q rfl rfl (Q.sub rfl rfl ⟨by omega, by omega⟩) ?_
  refine XT.q rfl rfl (Q.max rfl rfl) ?_
  refine XT.ix rfl rfl rfl rfl (by omega) (by omega) fun i23 => ?_
  refine XT.stE _ rfl rfl rfl rfl rfl (by assumption) rfl rfl (fun h0_12 O0_12 => ⟨inferInstance, ?_⟩) XT.stop
  rw [hF] at O0_12
  have fs := fed_start (pump := pump) hi hol
  refine XT.done ?_
  refine XK.seq (XK.region rfl (XO.q (Q.assign rfl) (XO.done (XK.seq (XK.seq ?_)))))
  refine XK.region rfl ?_
  refine XO.q (Q.fieldAddr rfl) ?_
  refine XO.q (Q.ld rfl rfl) ?_
  refine XO.len rfl fun l26 => ?_
  refine XO.q (Q.move rfl) (XO.done (XK.block ?_))
  refine XK.while (X := Nat) [7, 9, 27, 28, 29, 30, 31, 32, 33, 34, 35, 36, 37, 38, 39] (fun k => [(27, some (.int .i64 (k : Nat))), (7, some (.int .i64 (sumOpen h i k)))]) (fun k => []) (fun k => k ≤ h.branches.length) (fun k => h.branches.length - k) (0) [] rfl (by omega) (.c rfl (.c rfl (.base 0 rfl rfl))) ?_
  rintro k hk ih0
  dsimp only [lcA, lnA] at ih0 ⊢
  refine XK.seq (XK.region rfl ?_)
  refine XO.q (Q.lss rfl rfl) ?_
  refine XO.done (XK.seq ?_)
  refine XK.if rfl (fun c0 => ?_) (fun c0 => ?_)
  ·skip
   have hop := open_le ok (i : Int) (n := k) (by omega)
   have hop0 := open_nonneg ok (i : Int) (n := k) (by omega)
   have hbk := ok.branch k (by omega)
   refine XK.skip (XK.seq (XK.block (XK.seq (XK.region rfl ?_))))
   refine XO.ix rfl rfl (by omega) (by omega) fun i29 => ?_
   refine XO.q (Q.ldEA [_, _, _] rfl (by first | assumption | omega) rfl rfl) ?_
   refine XO.alloc fun b9 => ?_
   refine XO.st rfl rfl rfl ?_
   refine XO.done (XK.seq (XK.region rfl ?_))
   refine XO.q (Q.fieldAddr rfl) ?_
   refine XO.q (Q.ld rfl rfl) ?_
   refine XO.q (Q.move rfl) ?_
   refine XO.q (Q.eql rfl rfl) ?_
   refine XO.done ?_
   refine XK.if rfl (fun c1 => ?_) (fun c1 => ?_)
   ·skip
    refine XK.region rfl (XO.q (Q.move rfl) ?_)
    refine XO.q (Q.fieldAddr rfl) ?_
    refine XO.q (Q.ld rfl rfl) ?_
    refine XO.q (Q.add rfl rfl ⟨by omega, by omega⟩) ?_
    refine XO.q (Q.assign rfl) (XO.done ?_)
    refine XK.inBlock ?_
    refine XK.region rfl ?_
    refine XO.q (Q.add rfl rfl ⟨by omega, by omega⟩) ?_
    refine XO.q (Q.move rfl) (XO.done ?_)
    rw [open_pos c1]
    exact ih0 (k + 1) _ _ (by omega) (by first | omega | (dsimp only; omega)) (.c rfl (.c rfl (.base 32 rfl rfl))) inferInstance
   ·skip
    refine XK.skip ?_
    refine XK.inBlock ?_
    refine XK.region rfl ?_
    refine XO.q (Q.add rfl rfl ⟨by omega, by omega⟩) ?_
    refine XO.q (Q.move rfl) (XO.done ?_)
    rw [open_neg c1]
    exact ih0 (k + 1) _ _ (by omega) (by first | omega | (dsimp only; omega)) (.c rfl (.c rfl (.base 27 rfl rfl))) inferInstance
  ·skip
   have hkn : k = h.branches.length := by omega
   rw [hkn]
   clear ih0 hk hkn c0
   refine XK.exit rfl ?_
   refine XK.seq (XK.region rfl ?_)
   refine XO.q (Q.fieldAddr rfl) ?_
   refine XO.q (Q.ld rfl rfl) ?_
   refine XO.len rfl fun l42 => ?_
   refine XO.q (Q.move rfl) (XO.done (XK.block ?_))
   refine XK.while (X := Nat × PHeap × List Int) [10, 11, 43, 44, 45, 46, 47, 48, 49, 50, 51, 52, 53, 54, 55, 56, 57, 58, 59, 60, 61, 62, 63, 64, 65, 66, 67, 68] (fun ⟨k, hq, z⟩ => [(43, some (.int .i64 (k : Nat)))]) (fun ⟨k, hq, z⟩ => [hq]) (fun ⟨k, hq, z⟩ => k ≤ h.branches.length ∧ Fed h pump i k o z ∧ OArr vo encI 1 3 hq z) (fun ⟨k, hq, z⟩ => h.branches.length - k) (0, h0_12, _) [h0_12] rfl ⟨by omega, fs, O0_12⟩ (.c rfl (.base 0 rfl rfl)) ?_
   rintro ⟨k, hq, z⟩ ⟨hk, fd, OZ⟩ ih1
   dsimp only [lcA, lnA] at ih1 ⊢
   refine XK.seq (XK.region rfl ?_)
   refine XO.q (Q.lss rfl rfl) ?_
   refine XO.done (XK.seq ?_)
   refine XK.if rfl (fun c2 => ?_) (fun c2 => ?_)
   ·skip
    have hbk := ok.branch k (by omega)
    have hfr := flows_rng ok hp i hi
    have hzl := fd.len
    refine XK.skip (XK.seq (XK.block (XK.seq (XK.region rfl (XO.q (Q.move rfl) ?_)))))
    refine XO.ix rfl rfl (by omega) (by omega) fun i46 => ?_
    refine XO.q (Q.ldEA [_, _, _] rfl (by first | assumption | omega) rfl rfl) ?_
    refine XO.alloc fun b11 => ?_
    refine XO.q (Q.assign rfl) ?_
    refine XO.st rfl rfl rfl ?_
    refine XO.done (XK.seq (XK.region rfl ?_))
    refine XO.q (Q.fieldAddr rfl) ?_
    refine XO.q (Q.ld rfl rfl) ?_
    refine XO.q (Q.move rfl) ?_
    refine XO.q (Q.eql rfl rfl) ?_
    refine XO.q (Q.move rfl) ?_
    refine XO.q (Quiet.guardT rfl rfl fun g53 p53 => Q.move rfl) ?_
    refine XO.q (Quiet.guardT rfl rfl fun g54 p54 => Q.gtr (lzv g54 rfl) rfl) ?_
    refine XO.q (Q.and rfl (fun hp => lzv hp rfl)) ?_
    refine XO.done ?_
    refine XK.if rfl (fun c3 => ?_) (fun c3 => ?_)
    ·skip
     obtain ⟨c3u, c3s⟩ := c3
     have hmul : 0 ≤ (flowsL h pump).getD i 0 * (h.branches.getD k default).opn ∧ (flowsL h pump).getD i 0 * (h.branches.getD k default).opn ≤ 100000 * 100 := ⟨Int.mul_nonneg hfr.1 hbk.2.1.1, Int.mul_le_mul (by omega) hbk.2.1.2 hbk.2.1.1 (by omega)⟩
     have hsh := share_le (x := (flowsL h pump).getD i 0) (o := (h.branches.getD k default).opn) (s := sumOpen h i h.branches.length) hfr.1 hbk.2.1.1 (by have := open_one ok (k := k) (by omega); rw [c3u] at this; exact this) c3s
     have hup := up_of ok (i := k) (by omega) (not_zero ok (by omega) c3u)
     refine XK.drawn [0, 1, 2, 3, 4, 6, 7, 9, 8, 10] [b6, b5, b11] [] (.q 0 (.q 1 (.q 2 (.q 3 (.q 4 (.q 6 (.q 7 (.q 9 (.br 5 true (.q 8 (.q 10 (.br 11 true .done .stop))) .stop))))))))) Tryz.mixed rfl (by kernel_rfl) ?_
     refine XT.q rfl rfl (Q.ld rfl rfl) ?_
     refine XT.q rfl rfl (Q.move rfl) ?_
     refine XT.q rfl rfl (Q.ld rfl rfl) ?_
     refine XT.q rfl rfl (Q.move rfl) ?_
     refine XT.ix rfl rfl rfl rfl (by omega) (by omega) fun i60 => ?_
     refine XT.q rfl rfl (Q.fieldAddr rfl) ?_
     refine XT.q rfl rfl (Q.ld rfl rfl) ?_
     refine XT.q rfl rfl (Q.move rfl) ?_
     refine XT.qs rfl rfl (Q.ldE rfl (by first | assumption | omega) rfl) ⟨inferInstance, ?_⟩ XT.stop
     rw [show z.getD i default = (flowsL h pump).getD i 0 from fd.yes i hi (.inl rfl)]
     refine XT.q rfl rfl (Q.mul rfl rfl ⟨by omega, by omega⟩) ?_
     refine XT.q rfl rfl (Q.quo rfl rfl (by omega) (by omega) (by omega)) ?_
     refine XT.call rfl rfl Tryz.call200 rfl rfl rfl (ih k (by omega) (by omega) _ hsh.1 (by omega) (feed_child ok (by omega) c3u c3s).symm hq z OZ fd.len (fed_zero ok fd (by omega) c3u hz)) (fun v67 s67 R67 => ?_) XT.stop
     obtain ⟨h67, y, rfl, O67, y1, y2, y3⟩ := R67
     dsimp only [lcA, lnA]
     refine ⟨inferInstance, ?_⟩
     refine XT.done ?_
     refine XK.inBlock ?_
     refine XK.region rfl ?_
     refine XO.q (Q.add rfl rfl ⟨by omega, by omega⟩) ?_
     refine XO.q (Q.move rfl) (XO.done ?_)
     exact ih1 (k + 1, h67, y) _ _ ⟨by dsimp only; omega, fed_call ok fd (by omega) c3u y1 y2 y3, O67⟩ (by first | omega | (dsimp only; omega)) (.c rfl (.base 57 rfl rfl)) inferInstance
    ·skip
     refine XK.skip ?_
     refine XK.inBlock ?_
     refine XK.region rfl ?_
     refine XO.q (Q.add rfl rfl ⟨by omega, by omega⟩) ?_
     refine XO.q (Q.move rfl) (XO.done ?_)
     exact ih1 (k + 1, hq, z) _ _ ⟨by dsimp only; omega, fed_skip ok fd (by omega) hz c3, OZ⟩ (by first | omega | (dsimp only; omega)) (.c rfl (.base 45 rfl rfl)) inferInstance
   ·skip
    have hkn : k = h.branches.length := by omega
    rw [hkn] at fd
    refine XK.exit rfl ?_
    refine XK.fn [hq] Tryz.func200 Tryz.results200 (.n) ?_
    exact ⟨hq, z, rfl, OZ, fd.len, fun j hj s => fd.yes j hj ((done_sub ok hi).1 s), fun j s => fd.no j fun hd => s ((done_sub ok hi).2 hd)⟩
end Go.X.Ht

set_option linter.unusedSimpArgs false
set_option linter.unusedVariables false
set_option maxRecDepth 20000
namespace Go.X.Ht
open Go.Proofs
theorem flows_eq {h : Hall} {pump : Int} {o : List Int} (hl : o.length = h.branches.length) (hj : ∀ j, j < h.branches.length → o.getD j 0 = (flowsL h pump).getD j 0) : o = flowsL h pump := by
 refine List.ext_getElem (by rw [hl, flows_len]) fun j h1 h2 => ?_
 have := hj j (by omega)
 simpa [h1, h2] using this
theorem flows_zero {h : Hall} (ok : HOk h) {pump : Int} (h0 : 0 < h.branches.length) : max (pump - (h.branches.getD 0 default).leak) 0 = (flowsL h pump).getD 0 0 := by
 rw [flows_at ok h0]; unfold feedOf; rw [if_pos rfl]
theorem flows_spec (h : Hall) (vr vw vb vc : Value) (hb : PHeap) [ir : One vr] [iw : One vw] [ib : Arr vb encBranch 3 hb h.branches] [ic : One vc] (ok : HOk h) (pump : Int) (hp : 0 ≤ pump) (hp2 : pump ≤ 100000) : Spec Tryz.prog 166 #[.agg #[vr, vw, vb, vc], .int .i64 pump] [] [hb]
  (fun v hs => ∃ k, hs = [k] ∧ OArr v encI 1 3 k (flowsL h pump)) := by
 have hb2 := ok.b2
 refine Spec.intro (fn := Tryz.f166) (N := 19) Tryz.func166 rfl Tryz.ntmps166 rfl fun B => ?_
 refine XK.seq (XK.region rfl ?_)
 refine XO.box rfl fun b2 => ?_
 refine XO.q (Q.assign rfl) (XO.done (XK.seq (XK.region rfl ?_)))
 refine XO.q (Q.fieldAddr rfl) ?_
 refine XO.q (Q.ld rfl rfl) ?_
 refine XO.len rfl fun l9 => ?_
 refine XO.make encI (0) rfl rfl rfl (by omega) (by omega) (fun _ => rfl) rfl rfl rfl (by dsimp only [encI]; infer_instance) fun v10 h10 O10 => ?_
 refine XO.alloc fun b5 => ?_
 refine XO.st rfl rfl rfl ?_
 refine XO.done (XK.seq (XK.region rfl ?_))
 refine XO.alloc fun b6 => ?_
 refine XO.done (XK.seq (XK.region rfl ?_))
 refine XO.q (Q.func (fun _ he => rfl) (fun _ he => evs_rel he rfl)) ?_
 refine XO.st rfl rfl rfl ?_
 refine XO.done (XK.seq (XK.seq (XK.region rfl ?_)))
 refine XO.q (Q.ld rfl rfl) ?_
 refine XO.len rfl fun l13 => ?_
 rw [List.length_replicate]
 refine XO.q (Q.gtr rfl rfl) ?_
 refine XO.done ?_
 refine XK.if rfl (fun c0 => ?_) (fun c0 => ?_)
 ·skip
  refine XK.region rfl ?_
  refine XO.q (Q.ld rfl rfl) ?_
  refine XO.q (Q.move rfl) ?_
  refine XO.call Tryz.call200 rfl rfl rfl (feed_spec h vr vw vb vc hb ok pump hp hp2 b2 b5 b6 v10 h.branches.length 0 (by omega) (by omega) pump hp hp2 (flows_zero ok (by omega)) h10 (List.replicate h.branches.length 0) O10 (by simp) (fun j _ => by rw [List.getD_eq_getElem?_getD, List.getElem?_replicate]; split <;> simp)) fun v17 s17 R17 => ?_
  obtain ⟨h17, y, rfl, O17, y1, y2, y3⟩ := R17
  dsimp only [lcA, lnA]
  refine XO.done (XK.seq (XK.region rfl ?_))
  refine XO.q (Q.ld rfl rfl) ?_
  refine XO.q (Q.assign rfl) (XO.done ?_)
  refine XK.rt [h17] Tryz.func166 Tryz.results166 (.t rfl .n) ?_
  rw [flows_eq y1 fun j hj => y2 j hj (sub_root ok j hj)] at O17
  exact ⟨h17, rfl, O17⟩
 ·skip
  refine XK.skip (XK.seq (XK.region rfl ?_))
  refine XO.q (Q.ld rfl rfl) ?_
  refine XO.q (Q.assign rfl) (XO.done ?_)
  refine XK.rt [h10] Tryz.func166 Tryz.results166 (.t rfl .n) ?_
  have h0 : h.branches.length = 0 := by omega
  rw [flows_eq (pump := pump) (h := h) (o := List.replicate h.branches.length 0) (by simp) (fun j hj => by omega)] at O10
  exact ⟨h10, rfl, O10⟩
end Go.X.Ht

set_option linter.unusedSimpArgs false
set_option linter.unusedVariables false
set_option maxRecDepth 20000
namespace Go.X.Ht
open Go.Proofs
theorem at_spec (h : Hall) (vr vw vb vc : Value) (hb hc : PHeap) [ir : One vr] [iw : One vw] [ib : Arr vb encBranch 3 hb h.branches] [ic : Arr vc encCooler 5 hc h.coolers] (ok : HOk h) (t : List Int) (vt : Value) (ht : PHeap) [it : Arr vt encI 1 ht t] (tk : TOk h t) (c : HCase) (ck : COk h c) (vl : Value) [il : One vl] :
  Spec Tryz.prog 110 #[.agg #[vr, vw, vb, vc], vt, .agg #[vl, .int .i64 c.out, .int .i64 c.pump]] [] [hb, hc, ht] (fun v hs => ∃ b vk k, v = ptr b 0 ∧ hs = [blk b [vr, vw, vb, vc, vl, .int .i64 c.out, .int .i64 c.pump, vt, vk] 321, k] ∧ OArr vk encI 1 3 k (takenL h t c.pump)) := by
 have hnil : OArr (.slice none 0 0) encI 1 3 emp ([] : List Int) := OArr.nil (fun _ => rfl)
 have hb2 := ok.b2
 have hc2 := ok.c2
 have hfl := flows_len h c.pump
 have htl := tk.len
 have hpm := ck.pump
 refine Spec.intro (fn := Tryz.f110) (N := 88) Tryz.func110 rfl Tryz.ntmps110 rfl fun B => ?_
 refine XK.seq (XK.region rfl ?_)
 refine XO.box rfl fun b3 => ?_
 refine XO.box rfl fun b5 => ?_
 refine XO.q (Q.assign rfl) (XO.done (XK.seq (XK.region rfl ?_)))
 refine XO.q (Q.ldA [_, _, _, _] rfl rfl rfl) ?_
 refine XO.q (Q.ldA [_, _, _] rfl rfl rfl) ?_
 refine XO.q (Q.move rfl) ?_
 refine XO.q (Q.build [_, _, _, _, _, _, _, _, _] (.c 0 4 rfl rfl rfl (.c 4 3 rfl rfl rfl (.c 7 1 rfl rfl rfl (.n _))))) ?_
 refine XO.box rfl fun b19 => ?_
 refine XO.q (Q.assign rfl) (XO.done (XK.seq (XK.region rfl ?_)))
 refine XO.q (Q.ldA [_, _, _, _] rfl rfl rfl) ?_
 refine XO.q (Q.fieldAddr rfl) ?_
 refine XO.q (Q.ld rfl rfl) ?_
 refine XO.call Tryz.call166 rfl rfl rfl (flows_spec h vr vw vb vc hb ok c.pump ck.pump.1 ck.pump.2) fun v23 s23 R23 => ?_
 obtain ⟨k23, rfl, O23⟩ := R23
 dsimp only [lcA, lnA]
 refine XO.q (Q.assign rfl) (XO.done (XK.seq (XK.region rfl (XO.q (Q.move rfl) ?_))))
 refine XO.len rfl fun l25 => ?_
 rw [hfl]
 refine XO.make encI (0) rfl rfl rfl (by omega) (by omega) (fun _ => rfl) rfl rfl rfl (by dsimp only [encI]; infer_instance) fun v26 h26 O26 => ?_
 refine XO.q (Q.assign rfl) (XO.done (XK.seq (XK.seq (XK.region rfl ?_))))
 refine XO.q (Q.fieldAddr rfl) ?_
 refine XO.q (Q.ld rfl rfl) ?_
 refine XO.len rfl fun l29 => ?_
 refine XO.q (Q.move rfl) (XO.done (XK.block ?_))
 refine XK.while (X := Nat × PHeap × List Int) [11, 30, 31, 32, 33, 34, 35, 36, 37, 38, 39, 40, 41] (fun ⟨k, hz, on⟩ => [(30, some (.int .i64 (k : Nat)))]) (fun ⟨k, hz, on⟩ => [hz]) (fun ⟨k, hz, on⟩ => k ≤ h.coolers.length ∧ on.length = h.branches.length ∧ (∀ b : Int, 0 ≤ b → b < h.branches.length → on.getD b.toNat 0 = onBr h b k) ∧ OArr v26 encI 1 3 hz on) (fun ⟨k, hz, on⟩ => h.coolers.length - k) (0, h26, _) [h26] rfl ⟨by omega, by simp, fun b h1 h2 => by rw [List.getD_eq_getElem?_getD, List.getElem?_replicate]; split <;> rfl, O26⟩ (.c rfl (.base 0 rfl rfl)) ?_
 rintro ⟨k, hz, on⟩ ⟨hk, hol, hon, OZ⟩ ih0
 dsimp only [lcA, lnA] at ih0 ⊢
 refine XK.seq (XK.region rfl ?_)
 refine XO.q (Q.lss rfl rfl) ?_
 refine XO.done (XK.seq ?_)
 refine XK.if rfl (fun c0 => ?_) (fun c0 => ?_)
 ·skip
  have hcf := ok.cooler k (by omega)
  have hbt : (h.coolers.getD k default).br.toNat < on.length := by omega
  have hov := onBr_rng (h := h) (h.coolers.getD k default).br k
  have hoe := hon (h.coolers.getD k default).br hcf.2.1.1 hcf.2.1.2
  change on.getD (h.coolers.getD k default).br.toNat default = _ at hoe
  refine XK.skip (XK.seq (XK.block (XK.seq (XK.region rfl ?_))))
  refine XO.ix rfl rfl (by omega) (by omega) fun i32 => ?_
  refine XO.q (Q.ldEA [_, _, _, _, _] rfl (by first | assumption | omega) rfl rfl) ?_
  refine XO.alloc fun b11 => ?_
  refine XO.st rfl rfl rfl ?_
  refine XO.done (XK.region rfl (XO.q (Q.move rfl) ?_))
  refine XO.q (Q.fieldAddr rfl) ?_
  refine XO.q (Q.ld rfl rfl) ?_
  refine XO.ix rfl rfl (by omega) (by omega) fun i37 => ?_
  refine XO.q (Q.ldE rfl (by first | assumption | omega) rfl) ?_
  refine XO.q (Q.add rfl rfl ⟨by omega, by omega⟩) ?_
  refine XO.ix rfl rfl (by omega) (by omega) fun i40 => ?_
  refine XO.stE _ rfl rfl rfl (by assumption) rfl rfl fun h7_7 O7_7 => ?_
  refine XO.done ?_
  refine XK.inBlock ?_
  refine XK.region rfl ?_
  refine XO.q (Q.add rfl rfl ⟨by omega, by omega⟩) ?_
  refine XO.q (Q.move rfl) (XO.done ?_)
  exact ih0 (k + 1, h7_7, _) _ _ ⟨by dsimp only; omega, by simp only [List.length_set]; exact hol, fun b h1 h2 => by
    dsimp only
    rw [List.getD_eq_getElem?_getD, List.getElem?_set, onBr_succ]
    by_cases hbb : (h.coolers.getD k default).br = b
    ·rw [if_pos (by rw [hbb]), if_pos hbt, if_pos hbb, Option.getD_some, hoe, hbb]
    ·rw [if_neg (by omega), ← List.getD_eq_getElem?_getD, hon b h1 h2, if_neg hbb, Int.add_zero], O7_7⟩ (by first | omega | (dsimp only; omega)) (.c rfl (.base 27 rfl rfl)) inferInstance
 ·skip
  have hkn : k = h.coolers.length := by omega
  rw [hkn] at hon
  clear ih0 hk hkn c0
  refine XK.exit rfl ?_
  refine XK.seq (XK.seq (XK.region rfl ?_))
  refine XO.q (Q.fieldAddr rfl) ?_
  refine XO.q (Q.ld rfl rfl) ?_
  refine XO.len rfl fun l44 => ?_
  refine XO.q (Q.move rfl) (XO.done (XK.block ?_))
  refine XK.while (X := Nat × Value × PHeap) [13, 14, 45, 46, 47, 48, 49, 50, 51, 52, 53, 54, 55, 56, 57, 58, 59, 60, 61, 62, 63, 64, 65, 66, 67, 68, 69, 70, 71, 72, 73, 74, 75, 76, 77, 78, 79, 80, 81, 82, 83, 84, 85, 86] (fun ⟨k, vk, hk9⟩ => [(45, some (.int .i64 (k : Nat)))]) (fun ⟨k, vk, hk9⟩ => [blk b19 [vr, vw, vb, vc, vl, .int .i64 c.out, .int .i64 c.pump, vt, vk] 321, hk9]) (fun ⟨k, vk, hk9⟩ => k ≤ h.coolers.length ∧ OArr vk encI 1 3 hk9 ((List.range k).map (takenAt h t (flowsL h c.pump)))) (fun ⟨k, vk, hk9⟩ => h.coolers.length - k) (0, .slice none 0 0, emp) [blk b19 [vr, vw, vb, vc, vl, .int .i64 c.out, .int .i64 c.pump, vt, .slice none 0 0] 321, emp] rfl ⟨by omega, by simpa using hnil⟩ (.c rfl (.base 0 rfl rfl)) ?_
  rintro ⟨k, vk, hk9⟩ ⟨hk, OK⟩ ih1
  dsimp only [lcA, lnA] at ih1 ⊢
  refine XK.seq (XK.region rfl ?_)
  refine XO.q (Q.lss rfl rfl) ?_
  refine XO.done (XK.seq ?_)
  refine XK.if rfl (fun c1 => ?_) (fun c1 => ?_)
  ·skip
   have hcf := ok.cooler k (by omega)
   have hoe := hon (h.coolers.getD k default).br hcf.2.1.1 hcf.2.1.2
   change on.getD (h.coolers.getD k default).br.toNat default = _ at hoe
   have hop := onBr_pos (h := h) (k := k) (by omega)
   have hor := onBr_rng (h := h) (h.coolers.getD k default).br h.coolers.length
   have hF := flows_rng ok ck.pump.1 (h.coolers.getD k default).br.toNat (by omega)
   change 0 ≤ (flowsL h c.pump).getD (h.coolers.getD k default).br.toNat default ∧ (flowsL h c.pump).getD (h.coolers.getD k default).br.toNat default ≤ c.pump at hF
   have hm1 := mul_abs (p := (h.coolers.getD k default).carry) (d := (flowsL h c.pump).getD (h.coolers.getD k default).br.toNat default) (P := 1000) (D := 100000) hcf.2.2.2.1.1 hcf.2.2.2.1.2 (by omega) (by omega) (by omega)
   have hm0 := Int.mul_nonneg hcf.2.2.2.1.1 hF.1
   have hT := temp_at ok tk hcf.1.1 hcf.1.2
   change 0 ≤ t.getD (h.coolers.getD k default).room.toNat default ∧ t.getD (h.coolers.getD k default).room.toNat default ≤ 1000000 at hT
   have hm2 := mul_abs (p := (h.coolers.getD k default).gain) (d := t.getD (h.coolers.getD k default).room.toNat default - (h.coolers.getD k default).supply) (P := 100000) (D := 1000000) hcf.2.2.1.1 hcf.2.2.1.2 (by omega) (by omega) (by omega)
   refine XK.skip (XK.seq (XK.block (XK.seq (XK.region rfl ?_))))
   refine XO.ix rfl rfl (by omega) (by omega) fun i47 => ?_
   refine XO.q (Q.ldEA [_, _, _, _, _] rfl (by first | assumption | omega) rfl rfl) ?_
   refine XO.alloc fun b13 => ?_
   refine XO.st rfl rfl rfl ?_
   refine XO.done (XK.seq ?_)
   refine XK.drawn [0, 1, 2, 3, 4, 5, 6, 7, 8, 9, 10, 11, 12, 13, 14] [b13] [k23, hz] (.q 0 (.q 1 (.q 2 (.q 3 (.q 4 (.q 5 (.q 6 (.q 7 (.q 8 (.q 9 (.q 10 (.q 11 (.q 12 (.q 13 (.q 14 .done))))))))))))))) Tryz.mixed rfl (by kernel_rfl) ?_
   refine XT.q rfl rfl (Q.fieldAddr rfl) ?_
   refine XT.q rfl rfl (Q.ld rfl rfl) ?_
   refine XT.q rfl rfl (Q.move rfl) ?_
   refine XT.q rfl rfl (Q.fieldAddr rfl) ?_
   refine XT.q rfl rfl (Q.ld rfl rfl) ?_
   refine XT.ix rfl rfl rfl rfl (by omega) (by omega) fun i54 => ?_
   refine XT.q rfl rfl (Q.ldE rfl (by first | assumption | omega) rfl) ?_
   refine XT.q rfl rfl (Q.mul rfl rfl ⟨by omega, by omega⟩) ?_
   refine XT.q rfl rfl (Q.move rfl) ?_
   refine XT.q rfl rfl (Q.fieldAddr rfl) ?_
   refine XT.q rfl rfl (Q.ld rfl rfl) ?_
   refine XT.ix rfl rfl rfl rfl (by omega) (by omega) fun i60 => ?_
   refine XT.q rfl rfl (Q.ldE rfl (by first | assumption | omega) rfl) ?_
   refine XT.q rfl rfl (Q.quo rfl rfl (by omega) (by omega) (by omega)) ?_
   refine XT.q rfl rfl (Q.assign rfl) ?_
   refine XT.done ?_
   refine XK.drawn [0, 1, 2, 3, 5, 6, 7, 8, 9, 10, 11, 12, 13, 14, 15, 16, 17, 18, 21, 22] [b13] [] (.q 0 (.q 1 (.q 2 (.q 3 (.q 5 (.q 6 (.q 7 (.q 8 (.q 9 (.q 10 (.q 11 (.q 12 (.q 13 (.q 14 (.q 15 (.q 16 (.q 17 (.q 18 (.br 4 true (.br 19 true (.br 20 true (.q 21 (.q 22 (.br 23 true .done .stop))) .stop) .stop) (.br 19 true (.br 4 true (.br 20 true (.q 21 (.q 22 (.br 23 true .done .stop))) .stop) .stop) .stop)))))))))))))))))))) Tryz.mixed rfl (by kernel_rfl) ?_
   refine XT.q rfl rfl (Q.move rfl) ?_
   refine XT.q rfl rfl (Q.move rfl) ?_
   refine XT.q rfl rfl (Q.nilCheck rfl) ?_
   refine XT.q rfl rfl (Q.fieldAddr rfl) ?_
   refine XT.q rfl rfl (Q.fieldAddr rfl) ?_
   refine XT.q rfl rfl (Q.ld rfl rfl) ?_
   refine XT.q rfl rfl (Q.move rfl) ?_
   refine XT.q rfl rfl (Q.fieldAddr rfl) ?_
   refine XT.q rfl rfl (Q.ld rfl rfl) ?_
   refine XT.ix rfl rfl rfl rfl (by omega) (by omega) fun i73 => ?_
   refine XT.q rfl rfl (Q.ldE rfl (by first | assumption | omega) rfl) ?_
   refine XT.q rfl rfl (Q.fieldAddr rfl) ?_
   refine XT.q rfl rfl (Q.ld rfl rfl) ?_
   refine XT.q rfl rfl (Q.sub rfl rfl ⟨by omega, by omega⟩) ?_
   refine XT.q rfl rfl (Q.mul rfl rfl ⟨by omega, by omega⟩) ?_
   refine XT.q rfl rfl (Q.max rfl rfl) ?_
   refine XT.q rfl rfl (Q.move rfl) ?_
   refine XT.q rfl rfl (Q.min rfl rfl) ?_
   refine XT.qs rfl rfl (Q.ld rfl rfl) ⟨inferInstance, ?_⟩ ?_
   ·skip
    refine XT.lit [_] [_] [_] encI rfl rfl (by rfl) (by rfl) rfl (by rfl) (by exact .c 0 1 rfl rfl rfl (.n _)) (fun _ => rfl) (by rfl) rfl (by infer_instance) rfl (fun v82 h82 O82 => ⟨inferInstance, ?_⟩) XT.stop
    refine XT.append rfl rfl rfl rfl rfl rfl (by simp only [List.length_map, List.length_range, List.length_cons, List.length_nil]; omega) (fun v83 h83 O83 => ⟨inferInstance, ?_⟩) XT.stop
    refine XT.q rfl rfl (Q.nilCheck rfl) ?_
    refine XT.q rfl rfl (Q.fieldAddr rfl) ?_
    refine XT.st rfl rfl rfl rfl rfl ⟨inferInstance, ?_⟩ XT.stop
    refine XT.done ?_
    refine XK.inBlock ?_
    refine XK.region rfl ?_
    refine XO.q (Q.add rfl rfl ⟨by omega, by omega⟩) ?_
    refine XO.q (Q.move rfl) (XO.done ?_)
    exact ih1 (k + 1, v83, h83) _ _ ⟨by dsimp only; omega, by dsimp only; rw [show (List.range (k + 1)).map (takenAt h t (flowsL h c.pump)) = (List.range k).map (takenAt h t (flowsL h c.pump)) ++ [takenAt h t (flowsL h c.pump) k] by rw [List.range_succ, List.map_append]; rfl, takenAt]; rw [hoe] at O83; exact O83⟩ (by first | omega | (dsimp only; omega)) (.c rfl (.base 89 rfl rfl)) inferInstance
   ·skip
    refine XT.lit [_] [_] [_] encI rfl rfl (by rfl) (by rfl) rfl (by rfl) (by exact .c 0 1 rfl rfl rfl (.n _)) (fun _ => rfl) (by rfl) rfl (by infer_instance) rfl (fun v82 h82 O82 => ⟨inferInstance, ?_⟩) XT.stop
    refine XT.qs rfl rfl (Q.ld rfl rfl) ⟨inferInstance, ?_⟩ XT.stop
    refine XT.append rfl rfl rfl rfl rfl rfl (by simp only [List.length_map, List.length_range, List.length_cons, List.length_nil]; omega) (fun v83 h83 O83 => ⟨inferInstance, ?_⟩) XT.stop
    refine XT.q rfl rfl (Q.nilCheck rfl) ?_
    refine XT.q rfl rfl (Q.fieldAddr rfl) ?_
    refine XT.st rfl rfl rfl rfl rfl ⟨inferInstance, ?_⟩ XT.stop
    refine XT.done ?_
    refine XK.inBlock ?_
    refine XK.region rfl ?_
    refine XO.q (Q.add rfl rfl ⟨by omega, by omega⟩) ?_
    refine XO.q (Q.move rfl) (XO.done ?_)
    exact ih1 (k + 1, v83, h83) _ _ ⟨by dsimp only; omega, by dsimp only; rw [show (List.range (k + 1)).map (takenAt h t (flowsL h c.pump)) = (List.range k).map (takenAt h t (flowsL h c.pump)) ++ [takenAt h t (flowsL h c.pump) k] by rw [List.range_succ, List.map_append]; rfl, takenAt]; rw [hoe] at O83; exact O83⟩ (by first | omega | (dsimp only; omega)) (.c rfl (.base 89 rfl rfl)) inferInstance
  ·skip
   refine XK.exit rfl ?_
   refine XK.seq (XK.region rfl (XO.q (Q.move rfl) (XO.q (Q.assign rfl) (XO.done ?_))))
   refine XK.rt [blk b19 [vr, vw, vb, vc, vl, .int .i64 c.out, .int .i64 c.pump, vt, vk] 321, hk9] Tryz.func110 Tryz.results110 (.t rfl .n) ?_
   have hkn : k = h.coolers.length := by omega
   rw [hkn] at OK
   exact ⟨b19, vk, hk9, rfl, rfl, OK⟩
end Go.X.Ht

set_option linter.unusedSimpArgs false
set_option linter.unusedVariables false
set_option maxRecDepth 20000
namespace Go.X.Ht
open Go.Proofs
theorem load_spec (b : Nat) (vr vw vb vc vl vt vk : Value) (c : HCase) (hl : PHeap) [il : Arr vl encI 1 hl c.load] (i : Nat) (hi : i < c.load.length) : Spec Tryz.prog 111 #[ptr b 0, .int .i64 (i : Nat)] [] [blk b [vr, vw, vb, vc, vl, .int .i64 c.out, .int .i64 c.pump, vt, vk] 321, hl]
  (fun v hs => v = .int .i64 (c.load.getD i 0) ∧ hs = []) := by
 refine Spec.intro (fn := Tryz.f111) (N := 13) Tryz.func111 rfl Tryz.ntmps111 rfl fun B => ?_
 refine XK.seq (XK.region rfl (XO.q (Q.assign rfl) (XO.done (XK.seq (XK.region rfl ?_)))))
 refine XO.q (Q.move rfl) ?_
 refine XO.q (Q.nilCheck rfl) ?_
 refine XO.q (Q.fieldAddr rfl) ?_
 refine XO.q (Q.fieldAddr rfl) ?_
 refine XO.q (Q.ld rfl rfl) ?_
 refine XO.q (Q.move rfl) ?_
 refine XO.ix rfl rfl (by omega) (by omega) fun i11 => ?_
 refine XO.q (Q.ldE rfl (by first | assumption | omega) rfl) ?_
 refine XO.q (Q.assign rfl) (XO.done ?_)
 refine XK.rt [] Tryz.func111 Tryz.results111 (.t rfl .n) ?_
 exact ⟨rfl, rfl⟩
theorem walls_spec (h : Hall) (ok : HOk h) (b : Nat) (vr vw vb vc vl vt vk : Value) (c : HCase) (hw ht : PHeap) [iw : Arr vw encWall 3 hw h.walls] (t : List Int) [it : Arr vt encI 1 ht t] (tk : TOk h t) (ck : COk h c) (i : Nat) (hi : i < h.rooms.length) :
  Spec Tryz.prog 112 #[ptr b 0, .int .i64 (i : Nat)] [] [blk b [vr, vw, vb, vc, vl, .int .i64 c.out, .int .i64 c.pump, vt, vk] 321, hw, ht] (fun v hs => v = .int .i64 (sumTo (wheat h t c.out i) h.walls.length) ∧ hs = []) := by
 have hw2 := ok.w2
 have htl := tk.len
 have hco := ck.out
 have hI := tk.rng i (by omega)
 change 0 ≤ t.getD i default ∧ t.getD i default ≤ 1000000 at hI
 refine Spec.intro (fn := Tryz.f112) (N := 81) Tryz.func112 rfl Tryz.ntmps112 rfl fun B => ?_
 refine XK.seq (XK.region rfl (XO.q (Q.assign rfl) (XO.done (XK.seq (XK.region rfl ?_)))))
 refine XO.q (Q.assign rfl) (XO.done (XK.seq (XK.seq (XK.region rfl (XO.q (Q.move rfl) ?_)))))
 refine XO.q (Q.nilCheck rfl) ?_
 refine XO.q (Q.fieldAddr rfl) ?_
 refine XO.q (Q.fieldAddr rfl) ?_
 refine XO.q (Q.ld rfl rfl) ?_
 refine XO.len rfl fun l14 => ?_
 refine XO.q (Q.move rfl) (XO.done (XK.block ?_))
 refine XK.while (X := Nat) [5, 7, 8, 15, 16, 17, 18, 19, 20, 21, 22, 23, 24, 25, 26, 27, 28, 29, 30, 31, 32, 33, 34, 35, 36, 37, 38, 39, 40, 41, 42, 43, 44, 45, 46, 47, 48, 49, 50, 51, 52, 53, 54, 55, 56, 57, 58, 59, 60, 61, 62, 63, 64, 65, 66, 67, 68, 69, 70, 71, 72, 73, 74, 75, 76, 77, 78, 79] (fun k => [(15, some (.int .i64 (k : Nat))), (5, some (.int .i64 (sumTo (wheat h t c.out i) k)))]) (fun k => []) (fun k => k ≤ h.walls.length) (fun k => h.walls.length - k) (0) [] rfl (by omega) (.c rfl (.c rfl (.base 0 rfl rfl))) ?_
 rintro k hk ih0
 dsimp only [lcA, lnA] at ih0 ⊢
 refine XK.seq (XK.region rfl ?_)
 refine XO.q (Q.lss rfl rfl) ?_
 refine XO.done (XK.seq ?_)
 refine XK.if rfl (fun c0 => ?_) (fun c0 => ?_)
 ·skip
  have hwf := ok.wall k (by omega)
  have hsw := wsum_abs ok tk hco hi (n := k) (by omega)
  have hA := temp_at ok tk hwf.1.1 hwf.1.2
  change 0 ≤ t.getD (h.walls.getD k default).a.toNat default ∧ t.getD (h.walls.getD k default).a.toNat default ≤ 1000000 at hA
  refine XK.skip (XK.seq (XK.block (XK.seq (XK.region rfl ?_))))
  refine XO.ix rfl rfl (by omega) (by omega) fun i17 => ?_
  refine XO.q (Q.ldEA [_, _, _] rfl (by first | assumption | omega) rfl rfl) ?_
  refine XO.alloc fun b7 => ?_
  refine XO.st rfl rfl rfl ?_
  refine XO.done (XK.seq (XK.region rfl (XO.q (Q.move rfl) ?_)))
  refine XO.q (Q.nilCheck rfl) ?_
  refine XO.q (Q.fieldAddr rfl) ?_
  refine XO.q (Q.fieldAddr rfl) ?_
  refine XO.q (Q.ld rfl rfl) ?_
  refine XO.q (Q.assign rfl) (XO.done (XK.seq (XK.seq (XK.region rfl ?_))))
  refine XO.q (Q.fieldAddr rfl) ?_
  refine XO.q (Q.ld rfl rfl) ?_
  refine XO.q (Q.geq rfl rfl) ?_
  refine XO.done ?_
  refine XK.meet (X := Int) [8, 27, 28, 29, 30, 31, 32, 33, 34] (fun y => [(8, some (.int .i64 y))]) (fun y => []) (fun y => y = (if 0 ≤ (h.walls.getD k default).b then t.getD (h.walls.getD k default).b.toNat 0 else c.out) ∧ 0 ≤ y ∧ y ≤ 1000000) [] ?_ ?_
  ·rintro y ⟨hy, hy1, hy2⟩
   dsimp only [lcA, lnA]
   refine XK.seq (XK.region rfl (XO.q (Q.move rfl) (XO.done (XK.block (XK.seq ?_)))))
   refine XK.region rfl ?_
   refine XO.q (Q.fieldAddr rfl) ?_
   refine XO.q (Q.ld rfl rfl) ?_
   refine XO.q (Q.eql rfl rfl) ?_
   refine XO.q (Q.assign rfl) (XO.done ?_)
   refine XK.if rfl (fun c2 => ?_) (fun c2 => ?_)
   ·skip
    have hm := mul_abs (p := (h.walls.getD k default).pass) (d := y - t.getD i default) (P := 100000) (D := 1000000) hwf.2.2.2.1 hwf.2.2.2.2 (by omega) (by omega) (by omega)
    refine XK.drawn [0, 1, 2, 3, 4, 5, 6, 7, 8, 9, 10, 11, 12, 13, 14] [b7, b] [] (.q 0 (.q 1 (.q 2 (.q 3 (.q 4 (.q 5 (.q 6 (.q 7 (.q 8 (.q 9 (.q 10 (.q 11 (.q 12 (.q 13 (.q 14 .done))))))))))))))) Tryz.mixed rfl (by kernel_rfl) ?_
    refine XT.q rfl rfl (Q.move rfl) ?_
    refine XT.q rfl rfl (Q.fieldAddr rfl) ?_
    refine XT.q rfl rfl (Q.ld rfl rfl) ?_
    refine XT.q rfl rfl (Q.move rfl) ?_
    refine XT.q rfl rfl (Q.move rfl) ?_
    refine XT.q rfl rfl (Q.nilCheck rfl) ?_
    refine XT.q rfl rfl (Q.fieldAddr rfl) ?_
    refine XT.q rfl rfl (Q.ld rfl rfl) ?_
    refine XT.q rfl rfl (Q.move rfl) ?_
    refine XT.ix rfl rfl rfl rfl (by omega) (by omega) fun i49 => ?_
    refine XT.q rfl rfl (Q.ldE rfl (by first | assumption | omega) rfl) ?_
    refine XT.q rfl rfl (Q.sub rfl rfl ⟨by omega, by omega⟩) ?_
    refine XT.q rfl rfl (Q.mul rfl rfl ⟨by omega, by omega⟩) ?_
    refine XT.q rfl rfl (Q.add rfl rfl ⟨by omega, by omega⟩) ?_
    refine XT.q rfl rfl (Q.assign rfl) ?_
    refine XT.done ?_
    refine XK.inBlock ?_
    refine XK.inBlock ?_
    refine XK.region rfl ?_
    refine XO.q (Q.add rfl rfl ⟨by omega, by omega⟩) ?_
    refine XO.q (Q.move rfl) (XO.done ?_)
    rw [show sumTo (wheat h t c.out i) k + (h.walls.getD k default).pass * (y - t.getD i default) = sumTo (wheat h t c.out i) (k + 1) by rw [sumTo, wheat, if_pos c2.symm, ← hy]; rfl]
    exact ih0 (k + 1) _ _ (by omega) (by first | omega | (dsimp only; omega)) (.c rfl (.c rfl (.base 115 rfl rfl))) inferInstance
   ·skip
    refine XK.seq (XK.region rfl ?_)
    refine XO.q (Q.fieldAddr rfl) ?_
    refine XO.q (Q.ld rfl rfl) ?_
    refine XO.q (Q.eql rfl rfl) ?_
    refine XO.q (Q.assign rfl) (XO.done ?_)
    refine XK.if rfl (fun c3 => ?_) (fun c3 => ?_)
    ·skip
     have hm := mul_abs (p := (h.walls.getD k default).pass) (d := t.getD (h.walls.getD k default).a.toNat default - t.getD i default) (P := 100000) (D := 1000000) hwf.2.2.2.1 hwf.2.2.2.2 (by omega) (by omega) (by omega)
     refine XK.drawn [0, 1, 2, 3, 4, 5, 6, 7, 8, 9, 10, 11, 12, 13, 14, 15, 16, 17, 18, 19, 20, 21] [b7, b] [] (.q 0 (.q 1 (.q 2 (.q 3 (.q 4 (.q 5 (.q 6 (.q 7 (.q 8 (.q 9 (.q 10 (.q 11 (.q 12 (.q 13 (.q 14 (.q 15 (.q 16 (.q 17 (.q 18 (.q 19 (.q 20 (.q 21 .done)))))))))))))))))))))) Tryz.mixed rfl (by kernel_rfl) ?_
     refine XT.q rfl rfl (Q.move rfl) ?_
     refine XT.q rfl rfl (Q.fieldAddr rfl) ?_
     refine XT.q rfl rfl (Q.ld rfl rfl) ?_
     refine XT.q rfl rfl (Q.move rfl) ?_
     refine XT.q rfl rfl (Q.nilCheck rfl) ?_
     refine XT.q rfl rfl (Q.fieldAddr rfl) ?_
     refine XT.q rfl rfl (Q.ld rfl rfl) ?_
     refine XT.q rfl rfl (Q.fieldAddr rfl) ?_
     refine XT.q rfl rfl (Q.ld rfl rfl) ?_
     refine XT.ix rfl rfl rfl rfl (by omega) (by omega) fun i67 => ?_
     refine XT.q rfl rfl (Q.ldE rfl (by first | assumption | omega) rfl) ?_
     refine XT.q rfl rfl (Q.move rfl) ?_
     refine XT.q rfl rfl (Q.nilCheck rfl) ?_
     refine XT.q rfl rfl (Q.fieldAddr rfl) ?_
     refine XT.q rfl rfl (Q.ld rfl rfl) ?_
     refine XT.q rfl rfl (Q.move rfl) ?_
     refine XT.ix rfl rfl rfl rfl (by omega) (by omega) fun i74 => ?_
     refine XT.q rfl rfl (Q.ldE rfl (by first | assumption | omega) rfl) ?_
     refine XT.q rfl rfl (Q.sub rfl rfl ⟨by omega, by omega⟩) ?_
     refine XT.q rfl rfl (Q.mul rfl rfl ⟨by omega, by omega⟩) ?_
     refine XT.q rfl rfl (Q.add rfl rfl ⟨by omega, by omega⟩) ?_
     refine XT.q rfl rfl (Q.assign rfl) ?_
     refine XT.done ?_
     refine XK.inBlock ?_
     refine XK.inBlock ?_
     refine XK.region rfl ?_
     refine XO.q (Q.add rfl rfl ⟨by omega, by omega⟩) ?_
     refine XO.q (Q.move rfl) (XO.done ?_)
     rw [show sumTo (wheat h t c.out i) k + (h.walls.getD k default).pass * (t.getD (h.walls.getD k default).a.toNat default - t.getD i default) = sumTo (wheat h t c.out i) (k + 1) by rw [sumTo, wheat, if_neg (Ne.symm c2), if_pos c3.symm]; rfl]
     exact ih0 (k + 1) _ _ (by omega) (by first | omega | (dsimp only; omega)) (.c rfl (.c rfl (.base 126 rfl rfl))) inferInstance
    ·skip
     refine XK.skip ?_
     refine XK.inBlock ?_
     refine XK.inBlock ?_
     refine XK.region rfl ?_
     refine XO.q (Q.add rfl rfl ⟨by omega, by omega⟩) ?_
     refine XO.q (Q.move rfl) (XO.done ?_)
     rw [show sumTo (wheat h t c.out i) k = sumTo (wheat h t c.out i) (k + 1) by rw [sumTo, wheat, if_neg (Ne.symm c2), if_neg (Ne.symm c3), Int.add_zero]]
     exact ih0 (k + 1) _ _ (by omega) (by first | omega | (dsimp only; omega)) (.c rfl (.c rfl (.base 104 rfl rfl))) inferInstance
  ·intro mt1
   dsimp only [lcA, lnA] at mt1
   refine XK.if rfl (fun c1 => ?_) (fun c1 => ?_)
   ·skip
    refine XK.drawn [0, 1, 2, 3, 4, 5, 6, 7, 8] [b, b7] [] (.q 0 (.q 1 (.q 2 (.q 3 (.q 4 (.q 5 (.q 6 (.q 7 (.q 8 .done))))))))) Tryz.mixed rfl (by kernel_rfl) ?_
    refine XT.q rfl rfl (Q.move rfl) ?_
    refine XT.q rfl rfl (Q.nilCheck rfl) ?_
    refine XT.q rfl rfl (Q.fieldAddr rfl) ?_
    refine XT.q rfl rfl (Q.ld rfl rfl) ?_
    refine XT.q rfl rfl (Q.fieldAddr rfl) ?_
    refine XT.q rfl rfl (Q.ld rfl rfl) ?_
    refine XT.ix rfl rfl rfl rfl (by omega) (by omega) fun i33 => ?_
    refine XT.q rfl rfl (Q.ldE rfl (by first | assumption | omega) rfl) ?_
    refine XT.q rfl rfl (Q.assign rfl) ?_
    refine XT.done ?_
    exact mt1 (_) _ _ ⟨by rw [if_pos c1]; rfl, by have := temp_at ok tk (i := (h.walls.getD k default).b) c1 (by omega); exact this.1, by have := temp_at ok tk (i := (h.walls.getD k default).b) c1 (by omega); exact this.2⟩ (.c rfl (.base 9 rfl rfl)) inferInstance
   ·skip
    refine XK.skip ?_
    exact mt1 (c.out) _ _ ⟨by rw [if_neg c1], hco.1, hco.2⟩ (.c rfl (.base 0 rfl rfl)) inferInstance
 ·skip
  refine XK.exit rfl ?_
  refine XK.seq (XK.region rfl (XO.q (Q.move rfl) (XO.q (Q.assign rfl) (XO.done ?_))))
  refine XK.rt [] Tryz.func112 Tryz.results112 (.t rfl .n) ?_
  have hkn : k = h.walls.length := by omega
  rw [hkn]
  exact ⟨rfl, rfl⟩
theorem coolers_spec (h : Hall) (ok : HOk h) (b : Nat) (vr vw vb vc vl vt vk : Value) (c : HCase) (hc hk : PHeap) [ic : Arr vc encCooler 5 hc h.coolers] (t : List Int) (tk : TOk h t) (ck : COk h c) [ik : Arr vk encI 1 hk (takenL h t c.pump)] (i : Nat) :
  Spec Tryz.prog 113 #[ptr b 0, .int .i64 (i : Nat)] [] [blk b [vr, vw, vb, vc, vl, .int .i64 c.out, .int .i64 c.pump, vt, vk] 321, hc, hk] (fun v hs => v = .int .i64 (sumTo (cheat h (takenL h t c.pump) i) h.coolers.length) ∧ hs = []) := by
 have hc2 := ok.c2
 have hkl : (takenL h t c.pump).length = h.coolers.length := by simp [takenL]
 refine Spec.intro (fn := Tryz.f113) (N := 34) Tryz.func113 rfl Tryz.ntmps113 rfl fun B => ?_
 refine XK.seq (XK.region rfl (XO.q (Q.assign rfl) (XO.done (XK.seq (XK.region rfl ?_)))))
 refine XO.q (Q.assign rfl) (XO.done (XK.seq (XK.seq (XK.region rfl (XO.q (Q.move rfl) ?_)))))
 refine XO.q (Q.nilCheck rfl) ?_
 refine XO.q (Q.fieldAddr rfl) ?_
 refine XO.q (Q.fieldAddr rfl) ?_
 refine XO.q (Q.ld rfl rfl) ?_
 refine XO.len rfl fun l13 => ?_
 refine XO.q (Q.move rfl) (XO.done (XK.block ?_))
 refine XK.while (X := Nat) [5, 6, 7, 14, 15, 16, 17, 18, 19, 20, 21, 22, 23, 24, 25, 26, 27, 28, 29, 30, 31, 32] (fun k => [(14, some (.int .i64 (k : Nat))), (5, some (.int .i64 (sumTo (cheat h (takenL h t c.pump) i) k)))]) (fun k => []) (fun k => k ≤ h.coolers.length) (fun k => h.coolers.length - k) (0) [] rfl (by omega) (.c rfl (.c rfl (.base 0 rfl rfl))) ?_
 rintro k hkk ih0
 dsimp only [lcA, lnA] at ih0 ⊢
 refine XK.seq (XK.region rfl ?_)
 refine XO.q (Q.lss rfl rfl) ?_
 refine XO.done (XK.seq ?_)
 refine XK.if rfl (fun c0 => ?_) (fun c0 => ?_)
 ·skip
  have hcs := csum_abs ok tk ck.pump.1 ck.pump.2 (i := i) (n := k) (by omega)
  have hct := taken_rng ok tk ck.pump.1 ck.pump.2 (k := k) (by omega)
  rw [← taken_getD ok tk (by omega)] at hct
  change 0 ≤ (takenL h t c.pump).getD k default ∧ (takenL h t c.pump).getD k default ≤ _ at hct
  refine XK.skip (XK.seq (XK.block (XK.seq (XK.region rfl (XO.q (Q.move rfl) ?_)))))
  refine XO.ix rfl rfl (by omega) (by omega) fun i17 => ?_
  refine XO.q (Q.ldEA [_, _, _, _, _] rfl (by first | assumption | omega) rfl rfl) ?_
  refine XO.alloc fun b7 => ?_
  refine XO.q (Q.assign rfl) ?_
  refine XO.st rfl rfl rfl ?_
  refine XO.done (XK.seq (XK.region rfl ?_))
  refine XO.q (Q.fieldAddr rfl) ?_
  refine XO.q (Q.ld rfl rfl) ?_
  refine XO.q (Q.move rfl) ?_
  refine XO.q (Q.eql rfl rfl) ?_
  refine XO.done ?_
  refine XK.if rfl (fun c1 => ?_) (fun c1 => ?_)
  ·skip
   refine XK.region rfl (XO.q (Q.move rfl) (XO.q (Q.move rfl) ?_))
   refine XO.q (Q.nilCheck rfl) ?_
   refine XO.q (Q.fieldAddr rfl) ?_
   refine XO.q (Q.ld rfl rfl) ?_
   refine XO.q (Q.move rfl) ?_
   refine XO.ix rfl rfl (by omega) (by omega) fun i29 => ?_
   refine XO.q (Q.ldE rfl (by first | assumption | omega) rfl) ?_
   refine XO.q (Q.sub rfl rfl ⟨by omega, by omega⟩) ?_
   refine XO.q (Q.assign rfl) (XO.done ?_)
   refine XK.inBlock ?_
   refine XK.region rfl ?_
   refine XO.q (Q.add rfl rfl ⟨by omega, by omega⟩) ?_
   refine XO.q (Q.move rfl) (XO.done ?_)
   rw [show sumTo (cheat h (takenL h t c.pump) i) k - (takenL h t c.pump).getD k default = sumTo (cheat h (takenL h t c.pump) i) (k + 1) by rw [sumTo, cheat, if_pos c1]; exact Int.sub_eq_add_neg ..]
   exact ih0 (k + 1) _ _ (by omega) (by first | omega | (dsimp only; omega)) (.c rfl (.c rfl (.base 46 rfl rfl))) inferInstance
  ·skip
   refine XK.skip ?_
   refine XK.inBlock ?_
   refine XK.region rfl ?_
   refine XO.q (Q.add rfl rfl ⟨by omega, by omega⟩) ?_
   refine XO.q (Q.move rfl) (XO.done ?_)
   rw [show sumTo (cheat h (takenL h t c.pump) i) k = sumTo (cheat h (takenL h t c.pump) i) (k + 1) by rw [sumTo, cheat, if_neg c1, Int.add_zero]]
   exact ih0 (k + 1) _ _ (by omega) (by first | omega | (dsimp only; omega)) (.c rfl (.c rfl (.base 36 rfl rfl))) inferInstance
 ·skip
  refine XK.exit rfl ?_
  refine XK.seq (XK.region rfl (XO.q (Q.move rfl) (XO.q (Q.assign rfl) (XO.done ?_))))
  refine XK.rt [] Tryz.func113 Tryz.results113 (.t rfl .n) ?_
  have hkn : k = h.coolers.length := by omega
  rw [hkn]
  exact ⟨rfl, rfl⟩
theorem list_get {α : Type} [Inhabited α] {l : List α} {j : Nat} (hj : j < l.length) : l[((j : Nat) : Int).toNat]? = some (l.getD j default) := by
 rw [Int.toNat_natCast, List.getElem?_eq_getElem hj, List.getD_eq_getElem?_getD, List.getElem?_eq_getElem hj]; rfl
theorem carr_spec (h : Hall) (ok : HOk h) (b : Nat) (vr vw vb vc vl vt vk : Value) (c : HCase) (hw hc hl ht hk : PHeap) [iw : Arr vw encWall 3 hw h.walls] [ic : Arr vc encCooler 5 hc h.coolers] [il : Arr vl encI 1 hl c.load] (t : List Int) [it : Arr vt encI 1 ht t] (tk : TOk h t) (ck : COk h c)
  [ik : Arr vk encI 1 hk (takenL h t c.pump)] (i : Nat) (hi : i < h.rooms.length) (j : Nat) (hj : j < 3) :
  VSpec Tryz.prog (([.func (.func 111) #[ptr b 0] #[], .func (.func 112) #[ptr b 0] #[], .func (.func 113) #[ptr b 0] #[]] : List Value).getD j default) [.int .i64 (i : Nat)] [] [blk b [vr, vw, vb, vc, vl, .int .i64 c.out, .int .i64 c.pump, vt, vk] 321, hw, hc, hl, ht, hk] (fun v hs => v = .int .i64 (([c.load.getD i 0, sumTo (wheat h t c.out i) h.walls.length, sumTo (cheat h (takenL h t c.pump) i) h.coolers.length] : List Int).getD j default) ∧ hs = []) := by
 match j, hj with
 | 0, _ => exact VSpec.fn (fst := [ptr b 0]) (cap := []) (vs := [.int .i64 (i : Nat)]) Tryz.call111 rfl ((load_spec b vr vw vb vc vl vt vk c hl i (by have := ck.len; omega)).wide (fun x hx => by simp at hx; rcases hx with rfl | rfl <;> simp))
 | 1, _ => exact VSpec.fn (fst := [ptr b 0]) (cap := []) (vs := [.int .i64 (i : Nat)]) Tryz.call112 rfl ((walls_spec h ok b vr vw vb vc vl vt vk c hw ht t tk ck i hi).wide (fun x hx => by simp at hx; rcases hx with rfl | rfl | rfl <;> simp))
 | 2, _ => exact VSpec.fn (fst := [ptr b 0]) (cap := []) (vs := [.int .i64 (i : Nat)]) Tryz.call113 rfl ((coolers_spec h ok b vr vw vb vc vl vt vk c hc hk t tk ck i).wide (fun x hx => by simp at hx; rcases hx with rfl | rfl | rfl <;> simp))
theorem three_bd7 {a b c lo hi : Int} (ha : lo ≤ a ∧ a ≤ hi) (hb : lo ≤ b ∧ b ≤ hi) (hc : lo ≤ c ∧ c ≤ hi) {k : Nat} (hk : k < 3) : lo ≤ [a, b, c].getD k default ∧ [a, b, c].getD k default ≤ hi := by
 match k, hk with
 | 0, _ => exact ha
 | 1, _ => exact hb
 | 2, _ => exact hc
theorem sum_three (x a b c : Int) : x + sumTo (fun j => [a, b, c].getD j default) 3 = x + a + b + c := by
 show x + (((0 + a) + b) + c) = _
 omega
theorem next_spec7 (h : Hall) (vr vw vb vc : Value) (hr hw hb hc : PHeap) [ir : Arr vr encRoom 2 hr h.rooms] [iw : Arr vw encWall 3 hw h.walls] [ib : Arr vb encBranch 3 hb h.branches] [ic : Arr vc encCooler 5 hc h.coolers] (ok : HOk h) (t : List Int) (vt : Value) (ht : PHeap) [it : Arr vt encI 1 ht t] (tk : TOk h t)
  (c : HCase) (ck : COk h c) (vl : Value) (hl : PHeap) [il : Arr vl encI 1 hl c.load] : Spec Tryz.prog 53 #[.agg #[vr, vw, vb, vc], vt, .agg #[vl, .int .i64 c.out, .int .i64 c.pump]] [] [hr, hw, hb, hc, ht, hl] (fun v hs => ∃ k, hs = [k] ∧ OArr v encI 1 3 k (nextL h t c)) := by
 have hnil : OArr (.slice none 0 0) encI 1 3 emp ([] : List Int) := OArr.nil (fun _ => rfl)
 have hr2 := ok.r2
 have htl := tk.len
 refine Spec.intro (fn := Tryz.f53) (N := 61) Tryz.func53 rfl Tryz.ntmps53 rfl fun B => ?_
 refine XK.seq (XK.region rfl ?_)
 refine XO.box rfl fun b3 => ?_
 refine XO.box rfl fun b5 => ?_
 refine XO.q (Q.assign rfl) (XO.done (XK.seq (XK.region rfl ?_)))
 refine XO.q (Q.ldA [_, _, _, _] rfl rfl rfl) ?_
 refine XO.q (Q.move rfl) ?_
 refine XO.q (Q.ldA [_, _, _] rfl rfl rfl) ?_
 refine XO.call Tryz.call110 rfl rfl rfl (at_spec h vr vw vb vc hb hc ok t vt ht tk c ck vl) fun v18 s18 R18 => ?_
 obtain ⟨b19, vk, hk, rfl, rfl, OK⟩ := R18
 dsimp only [lcA, lnA]
 refine XO.q (Q.assign rfl) (XO.done (XK.seq (XK.region rfl (XO.q (Q.move rfl) ?_))))
 refine XO.q (Q.func (fun _ he => evs_rel he rfl) (fun _ he => rfl)) ?_
 refine XO.q (Q.move rfl) ?_
 refine XO.q (Q.func (fun _ he => evs_rel he rfl) (fun _ he => rfl)) ?_
 refine XO.q (Q.move rfl) ?_
 refine XO.q (Q.func (fun _ he => evs_rel he rfl) (fun _ he => rfl)) ?_
 refine XO.q (Q.build [_, _, _] (.c 0 1 rfl rfl rfl (.c 1 1 rfl rfl rfl (.c 2 1 rfl rfl rfl (.n _))))) ?_
 refine XO.alloc fun b8 => ?_
 refine XO.st rfl rfl rfl ?_
 refine XO.done (XK.seq (XK.region rfl (XO.q (Q.assign rfl) (XO.done (XK.seq ?_)))))
 refine XK.seq (XK.region rfl ?_)
 refine XO.q (Q.fieldAddr rfl) ?_
 refine XO.q (Q.ld rfl rfl) ?_
 refine XO.len rfl fun l28 => ?_
 refine XO.q (Q.move rfl) (XO.done (XK.block ?_))
 refine XK.while (X := Nat × Value × PHeap) [9, 10, 11, 12, 14, 29, 30, 31, 32, 33, 34, 35, 36, 37, 38, 39, 40, 41, 42, 43, 44, 45, 46, 47, 48, 49, 50, 51, 52, 53, 54, 55, 56, 57, 58, 59] (fun ⟨i, vO, hO⟩ => [(29, some (.int .i64 (i : Nat))), (9, some (vO))]) (fun ⟨i, vO, hO⟩ => [hO]) (fun ⟨i, vO, hO⟩ => i ≤ h.rooms.length ∧ OArr vO encI 1 3 hO ((List.range i).map (nextAt h t c))) (fun ⟨i, vO, hO⟩ => h.rooms.length - i) (0, .slice none 0 0, emp) [emp] rfl ⟨by omega, by simpa using hnil⟩ (.c rfl (.c rfl (.base 0 rfl rfl))) ?_
 rintro ⟨i, vO, hO⟩ ⟨hi, OO⟩ ih0
 dsimp only [lcA, lnA] at ih0 ⊢
 refine XK.seq (XK.region rfl ?_)
 refine XO.q (Q.lss rfl rfl) ?_
 refine XO.done (XK.seq ?_)
 refine XK.if rfl (fun c0 => ?_) (fun c0 => ?_)
 ·skip
  have hrm := ok.room i (by omega)
  have hI := tk.rng i (by omega)
  change 0 ≤ t.getD i default ∧ t.getD i default ≤ 1000000 at hI
  have hm := mul_abs (p := (h.rooms.getD i default).store) (d := t.getD i default) (P := 1000000) (D := 1000000) (by omega) hrm.2.1 (by omega) hI.2 (by omega)
  have hl1 := ck.rng i (by have := ck.len; omega)
  have hw1 := wsum_abs ok tk ck.out (i := i) (n := h.walls.length) (by omega) (Nat.le_refl _)
  have hc1 := csum_abs ok tk ck.pump.1 ck.pump.2 (i := i) (n := h.coolers.length) (Nat.le_refl _)
  have hnn := heat_nonneg ok tk ck (i := i) (by omega)
  have hnu : heatOf h t c i ≤ 10000000000000 := by unfold heatOf; change (h.rooms.getD i default).store * t.getD i default + _ + _ + _ ≤ _; omega
  refine XK.skip (XK.seq (XK.block (XK.seq (XK.region rfl (XO.q (Q.move rfl) ?_)))))
  refine XO.ix rfl rfl (by omega) (by omega) fun i32 => ?_
  refine XO.q (Q.ldEA [_, _] rfl (by first | assumption | omega) rfl rfl) ?_
  refine XO.alloc fun b11 => ?_
  refine XO.q (Q.assign rfl) ?_
  refine XO.st rfl rfl rfl ?_
  refine XO.done (XK.seq ?_)
  refine XK.drawn [0, 1, 2, 3, 4, 5, 6, 7] [b11] [] (.q 0 (.q 1 (.q 2 (.q 3 (.q 4 (.q 5 (.q 6 (.q 7 .done)))))))) Tryz.mixed rfl (by kernel_rfl) ?_
  refine XT.q rfl rfl (Q.fieldAddr rfl) ?_
  refine XT.q rfl rfl (Q.ld rfl rfl) ?_
  refine XT.q rfl rfl (Q.move rfl) ?_
  refine XT.q rfl rfl (Q.move rfl) ?_
  refine XT.ix rfl rfl rfl rfl (by omega) (by omega) fun i38 => ?_
  refine XT.q rfl rfl (Q.ldE rfl (by first | assumption | omega) rfl) ?_
  refine XT.q rfl rfl (Q.mul rfl rfl ⟨by omega, by omega⟩) ?_
  refine XT.q rfl rfl (Q.assign rfl) ?_
  refine XT.done ?_
  refine XK.seq (XK.seq (XK.region rfl ?_))
  rw [show (h.rooms.getD i default).store * t.getD i default = (h.rooms.getD i default).store * t.getD i default + sumTo (fun j => ([c.load.getD i 0, sumTo (wheat h t c.out i) h.walls.length, sumTo (cheat h (takenL h t c.pump) i) h.coolers.length] : List Int).getD j default) 0 by rw [sumTo, Int.add_zero]]
  refine XO.q (Q.ldA [_, _, _] rfl rfl rfl) ?_
  refine XO.q (Q.move rfl) (XO.done (XK.block ?_))
  refine XK.while (X := Nat) [12, 14, 42, 43, 44, 45, 46, 47, 48, 49, 50] (fun j => [(42, some (.int .i64 (j : Nat))), (12, some (.int .i64 ((h.rooms.getD i default).store * t.getD i default + sumTo (fun j => ([c.load.getD i 0, sumTo (wheat h t c.out i) h.walls.length, sumTo (cheat h (takenL h t c.pump) i) h.coolers.length] : List Int).getD j default) j)))]) (fun j => []) (fun j => j ≤ 3) (fun j => 3 - j) (0) [] rfl (by omega) (.c rfl (.c rfl (.base 0 rfl rfl))) ?_
  rintro j hj ih1
  dsimp only [lcA, lnA] at ih1 ⊢
  refine XK.seq (XK.region rfl ?_)
  refine XO.q (Q.lss rfl rfl) ?_
  refine XO.done (XK.seq ?_)
  refine XK.if rfl (fun c1 => ?_) (fun c1 => ?_)
  ·skip
   have hpj : -1600000000000 ≤ ([c.load.getD i 0, sumTo (wheat h t c.out i) h.walls.length, sumTo (cheat h (takenL h t c.pump) i) h.coolers.length] : List Int).getD j default ∧ ([c.load.getD i 0, sumTo (wheat h t c.out i) h.walls.length, sumTo (cheat h (takenL h t c.pump) i) h.coolers.length] : List Int).getD j default ≤ 1600000000000 := three_bd7 (by omega) hw1 hc1 (by omega)
   have hsj := sum_abs (f := (fun j => ([c.load.getD i 0, sumTo (wheat h t c.out i) h.walls.length, sumTo (cheat h (takenL h t c.pump) i) h.coolers.length] : List Int).getD j default)) (n := j) (M := 1600000000000) fun k hk => three_bd7 (by omega) hw1 hc1 (by omega)
   refine XK.skip (XK.seq (XK.block (XK.seq (XK.region rfl ?_))))
   refine XO.q (Q.index1 (v := ([.func (.func 111) #[ptr b19 0] #[], .func (.func 112) #[ptr b19 0] #[], .func (.func 113) #[ptr b19 0] #[]] : List Value).getD j default) rfl rfl (by omega) (by omega) (list_get (by show j < 3; omega))) ?_
   refine XO.q (Q.assign rfl) (XO.done (XK.region rfl (XO.q (Q.move rfl) (XO.q (Q.move rfl) (XO.q (Q.move rfl) ?_)))))
   refine XO.vcall rfl rfl (carr_spec h ok b19 vr vw vb vc vl vt vk c hw hc hl ht hk t tk ck i (by omega) j (by omega)) fun v48 s48 R48 => ?_
   obtain ⟨rfl, rfl⟩ := R48
   dsimp only [lcA, lnA]
   refine XO.q (Q.add rfl rfl ⟨by omega, by omega⟩) ?_
   refine XO.q (Q.assign rfl) (XO.done ?_)
   refine XK.inBlock ?_
   refine XK.region rfl ?_
   refine XO.q (Q.add rfl rfl ⟨by omega, by omega⟩) ?_
   refine XO.q (Q.move rfl) (XO.done ?_)
   rw [show (h.rooms.getD i default).store * t.getD i default + sumTo (fun j => ([c.load.getD i 0, sumTo (wheat h t c.out i) h.walls.length, sumTo (cheat h (takenL h t c.pump) i) h.coolers.length] : List Int).getD j default) j + ([c.load.getD i 0, sumTo (wheat h t c.out i) h.walls.length, sumTo (cheat h (takenL h t c.pump) i) h.coolers.length] : List Int).getD j default = (h.rooms.getD i default).store * t.getD i default + sumTo (fun j => ([c.load.getD i 0, sumTo (wheat h t c.out i) h.walls.length, sumTo (cheat h (takenL h t c.pump) i) h.coolers.length] : List Int).getD j default) (j + 1) by rw [sumTo, Int.add_assoc]]
   exact ih1 (j + 1) _ _ (by omega) (by first | omega | (dsimp only; omega)) (.c rfl (.c rfl (.base 24 rfl rfl))) inferInstance
  ·skip
   have hj3 : j = 3 := by omega
   rw [hj3]
   rw [show (h.rooms.getD i default).store * t.getD i default + sumTo (fun j => ([c.load.getD i 0, sumTo (wheat h t c.out i) h.walls.length, sumTo (cheat h (takenL h t c.pump) i) h.coolers.length] : List Int).getD j default) 3 = heatOf h t c i by rw [heatOf]; exact sum_three ..]
   refine XK.exit rfl ?_
   refine XK.region rfl (XO.q (Q.move rfl) (XO.q (Q.move rfl) ?_))
   refine XO.q (Q.fieldAddr rfl) ?_
   refine XO.q (Q.ld rfl rfl) ?_
   refine XO.q (Q.quo rfl rfl (by omega) (by omega) (by omega)) ?_
   refine XO.q (Q.min rfl rfl) ?_
   refine XO.lit [_] [_] [_] encI (by rfl) (by rfl) rfl (by rfl) (by exact .c 0 1 rfl rfl rfl (.n _)) (fun _ => rfl) (by rfl) rfl (by infer_instance) rfl fun v57 h57 O57 => ?_
   refine XO.append rfl rfl rfl rfl (by simp only [List.length_map, List.length_range, List.length_cons, List.length_nil]; omega) fun v58 h58 O58 => ?_
   refine XO.q (Q.assign rfl) (XO.done ?_)
   refine XK.inBlock ?_
   refine XK.region rfl ?_
   refine XO.q (Q.add rfl rfl ⟨by omega, by omega⟩) ?_
   refine XO.q (Q.move rfl) (XO.done ?_)
   exact ih0 (i + 1, v58, h58) _ _ ⟨by dsimp only; omega, by dsimp only; rw [show (List.range (i + 1)).map (nextAt h t c) = (List.range i).map (nextAt h t c) ++ [nextAt h t c i] by rw [List.range_succ, List.map_append]; rfl]; exact O58⟩ (by first | omega | (dsimp only; omega)) (.c rfl (.c rfl (.base 79 rfl rfl))) inferInstance
 ·skip
  refine XK.exit rfl ?_
  refine XK.seq (XK.region rfl (XO.q (Q.move rfl) (XO.q (Q.assign rfl) (XO.done ?_))))
  refine XK.rt [hO] Tryz.func53 Tryz.results53 (.t rfl .n) ?_
  have hin : i = h.rooms.length := by omega
  rw [hin] at OO
  exact ⟨hO, rfl, OO⟩
end Go.X.Ht

set_option linter.unusedSimpArgs false
set_option linter.unusedVariables false
set_option maxRecDepth 20000
namespace Go.X.Ht
open Go.Proofs
theorem cloneI (v : Value) (h : PHeap) (xs : List Int) [s : Arr v encI 1 h xs] (hl : xs.length ≤ 68719476736) :
  Spec Tryz.prog 59 #[v] [] [h] (fun v' hs => ∃ h', hs = [h'] ∧ OArr v' encI 1 3 h' xs) := by apply Go.X.Bk.cloneI <;> assumption
theorem equalI (v1 v2 : Value) (h1 h2 : PHeap) (xs ys : List Int) [s1 : Arr v1 encI 1 h1 xs] [s2 : Arr v2 encI 1 h2 ys] :
  Spec Tryz.prog 35 #[v1, v2] [] [h1, h2] (fun v hs => v = .bool (decide (xs = ys)) ∧ hs = []) := by apply Go.X.Bk.equalI <;> assumption
theorem indexFuncI (v : Value) (h : PHeap) (xs : List Int) [s : Arr v encI 1 h xs] (gid : FuncId) (cap : List Value) (Hr : List PHeap) (p : Int → Bool)
  (hc : ∀ args w, (callFunc gid args).run Tryz.prog w = .ok (.enter gid args) w) (hS : ∀ x ∈ xs, Spec Tryz.prog gid (.int .i64 x :: cap).toArray [] Hr (fun v hs => v = .bool (p x) ∧ hs = [])) :
  Spec Tryz.prog 159 #[v, .func (.func gid) #[] cap.toArray] [] (h :: Hr) (fun v hs => v = .int .i64 (findFirst p xs) ∧ hs = []) := by apply Go.X.Bk.indexFuncI <;> assumption
theorem containsFuncI (v : Value) (h : PHeap) (xs : List Int) [s : Arr v encI 1 h xs] (gid : FuncId) (cap : List Value) (Hr : List PHeap) (p : Int → Bool)
  (hc : ∀ args w, (callFunc gid args).run Tryz.prog w = .ok (.enter gid args) w) (hS : ∀ x ∈ xs, Spec Tryz.prog gid (.int .i64 x :: cap).toArray [] Hr (fun v hs => v = .bool (p x) ∧ hs = [])) :
  Spec Tryz.prog 97 #[v, .func (.func gid) #[] cap.toArray] [] (h :: Hr) (fun v hs => v = .bool (xs.any p) ∧ hs = []) := by apply Go.X.Bk.containsFuncI <;> assumption
theorem warm1 (x : Int) : Spec Tryz.prog 108 #[.int .i64 x] [] [] (fun v hs => v = .bool (!inP x 1000000) ∧ hs = []) := by
 refine Spec.intro (fn := Tryz.f108) (N := 6) Tryz.func108 rfl Tryz.ntmps108 rfl fun B => ?_
 refine XK.seq (XK.region rfl (XO.q (Q.assign rfl) (XO.done (XK.seq (XK.region rfl ?_)))))
 refine XO.q (Q.move rfl) ?_
 refine XO.call Tryz.call61 rfl rfl rfl (in_spec _ _) fun v4 s4 R4 => ?_
 obtain ⟨rfl, rfl⟩ := R4
 dsimp only [lcA, lnA]
 refine XO.q (Q.not rfl) ?_
 refine XO.q (Q.assign rfl) (XO.done ?_)
 refine XK.rt [] Tryz.func108 Tryz.results108 (.t rfl .n) ?_
 exact ⟨rfl, rfl⟩
theorem cased1 (x : Int) : Spec Tryz.prog 109 #[.int .i64 x] [] [] (fun v hs => v = .bool (!inP x 10000000) ∧ hs = []) := by
 refine Spec.intro (fn := Tryz.f109) (N := 6) Tryz.func109 rfl Tryz.ntmps109 rfl fun B => ?_
 refine XK.seq (XK.region rfl (XO.q (Q.assign rfl) (XO.done (XK.seq (XK.region rfl ?_)))))
 refine XO.q (Q.move rfl) ?_
 refine XO.call Tryz.call61 rfl rfl rfl (in_spec _ _) fun v4 s4 R4 => ?_
 obtain ⟨rfl, rfl⟩ := R4
 dsimp only [lcA, lnA]
 refine XO.q (Q.not rfl) ?_
 refine XO.q (Q.assign rfl) (XO.done ?_)
 refine XK.rt [] Tryz.func109 Tryz.results109 (.t rfl .n) ?_
 exact ⟨rfl, rfl⟩
theorem warm_spec (h : Hall) (vr vw vb vc : Value) (hr : PHeap) [ir : Arr vr encRoom 2 hr h.rooms] [iw : One vw] [ib : One vb] [ic : One vc] (vt : Value) (ht : PHeap) (t : List Int) [it : Arr vt encI 1 ht t] : Spec Tryz.prog 51 #[.agg #[vr, vw, vb, vc], vt] [] [hr, ht]
  (fun v hs => v = .int .i64 (warmP h t) ∧ hs = []) := by
 refine Spec.intro (fn := Tryz.f51) (N := 13) Tryz.func51 rfl Tryz.ntmps51 rfl fun B => ?_
 refine XK.seq (XK.region rfl ?_)
 refine XO.box rfl fun b2 => ?_
 refine XO.q (Q.assign rfl) (XO.done (XK.seq (XK.seq (XK.region rfl (XO.q (Q.move rfl) ?_)))))
 refine XO.len rfl fun l6 => ?_
 refine XO.q (Q.fieldAddr rfl) ?_
 refine XO.q (Q.ld rfl rfl) ?_
 refine XO.len rfl fun l9 => ?_
 refine XO.q (Q.neq rfl rfl) ?_
 refine XO.done ?_
 refine XK.if rfl (fun c0 => ?_) (fun c0 => ?_)
 ·skip
  refine XK.seq (XK.region rfl (XO.q (Q.assign rfl) (XO.done ?_)))
  refine XK.rt [] Tryz.func51 Tryz.results51 (.t rfl .n) ?_
  exact ⟨by rw [warmP, if_pos c0], rfl⟩
 ·skip
  refine XK.skip (XK.seq (XK.seq (XK.region rfl (XO.q (Q.move rfl) ?_))))
  refine XO.call Tryz.call97 rfl rfl rfl (containsFuncI vt ht t 108 [] [] _ Tryz.call108 (fun x hx => warm1 x)) fun v12 s12 R12 => ?_
  obtain ⟨rfl, rfl⟩ := R12
  dsimp only [lcA, lnA]
  refine XO.done ?_
  refine XK.if rfl (fun c1 => ?_) (fun c1 => ?_)
  ·skip
   refine XK.seq (XK.region rfl (XO.q (Q.assign rfl) (XO.done ?_)))
   refine XK.rt [] Tryz.func51 Tryz.results51 (.t rfl .n) ?_
   exact ⟨by rw [warmP, if_neg c0, if_pos c1], rfl⟩
  ·skip
   refine XK.skip (XK.seq (XK.region rfl (XO.q (Q.assign rfl) (XO.done ?_))))
   refine XK.rt [] Tryz.func51 Tryz.results51 (.t rfl .n) ?_
   exact ⟨by rw [warmP, if_neg c0, if_neg c1], rfl⟩
theorem cased_spec (h : Hall) (vr vw vb vc : Value) (hr : PHeap) [ir : Arr vr encRoom 2 hr h.rooms] [iw : One vw] [ib : One vb] [ic : One vc] (vl : Value) (hl : PHeap) (c : HCase) [il : Arr vl encI 1 hl c.load] : Spec Tryz.prog 52 #[.agg #[vr, vw, vb, vc], .agg #[vl, .int .i64 c.out, .int .i64 c.pump]] [] [hr, hl]
  (fun v hs => v = .int .i64 (casedP h c) ∧ hs = []) := by
 refine Spec.intro (fn := Tryz.f52) (N := 27) Tryz.func52 rfl Tryz.ntmps52 rfl fun B => ?_
 refine XK.seq (XK.region rfl ?_)
 refine XO.box rfl fun b2 => ?_
 refine XO.box rfl fun b3 => ?_
 refine XO.q (Q.assign rfl) (XO.done (XK.seq (XK.seq (XK.region rfl ?_))))
 refine XO.q (Q.fieldAddr rfl) ?_
 refine XO.q (Q.ld rfl rfl) ?_
 refine XO.len rfl fun l7 => ?_
 refine XO.q (Q.fieldAddr rfl) ?_
 refine XO.q (Q.ld rfl rfl) ?_
 refine XO.len rfl fun l10 => ?_
 refine XO.q (Q.neq rfl rfl) ?_
 refine XO.done ?_
 refine XK.if rfl (fun c0 => ?_) (fun c0 => ?_)
 ·skip
  refine XK.seq (XK.region rfl (XO.q (Q.assign rfl) (XO.done ?_)))
  refine XK.rt [] Tryz.func52 Tryz.results52 (.t rfl .n) ?_
  exact ⟨by rw [casedP, if_pos c0], rfl⟩
 ·skip
  refine XK.skip (XK.seq (XK.seq (XK.region rfl ?_)))
  refine XO.q (Q.fieldAddr rfl) ?_
  refine XO.q (Q.ld rfl rfl) ?_
  refine XO.call Tryz.call97 rfl rfl rfl (containsFuncI vl hl c.load 109 [] [] _ Tryz.call109 (fun x hx => cased1 x)) fun v14 s14 R14 => ?_
  obtain ⟨rfl, rfl⟩ := R14
  dsimp only [lcA, lnA]
  refine XO.q (Q.move rfl) ?_
  refine XO.q (Quiet.guardF rfl rfl fun g16 p16 => Q.fieldAddr rfl) ?_
  refine XO.q (Quiet.guardF rfl rfl fun g17 p17 => Q.ld (lzv g17 rfl) rfl) ?_
  refine XO.gcallF rfl rfl Tryz.call61 rfl (fun g18 => .c (lzv g18 rfl) (.c rfl .n)) rfl (fun g18 p18 => in_spec _ _) ?_
  refine XO.q (Quiet.guardF rfl rfl fun g19 p19 => Q.not (lzv g19 rfl)) ?_
  refine XO.q (Q.or rfl (fun hp => lzv hp rfl)) ?_
  refine XO.q (Q.move rfl) ?_
  refine XO.q (Quiet.guardF rfl rfl fun g22 p22 => Q.fieldAddr rfl) ?_
  refine XO.q (Quiet.guardF rfl rfl fun g23 p23 => Q.ld (lzv g23 rfl) rfl) ?_
  refine XO.gcallF rfl rfl Tryz.call61 rfl (fun g24 => .c (lzv g24 rfl) (.c rfl .n)) rfl (fun g24 p24 => in_spec _ _) ?_
  refine XO.q (Quiet.guardF rfl rfl fun g25 p25 => Q.not (lzv g25 rfl)) ?_
  refine XO.q (Q.or rfl (fun hp => lzv hp rfl)) ?_
  refine XO.done ?_
  refine XK.if rfl (fun c1 => ?_) (fun c1 => ?_)
  ·skip
   refine XK.seq (XK.region rfl (XO.q (Q.assign rfl) (XO.done ?_)))
   refine XK.rt [] Tryz.func52 Tryz.results52 (.t rfl .n) ?_
   exact ⟨by rw [casedP, if_neg c0, if_pos c1], rfl⟩
  ·skip
   refine XK.skip (XK.seq (XK.region rfl (XO.q (Q.assign rfl) (XO.done ?_))))
   refine XK.rt [] Tryz.func52 Tryz.results52 (.t rfl .n) ?_
   exact ⟨by rw [casedP, if_neg c0, if_neg c1], rfl⟩
theorem indexE (v : Value) (hh : PHeap) (xs : List Int) [s : Arr v encI 1 hh xs] (x : Int) : Spec Tryz.prog 165 #[v, .int .i64 x] [] [hh] (fun v hs => v = .int .i64 (findFirst (fun y => decide (x = y)) xs) ∧ hs = []) := by
 refine Spec.intro (fn := Tryz.f165) (N := 19) Tryz.func165 rfl Tryz.ntmps165 rfl fun B => ?_
 refine XK.seq (XK.region rfl (XO.q (Q.assign rfl) (XO.done (XK.seq (XK.seq ?_)))))
 refine XK.region rfl (XO.q (Q.move rfl) ?_)
 refine XO.len rfl fun l7 => ?_
 refine XO.q (Q.move rfl) (XO.done (XK.block ?_))
 refine XK.while (X := Nat) [4, 5, 8, 9, 10, 11, 12, 13, 14, 15, 16, 17, 18] (fun i => [(8, some (.int .i64 (i : Nat)))]) (fun i => []) (fun i => i ≤ xs.length ∧ (xs.take i).any (fun y => decide (x = y)) = false) (fun i => xs.length - i) (0) [] rfl ⟨by omega, rfl⟩ (.c rfl (.base 0 rfl rfl)) ?_
 rintro i ⟨hi, hany⟩ ih0
 dsimp only [lcA, lnA] at ih0 ⊢
 refine XK.seq (XK.region rfl ?_)
 refine XO.q (Q.lss rfl rfl) ?_
 refine XO.done (XK.seq ?_)
 refine XK.if rfl (fun c0 => ?_) (fun c0 => ?_)
 ·skip
  refine XK.skip (XK.seq (XK.block (XK.seq (XK.region rfl (XO.q (Q.move rfl) ?_)))))
  refine XO.q (Q.assign rfl) (XO.done (XK.seq (XK.region rfl (XO.q (Q.move rfl) (XO.q (Q.move rfl) ?_)))))
  refine XO.q (Q.move rfl) ?_
  refine XO.ix rfl rfl (by omega) (by omega) fun i14 => ?_
  refine XO.q (Q.ldE rfl (by first | assumption | omega) rfl) ?_
  refine XO.q (Q.eql rfl rfl) ?_
  refine XO.done ?_
  refine XK.if rfl (fun c1 => ?_) (fun c1 => ?_)
  ·skip
   refine XK.seq (XK.region rfl (XO.q (Q.move rfl) (XO.q (Q.assign rfl) (XO.done ?_))))
   refine XK.rt [] Tryz.func165 Tryz.results165 (.t rfl .n) ?_
   exact ⟨by rw [findFirst_here hany (by omega) (by rw [decide_eq_true_eq]; exact c1)], rfl⟩
  ·skip
   refine XK.skip ?_
   refine XK.inBlock ?_
   refine XK.region rfl ?_
   refine XO.q (Q.add rfl rfl ⟨by omega, by omega⟩) ?_
   refine XO.q (Q.move rfl) (XO.done ?_)
   exact ih0 (i + 1) _ _ ⟨by omega, any_step hany (by omega) (by rw [decide_eq_false_iff_not]; exact c1)⟩ (by first | omega | (dsimp only; omega)) (.c rfl (.base 25 rfl rfl)) inferInstance
 ·skip
  refine XK.exit rfl ?_
  refine XK.seq (XK.region rfl (XO.q (Q.assign rfl) (XO.done ?_)))
  refine XK.rt [] Tryz.func165 Tryz.results165 (.t rfl .n) ?_
  exact ⟨by rw [findFirst_none hany c0], rfl⟩
theorem containsE (v : Value) (hh : PHeap) (xs : List Int) [s : Arr v encI 1 hh xs] (x : Int) : Spec Tryz.prog 107 #[v, .int .i64 x] [] [hh] (fun v hs => v = .bool (xs.any (fun y => decide (x = y))) ∧ hs = []) := by
 refine Spec.intro (fn := Tryz.f107) (N := 9) Tryz.func107 rfl Tryz.ntmps107 rfl fun B => ?_
 refine XK.seq (XK.region rfl (XO.q (Q.assign rfl) (XO.done (XK.seq (XK.region rfl ?_)))))
 refine XO.q (Q.move rfl) (XO.q (Q.move rfl) ?_)
 refine XO.call Tryz.call165 rfl rfl rfl (indexE v hh xs x) fun v7 s7 R7 => ?_
 obtain ⟨rfl, rfl⟩ := R7
 dsimp only [lcA, lnA]
 refine XO.q (Q.geq rfl rfl) ?_
 refine XO.q (Q.assign rfl) (XO.done ?_)
 refine XK.rt [] Tryz.func107 Tryz.results107 (.t rfl .n) ?_
 exact ⟨by rw [← findFirst_any], rfl⟩
theorem any_mem {x : Int} {xs : List Int} : xs.any (fun y => decide (x = y)) = true ↔ x ∈ xs := by
 rw [List.any_eq_true]
 exact ⟨fun ⟨y, hy, h⟩ => by rw [decide_eq_true_eq] at h; exact h ▸ hy, fun h => ⟨x, h, by simp⟩⟩
theorem both_spec (v : Value) (hh : PHeap) (xs : List Int) [s : Arr v encI 1 hh xs] : Spec Tryz.prog 50 #[v] [] [hh] (fun v hs => v = .int .i64 (bothP xs) ∧ hs = []) := by
 refine Spec.intro (fn := Tryz.f50) (N := 16) Tryz.func50 rfl Tryz.ntmps50 rfl fun B => ?_
 refine XK.seq (XK.region rfl (XO.q (Q.assign rfl) (XO.done (XK.seq (XK.seq ?_)))))
 refine XK.region rfl ?_
 refine XO.lit [_, _] [_, _] [1, 6] encI (by rfl) (by rfl) rfl (by rfl) (by exact .c 0 1 rfl rfl rfl (.c 1 1 rfl rfl rfl (.n _))) (fun _ => rfl) (by rfl) rfl (by infer_instance) rfl fun v5 h5 O5 => ?_
 refine XO.len rfl fun l6 => ?_
 rw [show (((([1, 6] : List Int).length : Nat) : Int)) = 2 from rfl]
 refine XO.q (Q.move rfl) (XO.done (XK.block ?_))
 refine XK.while (X := Nat) [2, 4, 7, 8, 9, 10, 11, 12, 13, 14, 15] (fun i => [(7, some (.int .i64 (i : Nat)))]) (fun i => []) (fun i => i ≤ 2 ∧ (0 < i → ¬ (1 : Int) ∈ xs) ∧ (1 < i → ¬ (6 : Int) ∈ xs)) (fun i => 2 - i) (0) [] rfl ⟨by omega, by omega, by omega⟩ (.c rfl (.base 0 rfl rfl)) ?_
 rintro i ⟨hi, h0, h1⟩ ih0
 dsimp only [lcA, lnA] at ih0 ⊢
 refine XK.seq (XK.region rfl ?_)
 refine XO.q (Q.lss rfl rfl) ?_
 refine XO.done (XK.seq ?_)
 refine XK.if rfl (fun c0 => ?_) (fun c0 => ?_)
 ·skip
  refine XK.skip (XK.seq (XK.block (XK.seq (XK.region rfl ?_))))
  refine XO.ix rfl rfl (by omega) (by show (i : Int) < 2; omega) fun i9 => ?_
  refine XO.q (Q.ldE rfl (by first | assumption | omega) rfl) ?_
  refine XO.q (Q.assign rfl) (XO.done (XK.seq (XK.region rfl (XO.q (Q.move rfl) (XO.q (Q.move rfl) ?_)))))
  refine XO.call Tryz.call107 rfl rfl rfl (containsE v hh xs _) fun v13 s13 R13 => ?_
  obtain ⟨rfl, rfl⟩ := R13
  dsimp only [lcA, lnA]
  refine XO.done ?_
  refine XK.if rfl (fun c1 => ?_) (fun c1 => ?_)
  ·skip
   refine XK.seq (XK.region rfl (XO.q (Q.move rfl) (XO.q (Q.assign rfl) (XO.done ?_))))
   refine XK.rt [] Tryz.func50 Tryz.results50 (.t rfl .n) ?_
   rw [any_mem] at c1
   match i, (by omega : i < 2) with
   | 0, _ => exact ⟨by rw [bothP, if_pos (show (1 : Int) ∈ xs from c1)]; rfl, rfl⟩
   | 1, _ => exact ⟨by rw [bothP, if_neg (h0 (by omega)), if_pos (show (6 : Int) ∈ xs from c1)]; rfl, rfl⟩
  ·skip
   refine XK.skip ?_
   refine XK.inBlock ?_
   refine XK.region rfl ?_
   refine XO.q (Q.add rfl rfl ⟨by omega, by omega⟩) ?_
   refine XO.q (Q.move rfl) (XO.done ?_)
   rw [any_mem] at c1
   exact ih0 (i + 1) _ _ (by match i, (by omega : i < 2) with
     | 0, _ => exact ⟨by omega, fun _ => c1, by omega⟩
     | 1, _ => exact ⟨by omega, fun _ => h0 (by omega), fun _ => c1⟩) (by first | omega | (dsimp only; omega)) (.c rfl (.base 21 rfl rfl)) inferInstance
 ·skip
  refine XK.exit rfl ?_
  refine XK.seq (XK.region rfl (XO.q (Q.assign rfl) (XO.done ?_)))
  refine XK.rt [] Tryz.func50 Tryz.results50 (.t rfl .n) ?_
  have hi2 : i = 2 := by omega
  exact ⟨by rw [bothP, if_neg (h0 (by omega)), if_neg (h1 (by omega))], rfl⟩
theorem Next_spec (h : Hall) (vr vw vb vc : Value) (hr hw hb hc : PHeap) [ir : Arr vr encRoom 2 hr h.rooms] [iw : Arr vw encWall 3 hw h.walls] [ib : Arr vb encBranch 3 hb h.branches] [ic : Arr vc encCooler 5 hc h.coolers] (t : List Int) (vt : Value) (ht : PHeap) [it : Arr vt encI 1 ht t] (c : HCase) (vl : Value) (hl : PHeap) [il : Arr vl encI 1 hl c.load] : Spec Tryz.prog 16 #[.agg #[vr, vw, vb, vc], vt, .agg #[vl, .int .i64 c.out, .int .i64 c.pump]] [] [hr, hw, hb, hc, ht, hl]
  (fun v hs => ∃ v1 k1, v = .tuple #[v1, .int .i64 (nextG h t c).2] ∧ hs = [k1] ∧ OArr v1 encI 1 3 k1 (nextG h t c).1) := by
 refine Spec.intro (fn := Tryz.f16) (N := 30) Tryz.func16 rfl Tryz.ntmps16 rfl fun B => ?_
 refine XK.seq (XK.region rfl ?_)
 refine XO.box rfl fun b3 => ?_
 refine XO.box rfl fun b5 => ?_
 refine XO.q (Q.assign rfl) (XO.q (Q.assign rfl) (XO.done (XK.seq (XK.seq (XK.region rfl ?_)))))
 refine XO.q (Q.ldA [_, _, _, _] rfl rfl rfl) ?_
 refine XO.call Tryz.call49 rfl rfl rfl (Check_spec h vr vw vb vc hr hw hb hc) fun v11 s11 R11 => ?_
 obtain ⟨rfl, rfl⟩ := R11
 dsimp only [lcA, lnA]
 refine XO.q (Q.assign rfl) (XO.done (XK.seq (XK.region rfl (XO.q (Q.move rfl) ?_))))
 refine XO.q (Q.neq rfl rfl) ?_
 refine XO.done ?_
 refine XK.if rfl (fun c0 => ?_) (fun c0 => ?_)
 ·skip
  refine XK.seq (XK.region rfl (XO.q (Q.move rfl) (XO.q (Q.assign rfl) (XO.q (Q.assign rfl) (XO.done ?_)))))
  refine XK.rt [emp] Tryz.func16 Tryz.results16 (.t rfl (.t rfl .n)) ?_
  have hw0 : nextG h t c = ([], hcheck h) := by rw [nextG, if_pos c0]
  rw [hw0]
  exact ⟨.slice none 0 0, emp, rfl, rfl, OArr.nil (fun _ => rfl)⟩
 ·skip
  refine XK.skip (XK.seq (XK.seq ?_))
  refine XK.drawn [0, 1, 3, 4, 8] [b3, b5] [] (.q 0 (.q 1 (.q 3 (.q 4 (.br 2 true (.br 5 true (.br 6 true (.br 7 true (.q 8 .done) .stop) .stop) .stop) .stop))))) Tryz.mixed rfl (by kernel_rfl) ?_
  refine XT.q rfl rfl (Q.ldA [_, _, _, _] rfl rfl rfl) ?_
  refine XT.q rfl rfl (Q.move rfl) ?_
  refine XT.q rfl rfl (Q.ldA [_, _, _, _] rfl rfl rfl) ?_
  refine XT.q rfl rfl (Q.ldA [_, _, _] rfl rfl rfl) ?_
  refine XT.call rfl rfl Tryz.call51 rfl rfl rfl (warm_spec h vr vw vb vc hr vt ht t) (fun v17 s17 R17 => ?_) XT.stop
  obtain ⟨rfl, rfl⟩ := R17
  dsimp only [lcA, lnA]
  refine ⟨inferInstance, ?_⟩
  refine XT.call rfl rfl Tryz.call52 rfl rfl rfl (cased_spec h vr vw vb vc hr vl hl c) (fun v20 s20 R20 => ?_) XT.stop
  obtain ⟨rfl, rfl⟩ := R20
  dsimp only [lcA, lnA]
  refine ⟨inferInstance, ?_⟩
  refine XT.lit [_, _] [_, _] [warmP h t, casedP h c] encI rfl rfl (by rfl) (by rfl) rfl (by rfl) (by exact .c 0 1 rfl rfl rfl (.c 1 1 rfl rfl rfl (.n _))) (fun _ => rfl) (by rfl) rfl (by infer_instance) rfl (fun v21 h21 O21 => ⟨inferInstance, ?_⟩) XT.stop
  refine XT.call rfl rfl Tryz.call50 rfl rfl rfl (both_spec v21 h21 [warmP h t, casedP h c]) (fun v22 s22 R22 => ?_) XT.stop
  obtain ⟨rfl, rfl⟩ := R22
  dsimp only [lcA, lnA]
  refine ⟨inferInstance, ?_⟩
  refine XT.q rfl rfl (Q.assign rfl) ?_
  refine XT.done ?_
  refine XK.seq (XK.region rfl (XO.q (Q.move rfl) ?_))
  refine XO.q (Q.neq rfl rfl) ?_
  refine XO.done ?_
  refine XK.if rfl (fun c1 => ?_) (fun c1 => ?_)
  ·skip
   refine XK.seq (XK.region rfl (XO.q (Q.move rfl) (XO.q (Q.assign rfl) (XO.q (Q.assign rfl) (XO.done ?_)))))
   refine XK.rt [emp] Tryz.func16 Tryz.results16 (.t rfl (.t rfl .n)) ?_
   have hw0 : nextG h t c = ([], bothP [warmP h t, casedP h c]) := by rw [nextG, if_neg c0, if_pos c1]
   rw [hw0]
   exact ⟨.slice none 0 0, emp, rfl, rfl, OArr.nil (fun _ => rfl)⟩
  ·skip
   refine XK.skip (XK.seq (XK.region rfl ?_))
   refine XO.q (Q.ldA [_, _, _, _] rfl rfl rfl) ?_
   refine XO.q (Q.move rfl) ?_
   refine XO.q (Q.ldA [_, _, _] rfl rfl rfl) ?_
   refine XO.call Tryz.call53 rfl rfl rfl (next_spec7 h vr vw vb vc hr hw hb hc (hcheck_ok (Decidable.of_not_not c0)) t vt ht (both_ok (Decidable.of_not_not c1)).1 c (both_ok (Decidable.of_not_not c1)).2 vl hl) fun v29 s29 R29 => ?_
   obtain ⟨k1, rfl, O1⟩ := R29
   dsimp only [lcA, lnA]
   refine XO.q (Q.assign rfl) (XO.q (Q.assign rfl) (XO.done ?_))
   refine XK.rt [k1] Tryz.func16 Tryz.results16 (.t rfl (.t rfl .n)) ?_
   have hw0 : nextG h t c = (nextL h t c, 0) := by rw [nextG, if_neg c0, if_neg c1]
   rw [hw0]
   exact ⟨_, k1, rfl, rfl, O1⟩
end Go.X.Ht
