/- A part of the proof: a small program logic, plain laws and contracts of functions, each proved by a walk through its operations. No condition but those that stand in each theorem. -/
import Derived.Test.YtohdobhnbhcjhaaA5
set_option linter.unusedSimpArgs false
set_option linter.unusedVariables false
set_option maxRecDepth 20000
namespace Go.X
open Go.Proofs
def pickI (x n : Int) : Int := if n < 1 then 0 else if x.tmod n < 0 then x.tmod n + n else x.tmod n
theorem pickI_bd {x n : Int} (h : 1 ≤ n) : 0 ≤ pickI x n ∧ pickI x n < n := by
  have h1 := Int.lt_tmod_of_pos x (show 0 < n by omega)
  have h2 := Int.tmod_lt_of_pos x (show 0 < n by omega)
  unfold pickI
  rw [if_neg (by omega)]
  split <;> omega
theorem Pick_spec (x n : Int) (hx : in64 x) (hn : in64 n) : Spec Try.prog 34 #[.int .i64 x, .int .i64 n] [] [] (fun v hs => v = .int .i64 (pickI x n) ∧ hs = []) := by
  obtain ⟨hn1, hn2⟩ := hn
  refine Spec.intro (fn := Try.f34) (N := 17) Try.func34 rfl Try.ntmps34 rfl fun B => ?_
  refine XK.seq ?_
  refine XK.region rfl ?_
  refine XO.q (Q.assign rfl) ?_
  refine XO.done ?_
  refine XK.seq ?_
  refine XK.seq ?_
  refine XK.region rfl ?_
  refine XO.q (Q.move rfl) ?_
  refine XO.q (Q.lss rfl rfl) ?_
  refine XO.done ?_
  refine XK.if rfl (fun c0 => ?_) (fun c0 => ?_)
  · have _t0 := True.intro
    refine XK.seq ?_
    refine XK.region rfl ?_
    refine XO.q (Q.assign rfl) ?_
    refine XO.done ?_
    refine XK.rt [] Try.func34 Try.results34 (.t rfl .n) ?_
    exact ⟨by rw [pickI, if_pos c0], rfl⟩
  · have _t0 := True.intro
    have h1 := Int.lt_tmod_of_pos x (show 0 < n by omega)
    have h2 := Int.tmod_lt_of_pos x (show 0 < n by omega)
    refine XK.skip ?_
    refine XK.seq ?_
    refine XK.region rfl ?_
    refine XO.q (Q.move rfl) ?_
    refine XO.q (Q.move rfl) ?_
    refine XO.q (Q.remT rfl rfl (by omega)) ?_
    refine XO.q (Q.assign rfl) ?_
    refine XO.done ?_
    refine XK.seq ?_
    refine XK.seq ?_
    refine XK.region rfl ?_
    refine XO.q (Q.move rfl) ?_
    refine XO.q (Q.lss rfl rfl) ?_
    refine XO.done ?_
    refine XK.if rfl (fun c1 => ?_) (fun c1 => ?_)
    · have _t1 := True.intro
      refine XK.region rfl ?_
      refine XO.q (Q.move rfl) ?_
      refine XO.q (Q.move rfl) ?_
      refine XO.q (Q.add rfl rfl ⟨by omega, by omega⟩) ?_
      refine XO.q (Q.assign rfl) ?_
      refine XO.done ?_
      refine XK.seq ?_
      refine XK.region rfl ?_
      refine XO.q (Q.move rfl) ?_
      refine XO.q (Q.assign rfl) ?_
      refine XO.done ?_
      refine XK.rt [] Try.func34 Try.results34 (.t rfl .n) ?_
      exact ⟨by rw [pickI, if_neg c0, if_pos c1], rfl⟩
    · have _t1 := True.intro
      refine XK.skip ?_
      refine XK.seq ?_
      refine XK.region rfl ?_
      refine XO.q (Q.move rfl) ?_
      refine XO.q (Q.assign rfl) ?_
      refine XO.done ?_
      refine XK.rt [] Try.func34 Try.results34 (.t rfl .n) ?_
      exact ⟨by rw [pickI, if_neg c0, if_neg c1], rfl⟩
theorem pair_ne (x y : Int × Int) : (!decide ((x.1, x.2) = (y.1, y.2))) = decide (¬ x = y) := by
  cases x; cases y
  simp
theorem rd_ne (x y : MRd) : (!(decide (x.meter = y.meter) && (decide (x.hour = y.hour) && (decide (x.value = y.value) && true)))) = decide (¬ x = y) := by
  cases x; cases y
  rw [Bool.eq_iff_iff]
  simp
theorem rd_eq (x y : MRd) : (decide (x.meter = y.meter) && (decide (x.hour = y.hour) && (decide (x.value = y.value) && true))) = decide (x = y) := by
  cases x; cases y
  rw [Bool.eq_iff_iff]
  simp
theorem link_eq (x y : MLink) : (decide (x.rd = y.rd) && decide (x.sign = y.sign)) = decide (x = y) := by
  cases x; cases y
  rw [Bool.eq_iff_iff]
  simp
theorem equalP (v1 v2 : Value) (h1 h2 : PHeap) (xs ys : List (Int × Int)) [s1 : Arr v1 encP 2 h1 xs] [s2 : Arr v2 encP 2 h2 ys] :
    Spec Try.prog 74 #[v1, v2] [] [h1, h2] (fun v hs => v = .bool (decide (xs = ys)) ∧ hs = []) := by
  refine Spec.intro (fn := Try.f74) (N := 26) Try.func74 rfl Try.ntmps74 rfl fun B => ?_
  refine XK.seq ?_
  refine XK.region rfl ?_
  refine XO.q (Q.assign rfl) ?_
  refine XO.done ?_
  refine XK.seq ?_
  refine XK.seq ?_
  refine XK.region rfl ?_
  refine XO.q (Q.move rfl) ?_
  refine XO.len rfl fun l7 => ?_
  refine XO.q (Q.move rfl) ?_
  refine XO.len rfl fun l9 => ?_
  refine XO.q (Q.neq rfl rfl) ?_
  refine XO.done ?_
  refine XK.if rfl (fun c0 => ?_) (fun c0 => ?_)
  · have _t0 := True.intro
    refine XK.seq ?_
    refine XK.region rfl ?_
    refine XO.q (Q.assign rfl) ?_
    refine XO.done ?_
    refine XK.rt [] Try.func74 Try.results74 (.t rfl .n) ?_
    exact ⟨by rw [decide_eq_false (fun h => c0 (by rw [h]))], rfl⟩
  · have _t0 := True.intro
    refine XK.skip ?_
    refine XK.seq ?_
    refine XK.seq ?_
    refine XK.region rfl ?_
    refine XO.q (Q.move rfl) ?_
    refine XO.len rfl fun l12 => ?_
    refine XO.q (Q.move rfl) ?_
    refine XO.done ?_
    refine XK.block ?_
    refine XK.while (X := Nat) [4, 5, 13, 14, 15, 16, 17, 18, 19, 20, 21, 22, 23, 24, 25] (fun i => [(13, some (.int .i64 (i : Nat)))]) (fun i => []) (fun i => i ≤ xs.length ∧ xs.take i = ys.take i) (fun i => xs.length - i) (0) [] rfl ⟨by omega, rfl⟩ (.c rfl (.base 0 rfl rfl)) ?_
    rintro i ⟨hi, ht⟩ ih0
    dsimp only [List.cons_append, List.nil_append] at ih0 ⊢
    refine XK.seq ?_
    refine XK.region rfl ?_
    refine XO.q (Q.lss rfl rfl) ?_
    refine XO.done ?_
    refine XK.seq ?_
    refine XK.if rfl (fun c1 => ?_) (fun c1 => ?_)
    · have _t1 := True.intro
      refine XK.skip ?_
      refine XK.seq ?_
      refine XK.block ?_
      refine XK.seq ?_
      refine XK.region rfl ?_
      refine XO.q (Q.move rfl) ?_
      refine XO.q (Q.assign rfl) ?_
      refine XO.done ?_
      refine XK.seq ?_
      refine XK.drawn [0, 1, 2, 3, 4, 5, 6, 7, 8] [] [] (.q 0 (.q 1 (.q 2 (.q 3 (.q 4 (.q 5 (.q 6 (.q 7 (.q 8 .done))))))))) Try.mixed rfl (by kernel_rfl) ?_
      refine XT.q rfl rfl (Q.move rfl) ?_
      refine XT.q rfl rfl (Q.move rfl) ?_
      refine XT.ix rfl rfl rfl rfl (by omega) (by omega) fun i18 => ?_
      refine XT.q rfl rfl (Q.ldEA [_, _] rfl (by first | assumption | omega) rfl rfl) ?_
      refine XT.q rfl rfl (Q.move rfl) ?_
      refine XT.q rfl rfl (Q.move rfl) ?_
      refine XT.ix rfl rfl rfl rfl (by omega) (by omega) fun i22 => ?_
      refine XT.q rfl rfl (Q.ldEA [_, _] rfl (by first | assumption | omega) rfl rfl) ?_
      refine XT.q rfl rfl (Q.neqP rfl rfl inferInstance inferInstance inferInstance inferInstance (by kernel_rfl)) ?_
      rw [pair_ne]
      refine XT.done ?_
      refine XK.if rfl (fun c2 => ?_) (fun c2 => ?_)
      · have _t2 := True.intro
        refine XK.seq ?_
        refine XK.region rfl ?_
        refine XO.q (Q.assign rfl) ?_
        refine XO.done ?_
        refine XK.rt [] Try.func74 Try.results74 (.t rfl .n) ?_
        exact ⟨by rw [decide_eq_false (fun h => c2 (by rw [h]))], rfl⟩
      · have _t2 := True.intro
        refine XK.skip ?_
        refine XK.inBlock ?_
        refine XK.region rfl ?_
        refine XO.q (Q.add rfl rfl ⟨by omega, by omega⟩) ?_
        refine XO.q (Q.move rfl) ?_
        refine XO.done ?_
        exact ih0 (i + 1) _ _ ⟨by omega, take_step ht (by omega) (by omega) (Decidable.of_not_not c2)⟩ (by first | omega | (dsimp only; omega)) (.c rfl (.base 30 rfl rfl)) inferInstance
    · have _t1 := True.intro
      refine XK.exit rfl ?_
      refine XK.seq ?_
      refine XK.region rfl ?_
      refine XO.q (Q.assign rfl) ?_
      refine XO.done ?_
      refine XK.rt [] Try.func74 Try.results74 (.t rfl .n) ?_
      exact ⟨by rw [decide_eq_true (take_all ht c1 (by omega))], rfl⟩
theorem equalR (v1 v2 : Value) (h1 h2 : PHeap) (xs ys : List MRd) [s1 : Arr v1 encRd 3 h1 xs] [s2 : Arr v2 encRd 3 h2 ys] :
    Spec Try.prog 31 #[v1, v2] [] [h1, h2] (fun v hs => v = .bool (decide (xs = ys)) ∧ hs = []) := by
  refine Spec.intro (fn := Try.f31) (N := 26) Try.func31 rfl Try.ntmps31 rfl fun B => ?_
  refine XK.seq ?_
  refine XK.region rfl ?_
  refine XO.q (Q.assign rfl) ?_
  refine XO.done ?_
  refine XK.seq ?_
  refine XK.seq ?_
  refine XK.region rfl ?_
  refine XO.q (Q.move rfl) ?_
  refine XO.len rfl fun l7 => ?_
  refine XO.q (Q.move rfl) ?_
  refine XO.len rfl fun l9 => ?_
  refine XO.q (Q.neq rfl rfl) ?_
  refine XO.done ?_
  refine XK.if rfl (fun c0 => ?_) (fun c0 => ?_)
  · have _t0 := True.intro
    refine XK.seq ?_
    refine XK.region rfl ?_
    refine XO.q (Q.assign rfl) ?_
    refine XO.done ?_
    refine XK.rt [] Try.func31 Try.results31 (.t rfl .n) ?_
    exact ⟨by rw [decide_eq_false (fun h => c0 (by rw [h]))], rfl⟩
  · have _t0 := True.intro
    refine XK.skip ?_
    refine XK.seq ?_
    refine XK.seq ?_
    refine XK.region rfl ?_
    refine XO.q (Q.move rfl) ?_
    refine XO.len rfl fun l12 => ?_
    refine XO.q (Q.move rfl) ?_
    refine XO.done ?_
    refine XK.block ?_
    refine XK.while (X := Nat) [4, 5, 13, 14, 15, 16, 17, 18, 19, 20, 21, 22, 23, 24, 25] (fun i => [(13, some (.int .i64 (i : Nat)))]) (fun i => []) (fun i => i ≤ xs.length ∧ xs.take i = ys.take i) (fun i => xs.length - i) (0) [] rfl ⟨by omega, rfl⟩ (.c rfl (.base 0 rfl rfl)) ?_
    rintro i ⟨hi, ht⟩ ih0
    dsimp only [List.cons_append, List.nil_append] at ih0 ⊢
    refine XK.seq ?_
    refine XK.region rfl ?_
    refine XO.q (Q.lss rfl rfl) ?_
    refine XO.done ?_
    refine XK.seq ?_
    refine XK.if rfl (fun c1 => ?_) (fun c1 => ?_)
    · have _t1 := True.intro
      refine XK.skip ?_
      refine XK.seq ?_
      refine XK.block ?_
      refine XK.seq ?_
      refine XK.region rfl ?_
      refine XO.q (Q.move rfl) ?_
      refine XO.q (Q.assign rfl) ?_
      refine XO.done ?_
      refine XK.seq ?_
      refine XK.drawn [0, 1, 2, 3, 4, 5, 6, 7, 8] [] [] (.q 0 (.q 1 (.q 2 (.q 3 (.q 4 (.q 5 (.q 6 (.q 7 (.q 8 .done))))))))) Try.mixed rfl (by kernel_rfl) ?_
      refine XT.q rfl rfl (Q.move rfl) ?_
      refine XT.q rfl rfl (Q.move rfl) ?_
      refine XT.ix rfl rfl rfl rfl (by omega) (by omega) fun i18 => ?_
      refine XT.q rfl rfl (Q.ldEA [_, _, _] rfl (by first | assumption | omega) rfl rfl) ?_
      refine XT.q rfl rfl (Q.move rfl) ?_
      refine XT.q rfl rfl (Q.move rfl) ?_
      refine XT.ix rfl rfl rfl rfl (by omega) (by omega) fun i22 => ?_
      refine XT.q rfl rfl (Q.ldEA [_, _, _] rfl (by first | assumption | omega) rfl rfl) ?_
      refine XT.q rfl rfl (Q.neqS (us := [_, _, _]) (vs := [_, _, _]) rfl rfl inferInstance (by kernel_rfl) (by kernel_rfl) (.c rfl inferInstance inferInstance rfl rfl (.c rfl inferInstance inferInstance rfl rfl (.c rfl inferInstance inferInstance rfl rfl .n)))) ?_
      rw [rd_ne]
      refine XT.done ?_
      refine XK.if rfl (fun c2 => ?_) (fun c2 => ?_)
      · have _t2 := True.intro
        refine XK.seq ?_
        refine XK.region rfl ?_
        refine XO.q (Q.assign rfl) ?_
        refine XO.done ?_
        refine XK.rt [] Try.func31 Try.results31 (.t rfl .n) ?_
        exact ⟨by rw [decide_eq_false (fun h => c2 (by rw [h]))], rfl⟩
      · have _t2 := True.intro
        refine XK.skip ?_
        refine XK.inBlock ?_
        refine XK.region rfl ?_
        refine XO.q (Q.add rfl rfl ⟨by omega, by omega⟩) ?_
        refine XO.q (Q.move rfl) ?_
        refine XO.done ?_
        exact ih0 (i + 1) _ _ ⟨by omega, take_step ht (by omega) (by omega) (Decidable.of_not_not c2)⟩ (by first | omega | (dsimp only; omega)) (.c rfl (.base 30 rfl rfl)) inferInstance
    · have _t1 := True.intro
      refine XK.exit rfl ?_
      refine XK.seq ?_
      refine XK.region rfl ?_
      refine XO.q (Q.assign rfl) ?_
      refine XO.done ?_
      refine XK.rt [] Try.func31 Try.results31 (.t rfl .n) ?_
      exact ⟨by rw [decide_eq_true (take_all ht c1 (by omega))], rfl⟩
theorem cloneR (v : Value) (h : PHeap) (xs : List MRd) [s : Arr v encRd 3 h xs] (hl : xs.length ≤ 68719476736) :
    Spec Try.prog 27 #[v] [] [h] (fun v' hs => ∃ h', hs = [h'] ∧ OArr v' encRd 3 74 h' xs) := by
  refine Spec.intro (fn := Try.f27) (N := 8) Try.func27 rfl Try.ntmps27 rfl fun B => ?_
  refine XK.seq ?_
  refine XK.region rfl ?_
  refine XO.q (Q.assign rfl) ?_
  refine XO.done ?_
  refine XK.seq ?_
  refine XK.seq ?_
  refine XK.region rfl ?_
  refine XO.q (Q.move rfl) ?_
  refine XO.eqNil rfl fun z4 hz4 => ?_
  refine XO.done ?_
  refine XK.if rfl (fun c0 => ?_) (fun c0 => ?_)
  · have _t0 := True.intro
    refine XK.seq ?_
    refine XK.region rfl ?_
    refine XO.q (Q.assign rfl) ?_
    refine XO.done ?_
    refine XK.rt [emp] Try.func27 Try.results27 (.t rfl .n) ?_
    exact ⟨emp, rfl, by rw [(hz4 c0).1]; exact OArr.nil (fun _ => rfl)⟩
  · have _t0 := True.intro
    refine XK.skip ?_
    refine XK.seq ?_
    refine XK.region rfl ?_
    refine XO.lit [] [] [] encRd (by rfl) (by rfl) rfl (by rfl) (by exact .n _) (fun _ => rfl) (by rfl) rfl (by infer_instance) rfl fun v5 h5 O5 => ?_
    refine XO.q (Q.move rfl) ?_
    refine XO.append rfl rfl rfl rfl (by first | omega | (simp; omega)) fun v7 h7 O7 => ?_
    refine XO.q (Q.assign rfl) ?_
    refine XO.done ?_
    refine XK.rt [h7] Try.func27 Try.results27 (.t rfl .n) ?_
    exact ⟨h7, rfl, O7⟩
theorem cloneL (v : Value) (h : PHeap) (xs : List MLink) [s : Arr v encLink 4 h xs] (hl : xs.length ≤ 68719476736) :
    Spec Try.prog 25 #[v] [] [h] (fun v' hs => ∃ h', hs = [h'] ∧ OArr v' encLink 4 76 h' xs) := by
  refine Spec.intro (fn := Try.f25) (N := 8) Try.func25 rfl Try.ntmps25 rfl fun B => ?_
  refine XK.seq ?_
  refine XK.region rfl ?_
  refine XO.q (Q.assign rfl) ?_
  refine XO.done ?_
  refine XK.seq ?_
  refine XK.seq ?_
  refine XK.region rfl ?_
  refine XO.q (Q.move rfl) ?_
  refine XO.eqNil rfl fun z4 hz4 => ?_
  refine XO.done ?_
  refine XK.if rfl (fun c0 => ?_) (fun c0 => ?_)
  · have _t0 := True.intro
    refine XK.seq ?_
    refine XK.region rfl ?_
    refine XO.q (Q.assign rfl) ?_
    refine XO.done ?_
    refine XK.rt [emp] Try.func25 Try.results25 (.t rfl .n) ?_
    exact ⟨emp, rfl, by rw [(hz4 c0).1]; exact OArr.nil (fun _ => rfl)⟩
  · have _t0 := True.intro
    refine XK.skip ?_
    refine XK.seq ?_
    refine XK.region rfl ?_
    refine XO.lit [] [] [] encLink (by rfl) (by rfl) rfl (by rfl) (by exact .n _) (fun _ => rfl) (by rfl) rfl (by infer_instance) rfl fun v5 h5 O5 => ?_
    refine XO.q (Q.move rfl) ?_
    refine XO.append rfl rfl rfl rfl (by first | omega | (simp; omega)) fun v7 h7 O7 => ?_
    refine XO.q (Q.assign rfl) ?_
    refine XO.done ?_
    refine XK.rt [h7] Try.func25 Try.results25 (.t rfl .n) ?_
    exact ⟨h7, rfl, O7⟩
theorem sameLink (x y : MLink) : Spec Try.prog 33 #[.agg #[.int .i64 x.rd.meter, .int .i64 x.rd.hour, .int .i64 x.rd.value, .int .u64 x.sign], .agg #[.int .i64 y.rd.meter, .int .i64 y.rd.hour, .int .i64 y.rd.value, .int .u64 y.sign]] [] [] (fun v hs => v = .bool (decide (x = y)) ∧ hs = []) := by
  refine Spec.intro (fn := Try.f33) (N := 17) Try.func33 rfl Try.ntmps33 rfl fun B => ?_
  refine XK.seq ?_
  refine XK.region rfl ?_
  refine XO.box rfl fun b2 => ?_
  refine XO.box rfl fun b3 => ?_
  refine XO.q (Q.assign rfl) ?_
  refine XO.done ?_
  refine XK.seq ?_
  refine XK.region rfl ?_
  refine XO.q (Q.fieldAddr rfl) ?_
  refine XO.q (Q.ldA [_, _, _] rfl rfl rfl) ?_
  refine XO.q (Q.fieldAddr rfl) ?_
  refine XO.q (Q.ldA [_, _, _] rfl rfl rfl) ?_
  refine XO.q (Q.eqlS (us := [_, _, _]) (vs := [_, _, _]) rfl rfl inferInstance (by kernel_rfl) (by kernel_rfl) (.c rfl inferInstance inferInstance rfl rfl (.c rfl inferInstance inferInstance rfl rfl (.c rfl inferInstance inferInstance rfl rfl .n)))) ?_
  rw [rd_eq]
  refine XO.q (Q.move rfl) ?_
  refine XO.q (Quiet.guardT rfl rfl fun g11 p11 => Q.fieldAddr rfl) ?_
  refine XO.q (Quiet.guardT rfl rfl fun g12 p12 => Q.ld (lzv g12 rfl) rfl) ?_
  refine XO.q (Quiet.guardT rfl rfl fun g13 p13 => Q.fieldAddr rfl) ?_
  refine XO.q (Quiet.guardT rfl rfl fun g14 p14 => Q.ld (lzv g14 rfl) rfl) ?_
  refine XO.q (Quiet.guardT rfl rfl fun g15 p15 => Q.eql (lzv g15 rfl) (lzv g15 rfl)) ?_
  refine XO.q (Q.and rfl (fun hp => lzv hp rfl)) ?_
  rw [link_eq]
  refine XO.q (Q.assign rfl) ?_
  refine XO.done ?_
  refine XK.rt [] Try.func33 Try.results33 (.t rfl .n) ?_
  exact ⟨rfl, rfl⟩
theorem equalLF (v1 v2 : Value) (h1 h2 : PHeap) (xs ys : List MLink) [s1 : Arr v1 encLink 4 h1 xs] [s2 : Arr v2 encLink 4 h2 ys] :
    Spec Try.prog 32 #[v1, v2, .func (.func 33) #[] #[]] [] [h1, h2] (fun v hs => v = .bool (decide (xs = ys)) ∧ hs = []) := by
  have l1 := s1.le
  refine Spec.intro (fn := Try.f32) (N := 32) Try.func32 rfl Try.ntmps32 rfl fun B => ?_
  refine XK.seq ?_
  refine XK.region rfl ?_
  refine XO.q (Q.assign rfl) ?_
  refine XO.done ?_
  refine XK.seq ?_
  refine XK.seq ?_
  refine XK.region rfl ?_
  refine XO.q (Q.move rfl) ?_
  refine XO.len rfl fun l11 => ?_
  refine XO.q (Q.move rfl) ?_
  refine XO.len rfl fun l13 => ?_
  refine XO.q (Q.neq rfl rfl) ?_
  refine XO.done ?_
  refine XK.if rfl (fun c0 => ?_) (fun c0 => ?_)
  · have _t0 := True.intro
    refine XK.seq ?_
    refine XK.region rfl ?_
    refine XO.q (Q.assign rfl) ?_
    refine XO.done ?_
    refine XK.rt [] Try.func32 Try.results32 (.t rfl .n) ?_
    exact ⟨by rw [decide_eq_false (fun h => c0 (by rw [h]))], rfl⟩
  · have _t0 := True.intro
    refine XK.skip ?_
    refine XK.seq ?_
    refine XK.seq ?_
    refine XK.region rfl ?_
    refine XO.q (Q.move rfl) ?_
    refine XO.len rfl fun l16 => ?_
    refine XO.q (Q.move rfl) ?_
    refine XO.done ?_
    refine XK.block ?_
    refine XK.while (X := Nat) [6, 7, 8, 9, 17, 18, 19, 20, 21, 22, 23, 24, 25, 26, 27, 28, 29, 30, 31] (fun i => [(17, some (.int .i64 (i : Nat)))]) (fun i => []) (fun i => i ≤ xs.length ∧ xs.take i = ys.take i) (fun i => xs.length - i) (0) [] rfl ⟨by omega, rfl⟩ (.c rfl (.base 0 rfl rfl)) ?_
    rintro i ⟨hi, ht⟩ ih0
    dsimp only [List.cons_append, List.nil_append] at ih0 ⊢
    refine XK.seq ?_
    refine XK.region rfl ?_
    refine XO.q (Q.lss rfl rfl) ?_
    refine XO.done ?_
    refine XK.seq ?_
    refine XK.if rfl (fun c1 => ?_) (fun c1 => ?_)
    · have _t1 := True.intro
      refine XK.skip ?_
      refine XK.seq ?_
      refine XK.block ?_
      refine XK.seq ?_
      refine XK.region rfl ?_
      refine XO.q (Q.move rfl) ?_
      refine XO.ix rfl rfl (by omega) (by omega) fun i20 => ?_
      refine XO.q (Q.ldEA [_, _, _, _] rfl (by first | assumption | omega) rfl rfl) ?_
      refine XO.alloc fun b8 => ?_
      refine XO.q (Q.assign rfl) ?_
      refine XO.st rfl rfl rfl ?_
      refine XO.done ?_
      refine XK.seq ?_
      refine XK.region rfl ?_
      refine XO.q (Q.move rfl) ?_
      refine XO.q (Q.move rfl) ?_
      refine XO.ix rfl rfl (by omega) (by omega) fun i24 => ?_
      refine XO.q (Q.ldEA [_, _, _, _] rfl (by first | assumption | omega) rfl rfl) ?_
      refine XO.alloc fun b9 => ?_
      refine XO.st rfl rfl rfl ?_
      refine XO.done ?_
      refine XK.seq ?_
      refine XK.region rfl ?_
      refine XO.q (Q.move rfl) ?_
      refine XO.q (Q.ldA [_, _, _, _] rfl rfl rfl) ?_
      refine XO.q (Q.ldA [_, _, _, _] rfl rfl rfl) ?_
      refine XO.call Try.call33 rfl rfl rfl (sameLink _ _) fun v29 s29 R29 => ?_
      obtain ⟨rfl, rfl⟩ := R29
      dsimp only [List.cons_append, List.nil_append]
      refine XO.q (Q.not rfl) ?_
      refine XO.done ?_
      refine XK.if rfl (fun c2 => ?_) (fun c2 => ?_)
      · have _t2 := True.intro
        refine XK.seq ?_
        refine XK.region rfl ?_
        refine XO.q (Q.assign rfl) ?_
        refine XO.done ?_
        refine XK.rt [] Try.func32 Try.results32 (.t rfl .n) ?_
        exact ⟨by rw [decide_eq_false (fun h => c2 (by rw [h]))], rfl⟩
      · have _t2 := True.intro
        refine XK.skip ?_
        refine XK.inBlock ?_
        refine XK.region rfl ?_
        refine XO.q (Q.add rfl rfl ⟨by omega, by omega⟩) ?_
        refine XO.q (Q.move rfl) ?_
        refine XO.done ?_
        exact ih0 (i + 1) _ _ ⟨by omega, take_step ht (by omega) (by omega) (by simpa using c2)⟩ (by first | omega | (dsimp only; omega)) (.c rfl (.base 38 rfl rfl)) inferInstance
    · have _t1 := True.intro
      refine XK.exit rfl ?_
      refine XK.seq ?_
      refine XK.region rfl ?_
      refine XO.q (Q.assign rfl) ?_
      refine XO.done ?_
      refine XK.rt [] Try.func32 Try.results32 (.t rfl .n) ?_
      exact ⟨by rw [decide_eq_true (take_all ht (by omega) (by omega))], rfl⟩
theorem take_snocL {l : List MLink} {i : Nat} (hi : i < l.length) : l.take (i + 1) = l.take i ++ [l.getD i default] := by
  rw [List.take_add_one, List.getElem?_eq_getElem hi, List.getD_eq_getElem?_getD, List.getElem?_eq_getElem hi]; rfl
theorem chains11 (key : Int) (ls : List MLink) (vl : Value) (hl : PHeap) [jl : Arr vl encLink 4 hl ls] (n : ls.length ≤ 100000) : Spec Try.prog 35 #[.int .u64 key, vl] [] [hl] (fun v hs => v = .bool true ∧ hs = []) := by
  have nL : OArr (.slice none 0 0) encLink 4 89 emp ([] : List MLink) := OArr.nil (fun _ => rfl)
  refine Spec.intro (fn := Try.f35) (N := 71) Try.func35 rfl Try.ntmps35 rfl fun B => ?_
  refine XK.seq ?_
  refine XK.region rfl ?_
  refine XO.q (Q.assign rfl) ?_
  refine XO.done ?_
  refine XK.seq ?_
  refine XK.region rfl ?_
  refine XO.q (Q.assign rfl) ?_
  refine XO.done ?_
  refine XK.seq ?_
  refine XK.seq ?_
  refine XK.region rfl ?_
  refine XO.q (Q.move rfl) ?_
  refine XO.len rfl fun l17 => ?_
  refine XO.q (Q.move rfl) ?_
  refine XO.done ?_
  refine XK.block ?_
  refine XK.while (X := Nat × Value × PHeap) [5, 7, 18, 19, 20, 21, 22, 23, 24, 25, 26, 27, 28, 29, 30] (fun ⟨i, vm, km⟩ => [(5, some (vm)), (18, some (.int .i64 (i : Nat)))]) (fun ⟨i, vm, km⟩ => [km]) (fun ⟨i, vm, km⟩ => i ≤ ls.length ∧ OArr vm encLink 4 89 km (ls.take i)) (fun ⟨i, vm, km⟩ => ls.length - i) (0, .slice none 0 0, emp) [emp] rfl ⟨by omega, nL⟩ (.c rfl (.c rfl (.base 0 rfl rfl))) ?_
  rintro ⟨i, vm, km⟩ ⟨hi, OM⟩ ih0
  dsimp only [List.cons_append, List.nil_append] at ih0 ⊢
  have el : (ls.take i).length = i := by rw [List.length_take]; omega
  refine XK.seq ?_
  refine XK.region rfl ?_
  refine XO.q (Q.lss rfl rfl) ?_
  refine XO.done ?_
  refine XK.seq ?_
  refine XK.if rfl (fun c0 => ?_) (fun c0 => ?_)
  · have _t0 := True.intro
    refine XK.skip ?_
    refine XK.seq ?_
    refine XK.block ?_
    refine XK.seq ?_
    refine XK.region rfl ?_
    refine XO.ix rfl rfl (by omega) (by omega) fun i20 => ?_
    refine XO.q (Q.ldEA [_, _, _, _] rfl (by first | assumption | omega) rfl rfl) ?_
    refine XO.alloc fun b7 => ?_
    refine XO.st rfl rfl rfl ?_
    refine XO.done ?_
    refine XK.region rfl ?_
    refine XO.q (Q.move rfl) ?_
    refine XO.q (Q.fieldAddr rfl) ?_
    refine XO.q (Q.ldA [_, _, _] rfl rfl rfl) ?_
    refine XO.q (Q.fieldAddr rfl) ?_
    refine XO.q (Q.ld rfl rfl) ?_
    refine XO.q (Q.build [_, _, _, _] (.c 0 3 rfl rfl rfl (.c 3 1 rfl rfl rfl (.n _)))) ?_
    refine XO.lit [_, _, _, _] [_, _, _, _] [(ls.getD i default)] encLink (by rfl) (by rfl) rfl (by rfl) (by exact .c 0 4 rfl rfl rfl (.n _)) (fun _ => rfl) (by rfl) rfl (by infer_instance) rfl fun v28 h28 O28 => ?_
    refine XO.append rfl rfl rfl rfl (by first | omega | (simp; omega)) fun v29 h29 O29 => ?_
    refine XO.q (Q.assign rfl) ?_
    refine XO.done ?_
    refine XK.inBlock ?_
    refine XK.region rfl ?_
    refine XO.q (Q.add rfl rfl ⟨by omega, by omega⟩) ?_
    refine XO.q (Q.move rfl) ?_
    refine XO.done ?_
    exact ih0 (i + 1, v29, h29) _ _ ⟨by dsimp only; omega, by dsimp only; rw [take_snocL (by omega)]; exact O29⟩ (by first | omega | (dsimp only; omega)) (.c rfl (.c rfl (.base 32 rfl rfl))) inferInstance
  · have _t0 := True.intro
    have hin : i = ls.length := by omega
    subst hin
    rw [List.take_length] at OM
    clear ih0
    refine XK.exit rfl ?_
    refine XK.seq ?_
    refine XK.region rfl ?_
    refine XO.q (Q.move rfl) ?_
    refine XO.q (Q.move rfl) ?_
    refine XO.call Try.call24 rfl rfl rfl (Verify_spec key ls vl hl) fun v34 s34 R34 => ?_
    obtain ⟨rfl, rfl⟩ := R34
    dsimp only [List.cons_append, List.nil_append]
    refine XO.q (Q.move rfl) ?_
    refine XO.q (Q.extract rfl rfl) ?_
    refine XO.q (Q.extract rfl rfl) ?_
    refine XO.q (Q.assign rfl) ?_
    refine XO.q (Q.assign rfl) ?_
    refine XO.done ?_
    refine XK.seq ?_
    refine XK.region rfl ?_
    refine XO.q (Q.move rfl) ?_
    refine XO.q (Q.move rfl) ?_
    refine XO.call Try.call72 rfl rfl rfl (RVerify_spec key ls vm km) fun v40 s40 R40 => ?_
    obtain ⟨rfl, rfl⟩ := R40
    dsimp only [List.cons_append, List.nil_append]
    refine XO.q (Q.move rfl) ?_
    refine XO.q (Q.extract rfl rfl) ?_
    refine XO.q (Q.extract rfl rfl) ?_
    refine XO.q (Q.assign rfl) ?_
    refine XO.q (Q.assign rfl) ?_
    refine XO.done ?_
    refine XK.seq ?_
    refine XK.region rfl ?_
    refine XO.q (Q.move rfl) ?_
    refine XO.call Try.call41 rfl rfl rfl (Table_spec ls vl hl) fun v45 s45 R45 => ?_
    obtain ⟨vt, kt, rfl, rfl, OT⟩ := R45
    dsimp only [List.cons_append, List.nil_append]
    refine XO.q (Q.move rfl) ?_
    refine XO.q (Q.extract rfl rfl) ?_
    refine XO.q (Q.extract rfl rfl) ?_
    refine XO.q (Q.assign rfl) ?_
    refine XO.q (Q.assign rfl) ?_
    refine XO.done ?_
    refine XK.seq ?_
    refine XK.region rfl ?_
    refine XO.q (Q.move rfl) ?_
    refine XO.call Try.call73 rfl rfl rfl (RTable_spec ls vm km) fun v50 s50 R50 => ?_
    obtain ⟨vu, ku, rfl, rfl, OU⟩ := R50
    dsimp only [List.cons_append, List.nil_append]
    refine XO.q (Q.move rfl) ?_
    refine XO.q (Q.extract rfl rfl) ?_
    refine XO.q (Q.extract rfl rfl) ?_
    refine XO.q (Q.assign rfl) ?_
    refine XO.q (Q.assign rfl) ?_
    refine XO.done ?_
    refine XK.seq ?_
    refine XK.region rfl ?_
    refine XO.q (Q.move rfl) ?_
    refine XO.q (Q.move rfl) ?_
    refine XO.q (Q.eql rfl rfl) ?_
    refine XO.q (Q.move rfl) ?_
    refine XO.q (Quiet.guardT rfl rfl fun g57 p57 => Q.move rfl) ?_
    refine XO.q (Quiet.guardT rfl rfl fun g58 p58 => Q.move rfl) ?_
    refine XO.q (Quiet.guardT rfl rfl fun g59 p59 => Q.eql (lzv g59 rfl) (lzv g59 rfl)) ?_
    refine XO.q (Q.and rfl (fun hp => lzv hp rfl)) ?_
    refine XO.q (Q.move rfl) ?_
    refine XO.q (Quiet.guardT rfl rfl fun g62 p62 => Q.move rfl) ?_
    refine XO.q (Quiet.guardT rfl rfl fun g63 p63 => Q.move rfl) ?_
    refine XO.gcallT rfl rfl Try.call74 rfl (fun g64 => .c (lzv g64 rfl) (.c (lzv g64 rfl) .n)) rfl (fun g64 p64 => equalP vt vu kt ku (tableG ls).1 (tableG ls).1) ?_
    refine XO.q (Q.and rfl (fun hp => lzv hp rfl)) ?_
    refine XO.q (Q.move rfl) ?_
    refine XO.q (Quiet.guardT rfl rfl fun g67 p67 => Q.move rfl) ?_
    refine XO.q (Quiet.guardT rfl rfl fun g68 p68 => Q.move rfl) ?_
    refine XO.q (Quiet.guardT rfl rfl fun g69 p69 => Q.eql (lzv g69 rfl) (lzv g69 rfl)) ?_
    refine XO.q (Q.and rfl (fun hp => lzv hp rfl)) ?_
    refine XO.q (Q.assign rfl) ?_
    refine XO.done ?_
    refine XK.rt [] Try.func35 Try.results35 (.t rfl .n) ?_
    exact ⟨by simp, rfl⟩
end Go.X

set_option linter.unusedSimpArgs false
set_option linter.unusedVariables false
set_option maxRecDepth 20000
namespace Go.X
open Go.Proofs
theorem link_ne (x y : MLink) : (!((decide (x.rd.meter = y.rd.meter) && (decide (x.rd.hour = y.rd.hour) && (decide (x.rd.value = y.rd.value) && true))) && (decide (x.sign = y.sign) && true))) = decide (¬ x = y) := by
  obtain ⟨⟨a, b, c⟩, d⟩ := x
  obtain ⟨⟨a2, b2, c2⟩, d2⟩ := y
  rw [Bool.eq_iff_iff]
  simp [and_assoc, or_assoc]
theorem equalLk (v1 v2 : Value) (h1 h2 : PHeap) (xs ys : List MLink) [s1 : Arr v1 encLink 4 h1 xs] [s2 : Arr v2 encLink 4 h2 ys] :
    Spec Try.prog 36 #[v1, v2] [] [h1, h2] (fun v hs => v = .bool (decide (xs = ys)) ∧ hs = []) := by
  refine Spec.intro (fn := Try.f36) (N := 26) Try.func36 rfl Try.ntmps36 rfl fun B => ?_
  refine XK.seq ?_
  refine XK.region rfl ?_
  refine XO.q (Q.assign rfl) ?_
  refine XO.done ?_
  refine XK.seq ?_
  refine XK.seq ?_
  refine XK.region rfl ?_
  refine XO.q (Q.move rfl) ?_
  refine XO.len rfl fun l7 => ?_
  refine XO.q (Q.move rfl) ?_
  refine XO.len rfl fun l9 => ?_
  refine XO.q (Q.neq rfl rfl) ?_
  refine XO.done ?_
  refine XK.if rfl (fun c0 => ?_) (fun c0 => ?_)
  · have _t0 := True.intro
    refine XK.seq ?_
    refine XK.region rfl ?_
    refine XO.q (Q.assign rfl) ?_
    refine XO.done ?_
    refine XK.rt [] Try.func36 Try.results36 (.t rfl .n) ?_
    exact ⟨by rw [decide_eq_false (fun h => c0 (by rw [h]))], rfl⟩
  · have _t0 := True.intro
    refine XK.skip ?_
    refine XK.seq ?_
    refine XK.seq ?_
    refine XK.region rfl ?_
    refine XO.q (Q.move rfl) ?_
    refine XO.len rfl fun l12 => ?_
    refine XO.q (Q.move rfl) ?_
    refine XO.done ?_
    refine XK.block ?_
    refine XK.while (X := Nat) [4, 5, 13, 14, 15, 16, 17, 18, 19, 20, 21, 22, 23, 24, 25] (fun i => [(13, some (.int .i64 (i : Nat)))]) (fun i => []) (fun i => i ≤ xs.length ∧ xs.take i = ys.take i) (fun i => xs.length - i) (0) [] rfl ⟨by omega, rfl⟩ (.c rfl (.base 0 rfl rfl)) ?_
    rintro i ⟨hi, ht⟩ ih0
    dsimp only [List.cons_append, List.nil_append] at ih0 ⊢
    refine XK.seq ?_
    refine XK.region rfl ?_
    refine XO.q (Q.lss rfl rfl) ?_
    refine XO.done ?_
    refine XK.seq ?_
    refine XK.if rfl (fun c1 => ?_) (fun c1 => ?_)
    · have _t1 := True.intro
      refine XK.skip ?_
      refine XK.seq ?_
      refine XK.block ?_
      refine XK.seq ?_
      refine XK.region rfl ?_
      refine XO.q (Q.move rfl) ?_
      refine XO.q (Q.assign rfl) ?_
      refine XO.done ?_
      refine XK.seq ?_
      refine XK.drawn [0, 1, 2, 3, 4, 5, 6, 7, 8] [] [] (.q 0 (.q 1 (.q 2 (.q 3 (.q 4 (.q 5 (.q 6 (.q 7 (.q 8 .done))))))))) Try.mixed rfl (by kernel_rfl) ?_
      refine XT.q rfl rfl (Q.move rfl) ?_
      refine XT.q rfl rfl (Q.move rfl) ?_
      refine XT.ix rfl rfl rfl rfl (by omega) (by omega) fun i18 => ?_
      refine XT.q rfl rfl (Q.ldEA [_, _, _, _] rfl (by first | assumption | omega) rfl rfl) ?_
      refine XT.q rfl rfl (Q.move rfl) ?_
      refine XT.q rfl rfl (Q.move rfl) ?_
      refine XT.ix rfl rfl rfl rfl (by omega) (by omega) fun i22 => ?_
      refine XT.q rfl rfl (Q.ldEA [_, _, _, _] rfl (by first | assumption | omega) rfl rfl) ?_
      refine XT.q rfl rfl (Q.neqG (us := [_, _, _, _]) (vs := [_, _, _, _]) rfl rfl inferInstance (by kernel_rfl) (by kernel_rfl) (.s rfl inferInstance inferInstance inferInstance (by kernel_rfl) rfl rfl (.c rfl inferInstance inferInstance rfl rfl (.c rfl inferInstance inferInstance rfl rfl (.c rfl inferInstance inferInstance rfl rfl .n))) (.c rfl inferInstance inferInstance rfl rfl .n))) ?_
      rw [link_ne]
      refine XT.done ?_
      refine XK.if rfl (fun c2 => ?_) (fun c2 => ?_)
      · have _t2 := True.intro
        refine XK.seq ?_
        refine XK.region rfl ?_
        refine XO.q (Q.assign rfl) ?_
        refine XO.done ?_
        refine XK.rt [] Try.func36 Try.results36 (.t rfl .n) ?_
        exact ⟨by rw [decide_eq_false (fun h => c2 (by rw [h]))], rfl⟩
      · have _t2 := True.intro
        refine XK.skip ?_
        refine XK.inBlock ?_
        refine XK.region rfl ?_
        refine XO.q (Q.add rfl rfl ⟨by omega, by omega⟩) ?_
        refine XO.q (Q.move rfl) ?_
        refine XO.done ?_
        exact ih0 (i + 1) _ _ ⟨by omega, take_step ht (by omega) (by omega) (Decidable.of_not_not c2)⟩ (by first | omega | (dsimp only; omega)) (.c rfl (.base 30 rfl rfl)) inferInstance
    · have _t1 := True.intro
      refine XK.exit rfl ?_
      refine XK.seq ?_
      refine XK.region rfl ?_
      refine XO.q (Q.assign rfl) ?_
      refine XO.done ?_
      refine XK.rt [] Try.func36 Try.results36 (.t rfl .n) ?_
      exact ⟨by rw [decide_eq_true (take_all ht c1 (by omega))], rfl⟩
theorem sign_len (key : Int) (l : List MRd) : (signG key l).1.length ≤ l.length := by
  unfold signG
  split
  · exact Nat.zero_le _
  · split
    · exact Nat.zero_le _
    · rw [links_len]; exact Nat.le_refl _
set_option maxHeartbeats 4000000 in
set_option synthInstance.maxSize 1000 in
theorem MeterChains_spec (key other : Int) (l : List MLink) (vl : Value) (hl : PHeap) [jl : Arr vl encLink 4 hl l] (at' : Int) (hat : in64 at') : Spec Try.prog 7 #[.int .u64 key, .int .u64 other, vl, .int .i64 at'] [] [hl] (fun v hs => v = .bool true ∧ hs = []) := by
  have ll := jl.le
  have nR : OArr (.slice none 0 0) encRd 3 74 emp ([] : List MRd) := OArr.nil (fun _ => rfl)
  have nQ : OArr (.slice none 0 0) encRd 3 80 emp ([] : List MRd) := OArr.nil (fun _ => rfl)
  have rl := rds_len l
  refine Spec.intro (fn := Try.f7) (N := 127) Try.func7 rfl Try.ntmps7 rfl fun B => ?_
  refine XK.seq ?_
  refine XK.region rfl ?_
  refine XO.q (Q.assign rfl) ?_
  refine XO.done ?_
  refine XK.seq ?_
  refine XK.seq ?_
  refine XK.region rfl ?_
  refine XO.q (Q.move rfl) ?_
  refine XO.len rfl fun l23 => ?_
  refine XO.q (Q.gtr rfl rfl) ?_
  refine XO.done ?_
  refine XK.if rfl (fun c0 => ?_) (fun c0 => ?_)
  · have _t0 := True.intro
    refine XK.seq ?_
    refine XK.region rfl ?_
    refine XO.call Try.call13 rfl rfl rfl (awake11) fun v25 s25 R25 => ?_
    obtain ⟨rfl, rfl⟩ := R25
    dsimp only [List.cons_append, List.nil_append]
    refine XO.q (Q.assign rfl) ?_
    refine XO.done ?_
    refine XK.rt [] Try.func7 Try.results7 (.t rfl .n) ?_
    exact ⟨rfl, rfl⟩
  · have _t0 := True.intro
    have nl : l.length ≤ 1000 := by omega
    refine XK.skip ?_
    refine XK.seq ?_
    refine XK.region rfl ?_
    refine XO.q (Q.assign rfl) ?_
    refine XO.done ?_
    refine XK.seq ?_
    refine XK.region rfl ?_
    refine XO.q (Q.assign rfl) ?_
    refine XO.done ?_
    refine XK.seq ?_
    refine XK.seq ?_
    refine XK.region rfl ?_
    refine XO.q (Q.move rfl) ?_
    refine XO.len rfl fun l27 => ?_
    refine XO.q (Q.move rfl) ?_
    refine XO.done ?_
    refine XK.block ?_
    refine XK.while (X := Nat × Value × PHeap × Value × PHeap) [9, 10, 12, 28, 29, 30, 31, 32, 33, 34, 35, 36, 37, 38, 39, 40, 41, 42] (fun ⟨i, vr, hr, vq, hq⟩ => [(9, some (vr)), (10, some (vq)), (28, some (.int .i64 (i : Nat)))]) (fun ⟨i, vr, hr, vq, hq⟩ => [hr, hq]) (fun ⟨i, vr, hr, vq, hq⟩ => i ≤ l.length ∧ OArr vr encRd 3 74 hr ((rdsL l).take i) ∧ OArr vq encRd 3 80 hq ((rdsL l).take i)) (fun ⟨i, vr, hr, vq, hq⟩ => l.length - i) (0, .slice none 0 0, emp, .slice none 0 0, emp) [emp, emp] rfl ⟨by omega, nR, nQ⟩ (.c rfl (.c rfl (.c rfl (.base 0 rfl rfl)))) ?_
    rintro ⟨i, vr, hr, vq, hq⟩ ⟨hi, OR, OQ⟩ ih0
    dsimp only [List.cons_append, List.nil_append] at ih0 ⊢
    refine XK.seq ?_
    refine XK.region rfl ?_
    refine XO.q (Q.lss rfl rfl) ?_
    refine XO.done ?_
    refine XK.seq ?_
    refine XK.if rfl (fun c1 => ?_) (fun c1 => ?_)
    · have _t1 := True.intro
      have el : ((rdsL l).take i).length = i := by rw [List.length_take]; omega
      refine XK.skip ?_
      refine XK.seq ?_
      refine XK.block ?_
      refine XK.seq ?_
      refine XK.region rfl ?_
      refine XO.ix rfl rfl (by omega) (by omega) fun i30 => ?_
      refine XO.q (Q.ldEA [_, _, _, _] rfl (by first | assumption | omega) rfl rfl) ?_
      refine XO.alloc fun b12 => ?_
      refine XO.st rfl rfl rfl ?_
      refine XO.done ?_
      refine XK.meet (X := Value × PHeap × Value × PHeap) [9, 10, 32, 33, 34, 35, 36, 37, 38, 39, 40, 41] (fun ⟨vr2, hr2, vq2, hq2⟩ => [(9, some (vr2)), (10, some (vq2))]) (fun ⟨vr2, hr2, vq2, hq2⟩ => [hr2, hq2]) (fun ⟨vr2, hr2, vq2, hq2⟩ => OArr vr2 encRd 3 74 hr2 ((rdsL l).take (i + 1)) ∧ OArr vq2 encRd 3 80 hq2 ((rdsL l).take (i + 1))) [hr, hq] ?_ ?_
      · rintro ⟨vr2, hr2, vq2, hq2⟩ ⟨OR2, OQ2⟩
        dsimp only [List.cons_append, List.nil_append]
        refine XK.inBlock ?_
        refine XK.region rfl ?_
        refine XO.q (Q.add rfl rfl ⟨by omega, by omega⟩) ?_
        refine XO.q (Q.move rfl) ?_
        refine XO.done ?_
        exact ih0 (i + 1, vr2, hr2, vq2, hq2) _ _ ⟨by dsimp only; omega, OR2, OQ2⟩ (by first | omega | (dsimp only; omega)) (.c rfl (.c rfl (.c rfl (.base 41 rfl rfl)))) inferInstance
      · intro mtr8
        dsimp only [List.cons_append, List.nil_append] at mtr8
        refine XK.drawn [0, 1, 2, 5, 6, 7, 10, 11] [b12] [] (.q 0 (.q 1 (.q 2 (.q 5 (.q 6 (.q 7 (.br 3 true (.br 4 true (.br 8 true (.br 9 true (.q 10 (.q 11 .done)) .stop) .stop) (.br 8 true (.br 4 true (.br 9 true (.q 10 (.q 11 .done)) .stop) .stop) .stop)) (.br 8 true (.br 3 true (.br 4 true (.br 9 true (.q 10 (.q 11 .done)) .stop) .stop) .stop) .stop)))))))) Try.mixed rfl (by kernel_rfl) ?_
        refine XT.q rfl rfl (Q.move rfl) ?_
        refine XT.q rfl rfl (Q.fieldAddr rfl) ?_
        refine XT.q rfl rfl (Q.ldA [_, _, _] rfl rfl rfl) ?_
        refine XT.q rfl rfl (Q.move rfl) ?_
        refine XT.q rfl rfl (Q.fieldAddr rfl) ?_
        refine XT.q rfl rfl (Q.ldA [_, _, _] rfl rfl rfl) ?_
        refine XT.lit [_, _, _] [_, _, _] [(l.getD i default).rd] encRd rfl rfl (by rfl) (by rfl) rfl (by rfl) (by exact .c 0 3 rfl rfl rfl (.n _)) (fun _ => rfl) (by rfl) rfl (by infer_instance) rfl (fun v35 h35 O35 => ⟨inferInstance, ?_⟩) ?_
        · skip
          refine XT.append rfl rfl rfl rfl rfl rfl (by first | omega | (simp; omega)) (fun v36 h36 O36 => ⟨inferInstance, ?_⟩) ?_
          · skip
            refine XT.lit [_, _, _] [_, _, _] [(l.getD i default).rd] encRd rfl rfl (by rfl) (by rfl) rfl (by rfl) (by exact .c 0 3 rfl rfl rfl (.n _)) (fun _ => rfl) (by rfl) rfl (by infer_instance) rfl (fun v40 h40 O40 => ⟨inferInstance, ?_⟩) XT.stop
            refine XT.append rfl rfl rfl rfl rfl rfl (by first | omega | (simp; omega)) (fun v41 h41 O41 => ⟨inferInstance, ?_⟩) XT.stop
            refine XT.q rfl rfl (Q.assign rfl) ?_
            refine XT.q rfl rfl (Q.assign rfl) ?_
            refine XT.done ?_
            exact mtr8 ((v36, h36, v41, h41)) _ _ ⟨by rw [rds_snoc (by omega)]; exact O36, by rw [rds_snoc (by omega)]; exact O41⟩ (.c rfl (.c rfl (.base 12 rfl rfl))) inferInstance
          · skip
            refine XT.lit [_, _, _] [_, _, _] [(l.getD i default).rd] encRd rfl rfl (by rfl) (by rfl) rfl (by rfl) (by exact .c 0 3 rfl rfl rfl (.n _)) (fun _ => rfl) (by rfl) rfl (by infer_instance) rfl (fun v40 h40 O40 => ⟨inferInstance, ?_⟩) XT.stop
            refine XT.append rfl rfl rfl rfl rfl rfl (by first | omega | (simp; omega)) (fun v36 h36 O36 => ⟨inferInstance, ?_⟩) XT.stop
            refine XT.append rfl rfl rfl rfl rfl rfl (by first | omega | (simp; omega)) (fun v41 h41 O41 => ⟨inferInstance, ?_⟩) XT.stop
            refine XT.q rfl rfl (Q.assign rfl) ?_
            refine XT.q rfl rfl (Q.assign rfl) ?_
            refine XT.done ?_
            exact mtr8 ((v36, h36, v41, h41)) _ _ ⟨by rw [rds_snoc (by omega)]; exact O36, by rw [rds_snoc (by omega)]; exact O41⟩ (.c rfl (.c rfl (.base 12 rfl rfl))) inferInstance
        · skip
          refine XT.lit [_, _, _] [_, _, _] [(l.getD i default).rd] encRd rfl rfl (by rfl) (by rfl) rfl (by rfl) (by exact .c 0 3 rfl rfl rfl (.n _)) (fun _ => rfl) (by rfl) rfl (by infer_instance) rfl (fun v40 h40 O40 => ⟨inferInstance, ?_⟩) XT.stop
          refine XT.lit [_, _, _] [_, _, _] [(l.getD i default).rd] encRd rfl rfl (by rfl) (by rfl) rfl (by rfl) (by exact .c 0 3 rfl rfl rfl (.n _)) (fun _ => rfl) (by rfl) rfl (by infer_instance) rfl (fun v35 h35 O35 => ⟨inferInstance, ?_⟩) XT.stop
          refine XT.append rfl rfl rfl rfl rfl rfl (by first | omega | (simp; omega)) (fun v36 h36 O36 => ⟨inferInstance, ?_⟩) XT.stop
          refine XT.append rfl rfl rfl rfl rfl rfl (by first | omega | (simp; omega)) (fun v41 h41 O41 => ⟨inferInstance, ?_⟩) XT.stop
          refine XT.q rfl rfl (Q.assign rfl) ?_
          refine XT.q rfl rfl (Q.assign rfl) ?_
          refine XT.done ?_
          exact mtr8 ((v36, h36, v41, h41)) _ _ ⟨by rw [rds_snoc (by omega)]; exact O36, by rw [rds_snoc (by omega)]; exact O41⟩ (.c rfl (.c rfl (.base 12 rfl rfl))) inferInstance
    · have _t1 := True.intro
      have hin : i = l.length := by omega
      rw [hin, ← rl, List.take_length] at OR OQ
      clear ih0
      refine XK.exit rfl ?_
      refine XK.seq ?_
      refine XK.region rfl ?_
      refine XO.q (Q.move rfl) ?_
      refine XO.call Try.call27 rfl rfl rfl (cloneR vr hr (rdsL l) (by omega)) fun v44 s44 R44 => ?_
      obtain ⟨ks, rfl, OS⟩ := R44
      dsimp only [List.cons_append, List.nil_append]
      refine XO.q (Q.assign rfl) ?_
      refine XO.done ?_
      refine XK.seq ?_
      refine XK.region rfl ?_
      refine XO.q (Q.move rfl) ?_
      refine XO.q (Q.move rfl) ?_
      refine XO.call Try.call23 rfl rfl rfl (Sign_spec key (rdsL l) v44 ks) fun v48 s48 R48 => ?_
      obtain ⟨va, ka, rfl, rfl, OA⟩ := R48
      dsimp only [List.cons_append, List.nil_append]
      obtain ⟨g, eg⟩ : ∃ g, g = signG key (rdsL l) := ⟨_, rfl⟩
      have nA := sign_len key (rdsL l)
      rw [← eg] at OA nA ⊢
      refine XO.q (Q.move rfl) ?_
      refine XO.q (Q.extract rfl rfl) ?_
      refine XO.q (Q.extract rfl rfl) ?_
      refine XO.q (Q.assign rfl) ?_
      refine XO.q (Q.assign rfl) ?_
      refine XO.done ?_
      refine XK.seq ?_
      refine XK.region rfl ?_
      refine XO.q (Q.move rfl) ?_
      refine XO.q (Q.move rfl) ?_
      refine XO.call Try.call28 rfl rfl rfl (RSign_spec key (rdsL l) vq hq) fun v54 s54 R54 => ?_
      obtain ⟨vb, kb, rfl, rfl, OB⟩ := R54
      dsimp only [List.cons_append, List.nil_append]
      rw [← eg] at OB ⊢
      obtain ⟨A, eA⟩ : ∃ A, A = g.1 := ⟨_, rfl⟩
      rw [← eA] at OA OB nA
      have nA : A.length ≤ 1000 := by omega
      refine XO.q (Q.move rfl) ?_
      refine XO.q (Q.extract rfl rfl) ?_
      refine XO.q (Q.extract rfl rfl) ?_
      refine XO.q (Q.assign rfl) ?_
      refine XO.q (Q.assign rfl) ?_
      refine XO.done ?_
      refine XK.seq ?_
      refine XK.seq ?_
      refine XK.region rfl ?_
      refine XO.q (Q.move rfl) ?_
      refine XO.q (Q.move rfl) ?_
      refine XO.call Try.call29 rfl rfl rfl (Mix_spec key other) fun v59 s59 R59 => ?_
      obtain ⟨rfl, rfl⟩ := R59
      dsimp only [List.cons_append, List.nil_append]
      refine XO.q (Q.move rfl) ?_
      refine XO.q (Q.move rfl) ?_
      refine XO.call Try.call30 rfl rfl rfl (RMix_spec key other) fun v62 s62 R62 => ?_
      obtain ⟨rfl, rfl⟩ := R62
      dsimp only [List.cons_append, List.nil_append]
      refine XO.q (Q.neq rfl rfl) ?_
      refine XO.q (Q.move rfl) ?_
      refine XO.q (Quiet.guardF rfl rfl fun g65 p65 => Q.move rfl) ?_
      refine XO.q (Quiet.guardF rfl rfl fun g66 p66 => Q.move rfl) ?_
      refine XO.q (Quiet.guardF rfl rfl fun g67 p67 => Q.neq (lzv g67 rfl) (lzv g67 rfl)) ?_
      refine XO.q (Q.or rfl (fun hp => lzv hp rfl)) ?_
      refine XO.q (Q.move rfl) ?_
      refine XO.q (Quiet.guardF rfl rfl fun g70 p70 => Q.move rfl) ?_
      refine XO.q (Quiet.guardF rfl rfl fun g71 p71 => Q.move rfl) ?_
      refine XO.gcallF rfl rfl Try.call31 rfl (fun g72 => .c (lzv g72 rfl) (.c (lzv g72 rfl) .n)) rfl (fun g72 p72 => equalR v44 vr ks hr (rdsL l) (rdsL l)) ?_
      refine XO.q (Quiet.guardF rfl rfl fun g73 p73 => Q.not (lzv g73 rfl)) ?_
      refine XO.q (Q.or rfl (fun hp => lzv hp rfl)) ?_
      refine XO.q (Q.move rfl) ?_
      refine XO.q (Quiet.guardF rfl rfl fun g76 p76 => Q.move rfl) ?_
      refine XO.q (Quiet.guardF rfl rfl fun g77 p77 => Q.move rfl) ?_
      refine XO.gcallF rfl rfl Try.call32 rfl (fun g78 => .c (lzv g78 rfl) (.c (lzv g78 rfl) (.c rfl .n))) rfl (fun g78 p78 => equalLF va vb ka kb A A) ?_
      refine XO.q (Quiet.guardF rfl rfl fun g79 p79 => Q.not (lzv g79 rfl)) ?_
      refine XO.q (Q.or rfl (fun hp => lzv hp rfl)) ?_
      refine XO.done ?_
      refine XK.if rfl (fun c2 => ?_) (fun c2 => ?_)
      · have _t2 := True.intro
        simp at c2
      · have _t2 := True.intro
        refine XK.skip ?_
        refine XK.seq ?_
        refine XK.region rfl ?_
        refine XO.q (Q.move rfl) ?_
        refine XO.call Try.call25 rfl rfl rfl (cloneL va ka A (by omega)) fun v82 s82 R82 => ?_
        obtain ⟨kc0, rfl, OC0⟩ := R82
        dsimp only [List.cons_append, List.nil_append]
        refine XO.q (Q.assign rfl) ?_
        refine XO.done ?_
        refine XK.seq ?_
        refine XK.seq ?_
        refine XK.region rfl ?_
        refine XO.q (Q.move rfl) ?_
        refine XO.len rfl fun l84 => ?_
        refine XO.q (Q.gtr rfl rfl) ?_
        refine XO.done ?_
        refine XK.meet (X := PHeap × List MLink) [86, 87, 88, 89, 90, 91, 92, 93, 94, 95, 96, 97] (fun ⟨kc, lst⟩ => []) (fun ⟨kc, lst⟩ => [kc]) (fun ⟨kc, lst⟩ => OArr v82 encLink 4 76 kc lst ∧ lst.length ≤ 1000) [kc0] ?_ ?_
        · rintro ⟨kc, lst⟩ ⟨OC, nc⟩
          dsimp only [List.cons_append, List.nil_append]
          refine XK.seq ?_
          refine XK.seq ?_
          refine XK.region rfl ?_
          refine XO.q (Q.move rfl) ?_
          refine XO.q (Q.move rfl) ?_
          refine XO.q (Q.move rfl) ?_
          refine XO.lit [_, _, _] [_, _, _] [vl, va, v82] encV (by rfl) (by rfl) rfl (by rfl) (by exact .c 0 1 rfl rfl rfl (.c 1 1 rfl rfl rfl (.c 2 1 rfl rfl rfl (.n _)))) (fun _ => rfl) (by rfl) rfl (by infer_instance) rfl fun v101 h101 O101 => ?_
          refine XO.len rfl fun l102 => ?_
          refine XO.q (Q.move rfl) ?_
          refine XO.done ?_
          refine XK.block ?_
          refine XK.while (X := Nat) [8, 20, 21, 103, 104, 105, 106, 107, 108, 109, 110, 111, 112, 113, 114, 115, 116, 117, 118, 119, 120, 121, 122, 123, 124, 125] (fun i => [(103, some (.int .i64 (i : Nat)))]) (fun i => []) (fun i => i ≤ 3) (fun i => 3 - i) (0) [] rfl (by omega) (.c rfl (.base 0 rfl rfl)) ?_
          rintro i hi ih1
          dsimp only [List.cons_append, List.nil_append] at ih1 ⊢
          refine XK.seq ?_
          refine XK.region rfl ?_
          refine XO.q (Q.lss rfl rfl) ?_
          refine XO.done ?_
          refine XK.seq ?_
          refine XK.if rfl (fun c4 => ?_) (fun c4 => ?_)
          · have _t4 := True.intro
            have i3 : i < 3 := by have h := c4; simp only [List.length_cons, List.length_nil] at h; omega
            rcases (show i = 0 ∨ i = 1 ∨ i = 2 by omega) with rfl | rfl | rfl
            · refine XK.skip ?_
              refine XK.seq ?_
              refine XK.block ?_
              refine XK.seq ?_
              refine XK.region rfl ?_
              refine XO.ix rfl rfl (by omega) (by omega) fun i105 => ?_
              refine XO.q (Q.ldE rfl (by first | assumption | omega) rfl) ?_
              rw [show ([vl, va, v82] : List Value).getD 0 default = vl from rfl]
              refine XO.q (Q.assign rfl) ?_
              refine XO.done ?_
              refine XK.seq ?_
              refine XK.region rfl ?_
              refine XO.q (Q.move rfl) ?_
              refine XO.call Try.call25 rfl rfl rfl (cloneL (vl) hl l (by omega)) fun v108 s108 R108 => ?_
              obtain ⟨ko, rfl, OO⟩ := R108
              dsimp only [List.cons_append, List.nil_append]
              refine XO.q (Q.assign rfl) ?_
              refine XO.done ?_
              refine XK.seq ?_
              refine XK.region rfl ?_
              refine XO.q (Q.move rfl) ?_
              refine XO.q (Q.move rfl) ?_
              refine XO.call Try.call35 rfl rfl rfl (chains11 key l v108 ko (by omega)) fun v111 s111 R111 => ?_
              obtain ⟨rfl, rfl⟩ := R111
              dsimp only [List.cons_append, List.nil_append]
              refine XO.q (Q.not rfl) ?_
              refine XO.q (Q.move rfl) ?_
              refine XO.q (Quiet.guardF rfl rfl fun g114 p114 => Q.move rfl) ?_
              refine XO.q (Quiet.guardF rfl rfl fun g115 p115 => Q.move rfl) ?_
              refine XO.gcallF rfl rfl Try.call35 rfl (fun g116 => .c (lzv g116 rfl) (.c (lzv g116 rfl) .n)) rfl (fun g116 p116 => chains11 other l v108 ko (by omega)) ?_
              refine XO.q (Quiet.guardF rfl rfl fun g117 p117 => Q.not (lzv g117 rfl)) ?_
              refine XO.q (Q.or rfl (fun hp => lzv hp rfl)) ?_
              refine XO.q (Q.move rfl) ?_
              refine XO.q (Quiet.guardF rfl rfl fun g120 p120 => Q.move rfl) ?_
              refine XO.q (Quiet.guardF rfl rfl fun g121 p121 => Q.move rfl) ?_
              refine XO.gcallF rfl rfl Try.call36 rfl (fun g122 => .c (lzv g122 rfl) (.c (lzv g122 rfl) .n)) rfl (fun g122 p122 => equalLk v108 (vl) ko hl l l) ?_
              refine XO.q (Quiet.guardF rfl rfl fun g123 p123 => Q.not (lzv g123 rfl)) ?_
              refine XO.q (Q.or rfl (fun hp => lzv hp rfl)) ?_
              refine XO.done ?_
              refine XK.if rfl (fun c5 => ?_) (fun c5 => ?_)
              · have _t5 := True.intro
                simp at c5
              · have _t5 := True.intro
                refine XK.skip ?_
                refine XK.inBlock ?_
                refine XK.region rfl ?_
                refine XO.q (Q.add rfl rfl ⟨by omega, by omega⟩) ?_
                refine XO.q (Q.move rfl) ?_
                refine XO.done ?_
                exact ih1 (0 + 1) _ _ (by omega) (by first | omega | (dsimp only; omega)) (.c rfl (.base 52 rfl rfl)) inferInstance
            · refine XK.skip ?_
              refine XK.seq ?_
              refine XK.block ?_
              refine XK.seq ?_
              refine XK.region rfl ?_
              refine XO.ix rfl rfl (by omega) (by omega) fun i105 => ?_
              refine XO.q (Q.ldE rfl (by first | assumption | omega) rfl) ?_
              rw [show ([vl, va, v82] : List Value).getD 1 default = va from rfl]
              refine XO.q (Q.assign rfl) ?_
              refine XO.done ?_
              refine XK.seq ?_
              refine XK.region rfl ?_
              refine XO.q (Q.move rfl) ?_
              refine XO.call Try.call25 rfl rfl rfl (cloneL (va) ka A (by omega)) fun v108 s108 R108 => ?_
              obtain ⟨ko, rfl, OO⟩ := R108
              dsimp only [List.cons_append, List.nil_append]
              refine XO.q (Q.assign rfl) ?_
              refine XO.done ?_
              refine XK.seq ?_
              refine XK.region rfl ?_
              refine XO.q (Q.move rfl) ?_
              refine XO.q (Q.move rfl) ?_
              refine XO.call Try.call35 rfl rfl rfl (chains11 key A v108 ko (by omega)) fun v111 s111 R111 => ?_
              obtain ⟨rfl, rfl⟩ := R111
              dsimp only [List.cons_append, List.nil_append]
              refine XO.q (Q.not rfl) ?_
              refine XO.q (Q.move rfl) ?_
              refine XO.q (Quiet.guardF rfl rfl fun g114 p114 => Q.move rfl) ?_
              refine XO.q (Quiet.guardF rfl rfl fun g115 p115 => Q.move rfl) ?_
              refine XO.gcallF rfl rfl Try.call35 rfl (fun g116 => .c (lzv g116 rfl) (.c (lzv g116 rfl) .n)) rfl (fun g116 p116 => chains11 other A v108 ko (by omega)) ?_
              refine XO.q (Quiet.guardF rfl rfl fun g117 p117 => Q.not (lzv g117 rfl)) ?_
              refine XO.q (Q.or rfl (fun hp => lzv hp rfl)) ?_
              refine XO.q (Q.move rfl) ?_
              refine XO.q (Quiet.guardF rfl rfl fun g120 p120 => Q.move rfl) ?_
              refine XO.q (Quiet.guardF rfl rfl fun g121 p121 => Q.move rfl) ?_
              refine XO.gcallF rfl rfl Try.call36 rfl (fun g122 => .c (lzv g122 rfl) (.c (lzv g122 rfl) .n)) rfl (fun g122 p122 => equalLk v108 (va) ko ka A A) ?_
              refine XO.q (Quiet.guardF rfl rfl fun g123 p123 => Q.not (lzv g123 rfl)) ?_
              refine XO.q (Q.or rfl (fun hp => lzv hp rfl)) ?_
              refine XO.done ?_
              refine XK.if rfl (fun c5 => ?_) (fun c5 => ?_)
              · have _t5 := True.intro
                simp at c5
              · have _t5 := True.intro
                refine XK.skip ?_
                refine XK.inBlock ?_
                refine XK.region rfl ?_
                refine XO.q (Q.add rfl rfl ⟨by omega, by omega⟩) ?_
                refine XO.q (Q.move rfl) ?_
                refine XO.done ?_
                exact ih1 (1 + 1) _ _ (by omega) (by first | omega | (dsimp only; omega)) (.c rfl (.base 52 rfl rfl)) inferInstance
            · refine XK.skip ?_
              refine XK.seq ?_
              refine XK.block ?_
              refine XK.seq ?_
              refine XK.region rfl ?_
              refine XO.ix rfl rfl (by omega) (by omega) fun i105 => ?_
              refine XO.q (Q.ldE rfl (by first | assumption | omega) rfl) ?_
              rw [show ([vl, va, v82] : List Value).getD 2 default = v82 from rfl]
              refine XO.q (Q.assign rfl) ?_
              refine XO.done ?_
              refine XK.seq ?_
              refine XK.region rfl ?_
              refine XO.q (Q.move rfl) ?_
              refine XO.call Try.call25 rfl rfl rfl (cloneL (v82) kc lst (by omega)) fun v108 s108 R108 => ?_
              obtain ⟨ko, rfl, OO⟩ := R108
              dsimp only [List.cons_append, List.nil_append]
              refine XO.q (Q.assign rfl) ?_
              refine XO.done ?_
              refine XK.seq ?_
              refine XK.region rfl ?_
              refine XO.q (Q.move rfl) ?_
              refine XO.q (Q.move rfl) ?_
              refine XO.call Try.call35 rfl rfl rfl (chains11 key lst v108 ko (by omega)) fun v111 s111 R111 => ?_
              obtain ⟨rfl, rfl⟩ := R111
              dsimp only [List.cons_append, List.nil_append]
              refine XO.q (Q.not rfl) ?_
              refine XO.q (Q.move rfl) ?_
              refine XO.q (Quiet.guardF rfl rfl fun g114 p114 => Q.move rfl) ?_
              refine XO.q (Quiet.guardF rfl rfl fun g115 p115 => Q.move rfl) ?_
              refine XO.gcallF rfl rfl Try.call35 rfl (fun g116 => .c (lzv g116 rfl) (.c (lzv g116 rfl) .n)) rfl (fun g116 p116 => chains11 other lst v108 ko (by omega)) ?_
              refine XO.q (Quiet.guardF rfl rfl fun g117 p117 => Q.not (lzv g117 rfl)) ?_
              refine XO.q (Q.or rfl (fun hp => lzv hp rfl)) ?_
              refine XO.q (Q.move rfl) ?_
              refine XO.q (Quiet.guardF rfl rfl fun g120 p120 => Q.move rfl) ?_
              refine XO.q (Quiet.guardF rfl rfl fun g121 p121 => Q.move rfl) ?_
              refine XO.gcallF rfl rfl Try.call36 rfl (fun g122 => .c (lzv g122 rfl) (.c (lzv g122 rfl) .n)) rfl (fun g122 p122 => equalLk v108 (v82) ko kc lst lst) ?_
              refine XO.q (Quiet.guardF rfl rfl fun g123 p123 => Q.not (lzv g123 rfl)) ?_
              refine XO.q (Q.or rfl (fun hp => lzv hp rfl)) ?_
              refine XO.done ?_
              refine XK.if rfl (fun c5 => ?_) (fun c5 => ?_)
              · have _t5 := True.intro
                simp at c5
              · have _t5 := True.intro
                refine XK.skip ?_
                refine XK.inBlock ?_
                refine XK.region rfl ?_
                refine XO.q (Q.add rfl rfl ⟨by omega, by omega⟩) ?_
                refine XO.q (Q.move rfl) ?_
                refine XO.done ?_
                exact ih1 (2 + 1) _ _ (by omega) (by first | omega | (dsimp only; omega)) (.c rfl (.base 52 rfl rfl)) inferInstance
          · have _t4 := True.intro
            refine XK.exit rfl ?_
            refine XK.seq ?_
            refine XK.region rfl ?_
            refine XO.call Try.call13 rfl rfl rfl (awake11) fun v126 s126 R126 => ?_
            obtain ⟨rfl, rfl⟩ := R126
            dsimp only [List.cons_append, List.nil_append]
            refine XO.q (Q.assign rfl) ?_
            refine XO.done ?_
            refine XK.rt [] Try.func7 Try.results7 (.t rfl .n) ?_
            exact ⟨rfl, rfl⟩
        · intro mt3
          dsimp only [List.cons_append, List.nil_append] at mt3
          refine XK.if rfl (fun c3 => ?_) (fun c3 => ?_)
          · have _t3 := True.intro
            have pb := pickI_bd (x := at') (n := (A.length : Int)) (by omega)
            refine XK.region rfl ?_
            refine XO.q (Q.move rfl) ?_
            refine XO.q (Q.move rfl) ?_
            refine XO.q (Q.move rfl) ?_
            refine XO.len rfl fun l89 => ?_
            refine XO.call Try.call34 rfl rfl rfl (Pick_spec at' (A.length : Int) hat ⟨by omega, by omega⟩) fun v90 s90 R90 => ?_
            obtain ⟨rfl, rfl⟩ := R90
            dsimp only [List.cons_append, List.nil_append]
            refine XO.ix rfl rfl (by omega) (by omega) fun i91 => ?_
            refine XO.q (Q.fieldQ rfl (by first | assumption | omega)) ?_
            refine XO.q (Q.ldE rfl (by first | assumption | omega) rfl) ?_
            refine XO.q (Q.move rfl) ?_
            refine XO.q (Q.xorW rfl rfl) ?_
            refine XO.ix rfl rfl (by omega) (by omega) fun i96 => ?_
            refine XO.q (Q.fieldQ rfl (by first | assumption | omega)) ?_
            refine XO.stE ⟨(A.getD (pickI at' (A.length : Int)).toNat default).rd, xorI .u64 (A.getD (pickI at' (A.length : Int)).toNat default).sign other⟩ rfl rfl rfl (by assumption) rfl rfl fun h17_12 O17_12 => ?_
            refine XO.done ?_
            exact mt3 ((h17_12, _)) _ _ ⟨O17_12, by rw [List.length_set]; exact nA⟩ (.base 12 rfl rfl) inferInstance
          · have _t3 := True.intro
            refine XK.skip ?_
            exact mt3 ((kc0, A)) _ _ ⟨OC0, nA⟩ (.base 0 rfl rfl) inferInstance
end Go.X
