/- Contracts of functions of the program, each proved by a walk through its operations. No condition but those that stand in each theorem. -/
import Derived.Test.YtfenlpoaphbfgaaK3
set_option linter.unusedSimpArgs false
set_option linter.unusedVariables false
namespace Go.X
open Go.Proofs
theorem refIn (n a b : Int) : Spec Try.prog 44 #[.int .i64 n, .int .i64 a, .int .i64 b] [] [] (fun v hs => v = .bool (decide (a ≤ n) && decide (n ≤ b)) ∧ hs = []) := by
  refine Spec.intro (fn := Try.f44) (N := 15) Try.func44 rfl Try.ntmps44 rfl fun B => ?_
  refine XK.seq ?_
  refine XK.region rfl ?_
  refine XO.q (Q.assign rfl) ?_
  refine XO.done ?_
  refine XK.seq ?_
  refine XK.region rfl ?_
  refine XO.q (Q.move rfl) ?_
  refine XO.q (Q.move rfl) ?_
  refine XO.q (Q.geq rfl rfl) ?_
  refine XO.q (Q.move rfl) ?_
  refine XO.q (Quiet.guardT rfl rfl fun g11 p11 => Q.move rfl) ?_
  refine XO.q (Quiet.guardT rfl rfl fun g12 p12 => Q.move rfl) ?_
  refine XO.q (Quiet.guardT rfl rfl fun g13 p13 => Q.leq (lzv g13 rfl) (lzv g13 rfl)) ?_
  refine XO.q (Q.and rfl (fun hp => lzv hp rfl)) ?_
  refine XO.q (Q.assign rfl) ?_
  refine XO.done ?_
  refine XK.rt [] Try.func44 Try.results44 (.t rfl .n) ?_
  exact ⟨rfl, rfl⟩
theorem gcheck_big {g : G} (h : ((¬ (1 ≤ g.S ∧ g.S ≤ 400) ∨ ¬ (1 ≤ g.C ∧ g.C ≤ 16)) ∨ ¬ (1 ≤ g.K ∧ g.K ≤ 16))) : gcheck g = 2 := by
  unfold gcheck; rw [if_pos (by omega)]
theorem g_bd' {S C K : Int} (h : ¬ ((¬ (1 ≤ S ∧ S ≤ 400) ∨ ¬ (1 ≤ C ∧ C ≤ 16)) ∨ ¬ (1 ≤ K ∧ K ≤ 16))) : 1 ≤ S * C ∧ S * C ≤ 6400 ∧ 1 ≤ S * C * K ∧ S * C * K ≤ 102400 := g_bd (by omega)
theorem refCheck (g : G) (vn vg : Value) (hn hg : PHeap) [sn : Arr vn encI 1 hn g.next] [sg : Arr vg encB 1 hg g.good] : Spec Try.prog 41 #[.agg #[.int .i64 g.S, .int .i64 g.C, .int .i64 g.K, vn, vg]] [] [hn, hg] (fun v hs => v = .int .i64 (gcheck g) ∧ hs = []) := by
  refine Spec.intro (fn := Try.f41) (N := 57) Try.func41 rfl Try.ntmps41 rfl fun B => ?_
  refine XK.seq ?_
  refine XK.region rfl ?_
  refine XO.box rfl fun b1 => ?_
  refine XO.q (Q.assign rfl) ?_
  refine XO.done ?_
  refine XK.seq ?_
  refine XK.seq ?_
  refine XK.region rfl ?_
  refine XO.q (Q.fieldAddr rfl) ?_
  refine XO.q (Q.ld rfl rfl) ?_
  refine XO.call Try.call44 rfl rfl rfl (refIn _ _ _) fun v6 s6 R6 => ?_
  obtain ⟨rfl, rfl⟩ := R6
  dsimp only [List.cons_append, List.nil_append]
  refine XO.q (Q.not rfl) ?_
  refine XO.q (Q.move rfl) ?_
  refine XO.q (Quiet.guardF rfl rfl fun g9 p9 => Q.fieldAddr rfl) ?_
  refine XO.q (Quiet.guardF rfl rfl fun g10 p10 => Q.ld (lzv g10 rfl) rfl) ?_
  refine XO.gcallF rfl rfl Try.call44 rfl (fun g11 => .c (lzv g11 rfl) (.c rfl (.c rfl .n))) rfl (fun g11 p11 => refIn _ _ _) ?_
  refine XO.q (Quiet.guardF rfl rfl fun g12 p12 => Q.not (lzv g12 rfl)) ?_
  refine XO.q (Q.or rfl (fun hp => lzv hp rfl)) ?_
  refine XO.q (Q.move rfl) ?_
  refine XO.q (Quiet.guardF rfl rfl fun g15 p15 => Q.fieldAddr rfl) ?_
  refine XO.q (Quiet.guardF rfl rfl fun g16 p16 => Q.ld (lzv g16 rfl) rfl) ?_
  refine XO.gcallF rfl rfl Try.call44 rfl (fun g17 => .c (lzv g17 rfl) (.c rfl (.c rfl .n))) rfl (fun g17 p17 => refIn _ _ _) ?_
  refine XO.q (Quiet.guardF rfl rfl fun g18 p18 => Q.not (lzv g18 rfl)) ?_
  refine XO.q (Q.or rfl (fun hp => lzv hp rfl)) ?_
  refine XO.done ?_
  refine XK.if rfl (fun c0 => ?_) (fun c0 => ?_)
  · have _t0 := True.intro
    refine XK.seq ?_
    refine XK.region rfl ?_
    refine XO.q (Q.assign rfl) ?_
    refine XO.done ?_
    refine XK.rt [] Try.func41 Try.results41 (.t rfl .n) ?_
    exact ⟨by rw [gcheck_big c0], rfl⟩
  · have _t0 := True.intro
    have hb := g_bd' c0
    refine XK.skip ?_
    refine XK.seq ?_
    refine XK.seq ?_
    refine XK.region rfl ?_
    refine XO.q (Q.fieldAddr rfl) ?_
    refine XO.q (Q.ld rfl rfl) ?_
    refine XO.len rfl fun l22 => ?_
    refine XO.q (Q.fieldAddr rfl) ?_
    refine XO.q (Q.ld rfl rfl) ?_
    refine XO.q (Q.fieldAddr rfl) ?_
    refine XO.q (Q.ld rfl rfl) ?_
    refine XO.q (Q.mul rfl rfl ⟨by omega, by omega⟩) ?_
    refine XO.q (Q.fieldAddr rfl) ?_
    refine XO.q (Q.ld rfl rfl) ?_
    refine XO.q (Q.mul rfl rfl ⟨by omega, by omega⟩) ?_
    refine XO.q (Q.neq rfl rfl) ?_
    refine XO.q (Q.move rfl) ?_
    refine XO.q (Quiet.guardF rfl rfl fun g33 p33 => Q.fieldAddr rfl) ?_
    refine XO.q (Quiet.guardF rfl rfl fun g34 p34 => Q.ld (lzv g34 rfl) rfl) ?_
    refine XO.q (Quiet.guardF rfl rfl fun g35 p35 => Q.len (lzv g35 rfl)) ?_
    refine XO.q (Quiet.guardF rfl rfl fun g36 p36 => Q.fieldAddr rfl) ?_
    refine XO.q (Quiet.guardF rfl rfl fun g37 p37 => Q.ld (lzv g37 rfl) rfl) ?_
    refine XO.q (Quiet.guardF rfl rfl fun g38 p38 => Q.neq (lzv g38 rfl) (lzv g38 rfl)) ?_
    refine XO.q (Q.or rfl (fun hp => lzv hp rfl)) ?_
    refine XO.done ?_
    refine XK.if rfl (fun c1 => ?_) (fun c1 => ?_)
    · have _t1 := True.intro
      refine XK.seq ?_
      refine XK.region rfl ?_
      refine XO.q (Q.assign rfl) ?_
      refine XO.done ?_
      refine XK.rt [] Try.func41 Try.results41 (.t rfl .n) ?_
      exact ⟨by rw [gcheck, if_neg (by omega), if_pos (by omega)], rfl⟩
    · have _t1 := True.intro
      refine XK.skip ?_
      refine XK.seq ?_
      refine XK.seq ?_
      refine XK.region rfl ?_
      refine XO.q (Q.assign rfl) ?_
      refine XO.done ?_
      refine XK.block ?_
      refine XK.while (X := Nat) [2, 3, 40, 41, 42, 43, 44, 45, 46, 47, 48, 49, 50, 51, 52, 53, 54, 55, 56] (fun i => [(3, some (.int .i64 (i : Nat)))]) (fun i => []) (fun i => i ≤ g.next.length ∧ (g.next.take i).any (fun n => decide (n < -1) || decide (g.S ≤ n)) = false) (fun i => g.next.length - i) (0) [] rfl ⟨by omega, rfl⟩ (.c rfl (.base 0 rfl rfl)) ?_
      rintro i ⟨hi, ht⟩ ih0
      dsimp only [List.cons_append, List.nil_append] at ih0 ⊢
      refine XK.seq ?_
      refine XK.seq ?_
      refine XK.region rfl ?_
      refine XO.q (Q.move rfl) ?_
      refine XO.q (Q.fieldAddr rfl) ?_
      refine XO.q (Q.ld rfl rfl) ?_
      refine XO.len rfl fun l43 => ?_
      refine XO.q (Q.lss rfl rfl) ?_
      refine XO.done ?_
      refine XK.if rfl (fun c2 => ?_) (fun c2 => ?_)
      · have _t2 := True.intro
        refine XK.skip ?_
        refine XK.seq ?_
        refine XK.block ?_
        refine XK.seq ?_
        refine XK.drawn [0, 1, 2, 3, 4, 5, 6, 7, 9] [b1] [] (.q 0 (.q 1 (.q 2 (.q 3 (.q 4 (.q 5 (.q 6 (.q 7 (.br 8 true (.q 9 .done) .stop))))))))) Try.mixed rfl (by kernel_rfl) ?_
        refine XT.q rfl rfl (Q.fieldAddr rfl) ?_
        refine XT.q rfl rfl (Q.ld rfl rfl) ?_
        refine XT.q rfl rfl (Q.move rfl) ?_
        refine XT.ix rfl rfl rfl rfl (by omega) (by omega) fun i50 => ?_
        refine XT.q rfl rfl (Q.ldE rfl (by first | assumption | omega) rfl) ?_
        refine XT.q rfl rfl (Q.fieldAddr rfl) ?_
        refine XT.q rfl rfl (Q.ld rfl rfl) ?_
        refine XT.q rfl rfl (Q.sub rfl rfl ⟨by omega, by omega⟩) ?_
        refine XT.call rfl rfl Try.call44 rfl rfl rfl (refIn _ _ _) (fun v55 s55 R55 => ?_) XT.stop
        obtain ⟨rfl, rfl⟩ := R55
        dsimp only [List.cons_append, List.nil_append]
        refine ⟨inferInstance, ?_⟩
        refine XT.q rfl rfl (Q.not rfl) ?_
        refine XT.done ?_
        refine XK.if rfl (fun c3 => ?_) (fun c3 => ?_)
        · have _t3 := True.intro
          refine XK.seq ?_
          refine XK.region rfl ?_
          refine XO.q (Q.assign rfl) ?_
          refine XO.done ?_
          refine XK.rt [] Try.func41 Try.results41 (.t rfl .n) ?_
          exact ⟨by rw [gcheck, if_neg (by omega), if_neg (by omega), if_pos (List.any_eq_true.2 ⟨_, getD_mem (by omega), by simp only [Bool.or_eq_true, decide_eq_true_eq]; omega⟩)], rfl⟩
        · have _t3 := True.intro
          refine XK.skip ?_
          refine XK.inBlock ?_
          refine XK.region rfl ?_
          refine XO.q (Q.move rfl) ?_
          refine XO.q (Q.add rfl rfl ⟨by omega, by omega⟩) ?_
          refine XO.q (Q.assign rfl) ?_
          refine XO.done ?_
          exact ih0 (i + 1) _ _ ⟨by omega, any_step ht (by omega) (by simp only [Bool.or_eq_false_iff, decide_eq_false_iff_not]; omega)⟩ (by first | omega | (dsimp only; omega)) (.c rfl (.base 38 rfl rfl)) inferInstance
      · have _t2 := True.intro
        refine XK.exit rfl ?_
        refine XK.seq ?_
        refine XK.region rfl ?_
        refine XO.q (Q.assign rfl) ?_
        refine XO.done ?_
        refine XK.rt [] Try.func41 Try.results41 (.t rfl .n) ?_
        exact ⟨by rw [List.take_of_length_le (by omega)] at ht; rw [gcheck, if_neg (by omega), if_neg (by omega), if_neg (by rw [ht]; simp)], rfl⟩
theorem refLeads (S C K : Nat) (next : List Int) (good : List Bool) (ok : Ok S C K next good) (vn vg : Value) (hn : PHeap) [sn : Arr vn encI 1 hn next] (s u w : Nat) (hs : s < S) (hu : u < C) (hw : w < K) : Spec Try.prog 42 #[.agg #[.int .i64 (S : Nat), .int .i64 (C : Nat), .int .i64 (K : Nat), vn, vg], .int .i64 (s : Nat), .int .i64 (u : Nat), .int .i64 (w : Nat)] [] [hn]
    (fun v hs => v = .int .i64 (next.getD ((s * C + u) * K + w) 0) ∧ hs = []) := by
  have hb := ok.sc
  have hl := lead_le (K := K) hs hu
  have hlen := ok.len
  have hz := lead_int s u C K
  refine Spec.intro (fn := Try.f42) (N := 24) Try.func42 rfl Try.ntmps42 rfl fun B => ?_
  refine XK.seq ?_
  refine XK.region rfl ?_
  refine XO.box rfl fun b4 => ?_
  refine XO.q (Q.assign rfl) ?_
  refine XO.done ?_
  refine XK.seq ?_
  refine XK.region rfl ?_
  refine XO.q (Q.fieldAddr rfl) ?_
  refine XO.q (Q.ld rfl rfl) ?_
  refine XO.q (Q.move rfl) ?_
  refine XO.q (Q.fieldAddr rfl) ?_
  refine XO.q (Q.ld rfl rfl) ?_
  refine XO.q (Q.mul rfl rfl ⟨by omega, by omega⟩) ?_
  refine XO.q (Q.move rfl) ?_
  refine XO.q (Q.add rfl rfl ⟨by omega, by omega⟩) ?_
  refine XO.q (Q.fieldAddr rfl) ?_
  refine XO.q (Q.ld rfl rfl) ?_
  refine XO.q (Q.mul rfl rfl ⟨by omega, by omega⟩) ?_
  refine XO.q (Q.move rfl) ?_
  refine XO.q (Q.add rfl rfl ⟨by omega, by omega⟩) ?_
  refine XO.ix rfl rfl (by omega) (by omega) fun i22 => ?_
  refine XO.q (Q.ldE rfl (by first | assumption | omega) rfl) ?_
  refine XO.q (Q.assign rfl) ?_
  refine XO.done ?_
  refine XK.rt [] Try.func42 Try.results42 (.t rfl .n) ?_
  exact ⟨rfl, rfl⟩
theorem copyTruths (v : Value) (h : PHeap) (xs : List Bool) [s : Arr v encB 1 h xs] (hl : xs.length ≤ 68719476736) :
    Spec Try.prog 45 #[v] [] [h] (fun v' hs => ∃ h', hs = [h'] ∧ OArr v' encB 1 4 h' xs) := by
  have hnil : OArr (.slice none 0 0) encB 1 4 emp ([] : List Bool) := OArr.nil (fun _ => rfl)
  refine Spec.intro (fn := Try.f45) (N := 7) Try.func45 rfl Try.ntmps45 rfl fun B => ?_
  refine XK.seq ?_
  refine XK.region rfl ?_
  refine XO.q (Q.assign rfl) ?_
  refine XO.done ?_
  refine XK.seq ?_
  refine XK.region rfl ?_
  refine XO.q (Q.assign rfl) ?_
  refine XO.done ?_
  refine XK.seq ?_
  refine XK.region rfl ?_
  refine XO.q (Q.move rfl) ?_
  refine XO.q (Q.move rfl) ?_
  refine XO.drop (o' := [emp]) ?_
  refine XO.append rfl rfl rfl rfl (by simp; omega) fun v6 h6 O6 => ?_
  refine XO.q (Q.assign rfl) ?_
  refine XO.done ?_
  refine XK.rt [h6] Try.func45 Try.results45 (.t rfl .n) ?_
  exact ⟨h6, rfl, by simpa using O6⟩
theorem copyInts (v : Value) (h : PHeap) (xs : List Int) [s : Arr v encI 1 h xs] (hl : xs.length ≤ 68719476736) :
    Spec Try.prog 71 #[v] [] [h] (fun v' hs => ∃ h', hs = [h'] ∧ OArr v' encI 1 3 h' xs) := by
  have hnil : OArr (.slice none 0 0) encI 1 3 emp ([] : List Int) := OArr.nil (fun _ => rfl)
  refine Spec.intro (fn := Try.f71) (N := 7) Try.func71 rfl Try.ntmps71 rfl fun B => ?_
  refine XK.seq ?_
  refine XK.region rfl ?_
  refine XO.q (Q.assign rfl) ?_
  refine XO.done ?_
  refine XK.seq ?_
  refine XK.region rfl ?_
  refine XO.q (Q.assign rfl) ?_
  refine XO.done ?_
  refine XK.seq ?_
  refine XK.region rfl ?_
  refine XO.q (Q.move rfl) ?_
  refine XO.q (Q.move rfl) ?_
  refine XO.drop (o' := [emp]) ?_
  refine XO.append rfl rfl rfl rfl (by simp; omega) fun v6 h6 O6 => ?_
  refine XO.q (Q.assign rfl) ?_
  refine XO.done ?_
  refine XK.rt [h6] Try.func71 Try.results71 (.t rfl .n) ?_
  exact ⟨h6, rfl, by simpa using O6⟩
theorem large (g : G) (vn vg : Value) (hn hg : PHeap) [sn : Arr vn encI 1 hn g.next] [sg : Arr vg encB 1 hg g.good] : Spec Try.prog 10 #[.agg #[.int .i64 g.S, .int .i64 g.C, .int .i64 g.K, vn, vg]] [] [hn, hg] (fun v hs => v = .bool (decide (3000 < (g.next.length : Int)) || decide (500 < (g.good.length : Int))) ∧ hs = []) := by
  refine Spec.intro (fn := Try.f10) (N := 13) Try.func10 rfl Try.ntmps10 rfl fun B => ?_
  refine XK.seq ?_
  refine XK.region rfl ?_
  refine XO.box rfl fun b1 => ?_
  refine XO.q (Q.assign rfl) ?_
  refine XO.done ?_
  refine XK.seq ?_
  refine XK.region rfl ?_
  refine XO.q (Q.fieldAddr rfl) ?_
  refine XO.q (Q.ld rfl rfl) ?_
  refine XO.len rfl fun l5 => ?_
  refine XO.q (Q.gtr rfl rfl) ?_
  refine XO.q (Q.move rfl) ?_
  refine XO.q (Quiet.guardF rfl rfl fun g8 p8 => Q.fieldAddr rfl) ?_
  refine XO.q (Quiet.guardF rfl rfl fun g9 p9 => Q.ld (lzv g9 rfl) rfl) ?_
  refine XO.q (Quiet.guardF rfl rfl fun g10 p10 => Q.len (lzv g10 rfl)) ?_
  refine XO.q (Quiet.guardF rfl rfl fun g11 p11 => Q.gtr (lzv g11 rfl) rfl) ?_
  refine XO.q (Q.or rfl (fun hp => lzv hp rfl)) ?_
  refine XO.q (Q.assign rfl) ?_
  refine XO.done ?_
  refine XK.rt [] Try.func10 Try.results10 (.t rfl .n) ?_
  exact ⟨rfl, rfl⟩
theorem copied (g : G) (vn vg : Value) (hn hg : PHeap) [sn : Arr vn encI 1 hn g.next] [sg : Arr vg encB 1 hg g.good] (h1 : g.next.length ≤ 68719476736) (h2 : g.good.length ≤ 68719476736) : Spec Try.prog 12 #[.agg #[.int .i64 g.S, .int .i64 g.C, .int .i64 g.K, vn, vg]] [] [hn, hg]
    (fun v hs => ∃ v1 v2 v3 v4 k1 k2 k3 k4, v = .tuple #[.agg #[.int .i64 g.S, .int .i64 g.C, .int .i64 g.K, v1, v2], .agg #[.int .i64 g.S, .int .i64 g.C, .int .i64 g.K, v3, v4]] ∧ hs = [k1, k2, k3, k4] ∧
      OArr v1 encI 1 3 k1 g.next ∧ OArr v2 encB 1 4 k2 g.good ∧ OArr v3 encI 1 3 k3 g.next ∧ OArr v4 encB 1 4 k4 g.good) := by
  refine Spec.intro (fn := Try.f12) (N := 30) Try.func12 rfl Try.ntmps12 rfl fun B => ?_
  refine XK.seq ?_
  refine XK.region rfl ?_
  refine XO.box rfl fun b1 => ?_
  refine XO.alloc fun b2 => ?_
  refine XO.alloc fun b3 => ?_
  refine XO.done ?_
  refine XK.seq ?_
  refine XK.drawn [0, 1, 2, 3, 4, 5, 6, 7, 9, 10, 13, 14, 15, 16, 17, 18, 19, 20, 22, 23, 12, 25] [b1] [] (.q 0 (.q 1 (.q 2 (.q 3 (.q 4 (.q 5 (.q 6 (.q 7 (.q 9 (.q 10 (.q 13 (.q 14 (.q 15 (.q 16 (.q 17 (.q 18 (.q 19 (.q 20 (.q 22 (.q 23 (.br 8 true (.br 11 true (.q 12 (.br 21 true (.br 24 true (.q 25 (.br 26 true (.br 27 false .done .stop) .stop)) .stop) .stop)) .stop) .stop))))))))))))))))))))) Try.mixed rfl (by kernel_rfl) ?_
  refine XT.q rfl rfl (Q.fieldAddr rfl) ?_
  refine XT.q rfl rfl (Q.ld rfl rfl) ?_
  refine XT.q rfl rfl (Q.fieldAddr rfl) ?_
  refine XT.q rfl rfl (Q.ld rfl rfl) ?_
  refine XT.q rfl rfl (Q.fieldAddr rfl) ?_
  refine XT.q rfl rfl (Q.ld rfl rfl) ?_
  refine XT.q rfl rfl (Q.fieldAddr rfl) ?_
  refine XT.q rfl rfl (Q.ld rfl rfl) ?_
  refine XT.q rfl rfl (Q.fieldAddr rfl) ?_
  refine XT.q rfl rfl (Q.ld rfl rfl) ?_
  refine XT.q rfl rfl (Q.fieldAddr rfl) ?_
  refine XT.q rfl rfl (Q.ld rfl rfl) ?_
  refine XT.q rfl rfl (Q.fieldAddr rfl) ?_
  refine XT.q rfl rfl (Q.ld rfl rfl) ?_
  refine XT.q rfl rfl (Q.fieldAddr rfl) ?_
  refine XT.q rfl rfl (Q.ld rfl rfl) ?_
  refine XT.q rfl rfl (Q.fieldAddr rfl) ?_
  refine XT.q rfl rfl (Q.ld rfl rfl) ?_
  refine XT.q rfl rfl (Q.fieldAddr rfl) ?_
  refine XT.q rfl rfl (Q.ld rfl rfl) ?_
  refine XT.call rfl rfl Try.call25 rfl rfl rfl (cloneI _ _ _ (by omega)) (fun v12 s12 R12 => ?_) XT.stop
  obtain ⟨h12, rfl, O12⟩ := R12
  dsimp only [List.cons_append, List.nil_append]
  refine ⟨inferInstance, ?_⟩
  refine XT.call rfl rfl Try.call24 rfl rfl rfl (cloneB _ _ _ (by omega)) (fun v15 s15 R15 => ?_) XT.stop
  obtain ⟨h15, rfl, O15⟩ := R15
  dsimp only [List.cons_append, List.nil_append]
  refine ⟨inferInstance, ?_⟩
  refine XT.q rfl rfl (Q.build [_, _, _, _, _] (.c 0 1 rfl rfl rfl (.c 1 1 rfl rfl rfl (.c 2 1 rfl rfl rfl (.c 3 1 rfl rfl rfl (.c 4 1 rfl rfl rfl (.n _))))))) ?_
  refine XT.call rfl rfl Try.call25 rfl rfl rfl (cloneI _ _ _ (by omega)) (fun v25 s25 R25 => ?_) XT.stop
  obtain ⟨h25, rfl, O25⟩ := R25
  dsimp only [List.cons_append, List.nil_append]
  refine ⟨inferInstance, ?_⟩
  refine XT.call rfl rfl Try.call24 rfl rfl rfl (cloneB _ _ _ (by omega)) (fun v28 s28 R28 => ?_) XT.stop
  obtain ⟨h28, rfl, O28⟩ := R28
  dsimp only [List.cons_append, List.nil_append]
  refine ⟨inferInstance, ?_⟩
  refine XT.q rfl rfl (Q.build [_, _, _, _, _] (.c 0 1 rfl rfl rfl (.c 1 1 rfl rfl rfl (.c 2 1 rfl rfl rfl (.c 3 1 rfl rfl rfl (.c 4 1 rfl rfl rfl (.n _))))))) ?_
  refine XT.st rfl rfl rfl rfl rfl ⟨inferInstance, ?_⟩ XT.stop
  refine XT.st rfl rfl rfl rfl rfl ⟨inferInstance, ?_⟩ XT.stop
  refine XT.done ?_
  refine XK.rt [h12, h15, h25, h28] Try.func12 Try.results12 (.cell [_, _, _, _, _] rfl rfl rfl (.cell [_, _, _, _, _] rfl rfl rfl (.n))) ?_
  exact ⟨v12, v15, v25, v28, h12, h15, h25, h28, rfl, rfl, O12, O15, O25, O28⟩
def sameG (a b : G) : Bool := decide (a.S = b.S) && decide (a.C = b.C) && decide (a.K = b.K) && decide (a.next = b.next) && decide (a.good = b.good)
theorem alike (a b : G) (vn vg wn wg : Value) (hn hg kn kg : PHeap) [sn : Arr vn encI 1 hn a.next] [sg : Arr vg encB 1 hg a.good] [tn : Arr wn encI 1 kn b.next] [tg : Arr wg encB 1 kg b.good] : Spec Try.prog 15 #[.agg #[.int .i64 a.S, .int .i64 a.C, .int .i64 a.K, vn, vg], .agg #[.int .i64 b.S, .int .i64 b.C, .int .i64 b.K, wn, wg]] [] [hn, hg, kn, kg] (fun v hs => v = .bool (sameG a b) ∧ hs = []) := by
  refine Spec.intro (fn := Try.f15) (N := 38) Try.func15 rfl Try.ntmps15 rfl fun B => ?_
  refine XK.seq ?_
  refine XK.region rfl ?_
  refine XO.box rfl fun b2 => ?_
  refine XO.box rfl fun b3 => ?_
  refine XO.q (Q.assign rfl) ?_
  refine XO.done ?_
  refine XK.seq ?_
  refine XK.region rfl ?_
  refine XO.q (Q.fieldAddr rfl) ?_
  refine XO.q (Q.ld rfl rfl) ?_
  refine XO.q (Q.fieldAddr rfl) ?_
  refine XO.q (Q.ld rfl rfl) ?_
  refine XO.q (Q.eql rfl rfl) ?_
  refine XO.q (Q.move rfl) ?_
  refine XO.q (Quiet.guardT rfl rfl fun g11 p11 => Q.fieldAddr rfl) ?_
  refine XO.q (Quiet.guardT rfl rfl fun g12 p12 => Q.ld (lzv g12 rfl) rfl) ?_
  refine XO.q (Quiet.guardT rfl rfl fun g13 p13 => Q.fieldAddr rfl) ?_
  refine XO.q (Quiet.guardT rfl rfl fun g14 p14 => Q.ld (lzv g14 rfl) rfl) ?_
  refine XO.q (Quiet.guardT rfl rfl fun g15 p15 => Q.eql (lzv g15 rfl) (lzv g15 rfl)) ?_
  refine XO.q (Q.and rfl (fun hp => lzv hp rfl)) ?_
  refine XO.q (Q.move rfl) ?_
  refine XO.q (Quiet.guardT rfl rfl fun g18 p18 => Q.fieldAddr rfl) ?_
  refine XO.q (Quiet.guardT rfl rfl fun g19 p19 => Q.ld (lzv g19 rfl) rfl) ?_
  refine XO.q (Quiet.guardT rfl rfl fun g20 p20 => Q.fieldAddr rfl) ?_
  refine XO.q (Quiet.guardT rfl rfl fun g21 p21 => Q.ld (lzv g21 rfl) rfl) ?_
  refine XO.q (Quiet.guardT rfl rfl fun g22 p22 => Q.eql (lzv g22 rfl) (lzv g22 rfl)) ?_
  refine XO.q (Q.and rfl (fun hp => lzv hp rfl)) ?_
  refine XO.q (Q.move rfl) ?_
  refine XO.q (Quiet.guardT rfl rfl fun g25 p25 => Q.fieldAddr rfl) ?_
  refine XO.q (Quiet.guardT rfl rfl fun g26 p26 => Q.ld (lzv g26 rfl) rfl) ?_
  refine XO.q (Quiet.guardT rfl rfl fun g27 p27 => Q.fieldAddr rfl) ?_
  refine XO.q (Quiet.guardT rfl rfl fun g28 p28 => Q.ld (lzv g28 rfl) rfl) ?_
  refine XO.gcallT rfl rfl Try.call37 rfl (fun g29 => .c (lzv g29 rfl) (.c (lzv g29 rfl) .n)) rfl (fun g29 p29 => equalI _ _ _ _ _ _) ?_
  refine XO.q (Q.and rfl (fun hp => lzv hp rfl)) ?_
  refine XO.q (Q.move rfl) ?_
  refine XO.q (Quiet.guardT rfl rfl fun g32 p32 => Q.fieldAddr rfl) ?_
  refine XO.q (Quiet.guardT rfl rfl fun g33 p33 => Q.ld (lzv g33 rfl) rfl) ?_
  refine XO.q (Quiet.guardT rfl rfl fun g34 p34 => Q.fieldAddr rfl) ?_
  refine XO.q (Quiet.guardT rfl rfl fun g35 p35 => Q.ld (lzv g35 rfl) rfl) ?_
  refine XO.gcallT rfl rfl Try.call27 rfl (fun g36 => .c (lzv g36 rfl) (.c (lzv g36 rfl) .n)) rfl (fun g36 p36 => equalB _ _ _ _ _ _) ?_
  refine XO.q (Q.and rfl (fun hp => lzv hp rfl)) ?_
  refine XO.q (Q.assign rfl) ?_
  refine XO.done ?_
  refine XK.rt [] Try.func15 Try.results15 (.t rfl .n) ?_
  exact ⟨rfl, rfl⟩
theorem kept (a b : G) (vn vg wn wg : Value) (hn hg kn kg : PHeap) [sn : Arr vn encI 1 hn a.next] [sg : Arr vg encB 1 hg a.good] [tn : Arr wn encI 1 kn b.next] [tg : Arr wg encB 1 kg b.good] : Spec Try.prog 18 #[.agg #[.int .i64 a.S, .int .i64 a.C, .int .i64 a.K, vn, vg], .agg #[.int .i64 b.S, .int .i64 b.C, .int .i64 b.K, wn, wg]] [] [hn, hg, kn, kg] (fun v hs => v = .bool (sameG a b) ∧ hs = []) := by
  refine Spec.intro (fn := Try.f18) (N := 38) Try.func18 rfl Try.ntmps18 rfl fun B => ?_
  refine XK.seq ?_
  refine XK.region rfl ?_
  refine XO.box rfl fun b2 => ?_
  refine XO.box rfl fun b3 => ?_
  refine XO.q (Q.assign rfl) ?_
  refine XO.done ?_
  refine XK.seq ?_
  refine XK.region rfl ?_
  refine XO.q (Q.fieldAddr rfl) ?_
  refine XO.q (Q.ld rfl rfl) ?_
  refine XO.q (Q.fieldAddr rfl) ?_
  refine XO.q (Q.ld rfl rfl) ?_
  refine XO.q (Q.eql rfl rfl) ?_
  refine XO.q (Q.move rfl) ?_
  refine XO.q (Quiet.guardT rfl rfl fun g11 p11 => Q.fieldAddr rfl) ?_
  refine XO.q (Quiet.guardT rfl rfl fun g12 p12 => Q.ld (lzv g12 rfl) rfl) ?_
  refine XO.q (Quiet.guardT rfl rfl fun g13 p13 => Q.fieldAddr rfl) ?_
  refine XO.q (Quiet.guardT rfl rfl fun g14 p14 => Q.ld (lzv g14 rfl) rfl) ?_
  refine XO.q (Quiet.guardT rfl rfl fun g15 p15 => Q.eql (lzv g15 rfl) (lzv g15 rfl)) ?_
  refine XO.q (Q.and rfl (fun hp => lzv hp rfl)) ?_
  refine XO.q (Q.move rfl) ?_
  refine XO.q (Quiet.guardT rfl rfl fun g18 p18 => Q.fieldAddr rfl) ?_
  refine XO.q (Quiet.guardT rfl rfl fun g19 p19 => Q.ld (lzv g19 rfl) rfl) ?_
  refine XO.q (Quiet.guardT rfl rfl fun g20 p20 => Q.fieldAddr rfl) ?_
  refine XO.q (Quiet.guardT rfl rfl fun g21 p21 => Q.ld (lzv g21 rfl) rfl) ?_
  refine XO.q (Quiet.guardT rfl rfl fun g22 p22 => Q.eql (lzv g22 rfl) (lzv g22 rfl)) ?_
  refine XO.q (Q.and rfl (fun hp => lzv hp rfl)) ?_
  refine XO.q (Q.move rfl) ?_
  refine XO.q (Quiet.guardT rfl rfl fun g25 p25 => Q.fieldAddr rfl) ?_
  refine XO.q (Quiet.guardT rfl rfl fun g26 p26 => Q.ld (lzv g26 rfl) rfl) ?_
  refine XO.q (Quiet.guardT rfl rfl fun g27 p27 => Q.fieldAddr rfl) ?_
  refine XO.q (Quiet.guardT rfl rfl fun g28 p28 => Q.ld (lzv g28 rfl) rfl) ?_
  refine XO.gcallT rfl rfl Try.call37 rfl (fun g29 => .c (lzv g29 rfl) (.c (lzv g29 rfl) .n)) rfl (fun g29 p29 => equalI _ _ _ _ _ _) ?_
  refine XO.q (Q.and rfl (fun hp => lzv hp rfl)) ?_
  refine XO.q (Q.move rfl) ?_
  refine XO.q (Quiet.guardT rfl rfl fun g32 p32 => Q.fieldAddr rfl) ?_
  refine XO.q (Quiet.guardT rfl rfl fun g33 p33 => Q.ld (lzv g33 rfl) rfl) ?_
  refine XO.q (Quiet.guardT rfl rfl fun g34 p34 => Q.fieldAddr rfl) ?_
  refine XO.q (Quiet.guardT rfl rfl fun g35 p35 => Q.ld (lzv g35 rfl) rfl) ?_
  refine XO.gcallT rfl rfl Try.call27 rfl (fun g36 => .c (lzv g36 rfl) (.c (lzv g36 rfl) .n)) rfl (fun g36 p36 => equalB _ _ _ _ _ _) ?_
  refine XO.q (Q.and rfl (fun hp => lzv hp rfl)) ?_
  refine XO.q (Q.assign rfl) ?_
  refine XO.done ?_
  refine XK.rt [] Try.func18 Try.results18 (.t rfl .n) ?_
  exact ⟨rfl, rfl⟩
end Go.X
