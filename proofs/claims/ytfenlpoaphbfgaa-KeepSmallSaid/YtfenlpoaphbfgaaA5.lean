/- A part of the proof: a small program logic, plain laws and contracts of functions, each proved by a walk through its operations. No condition but those that stand in each theorem. -/
import Derived.Test.YtfenlpoaphbfgaaA4
set_option linter.unusedSimpArgs false
set_option linter.unusedVariables false
set_option maxRecDepth 20000
namespace Go.X
open Go.Proofs
theorem outside_no {m : Int} {l : List Int} (h : ∀ x ∈ l, 0 ≤ x ∧ x < m) : outside m l = false := by
  unfold outside
  rw [List.any_eq_false]
  intro x hx
  have := h x hx
  simp only [Bool.or_eq_true, decide_eq_true_eq, not_or]
  omega
theorem outside_cons {m : Int} {l : List Int} (x : Int) (h : outside m l = false) (hx : 0 ≤ x ∧ x < m) : outside m (l ++ [x]) = false := by
  unfold outside at *
  rw [List.any_append, h]
  simp only [List.any_cons, List.any_nil, Bool.or_false, Bool.false_or, Bool.or_eq_false_iff, decide_eq_false_iff_not]
  omega
theorem lawLeadsI (S C K : Nat) (next : List Int) (good : List Bool) (ok : Ok S C K next good) (vn vg : Value) (hn : PHeap) [sn : Arr vn encI 1 hn next] [oc : One vg] (s u w : Int) (hs : 0 ≤ s) (hs' : s < S) (hu : 0 ≤ u) (hu' : u < C) (hw : 0 ≤ w) (hw' : w < K) : Spec Try.prog 23 #[.agg #[.int .i64 (S : Nat), .int .i64 (C : Nat), .int .i64 (K : Nat), vn, vg], .int .i64 s, .int .i64 u, .int .i64 w] [] [hn]
    (fun v hs => v = .int .i64 (leadAt next C K s u w) ∧ hs = []) := by
  obtain ⟨s, rfl⟩ := Int.eq_ofNat_of_zero_le hs
  obtain ⟨u, rfl⟩ := Int.eq_ofNat_of_zero_le hu
  obtain ⟨w, rfl⟩ := Int.eq_ofNat_of_zero_le hw
  exact lawLeads S C K next good ok vn vg hn s u w (by omega) (by omega) (by omega)
set_option maxHeartbeats 4000000 in
theorem KeepPlays_spec (vl : Value) (hl : PHeap) (l : List UInt8) [sl : Arr vl encU8 1 hl l] (c : Nat) (hc : c < 256) (vd : Value) (hd : PHeap) (dl : List UInt8) [sd : Arr vd encU8 1 hd dl] :
    Spec Try.prog 8 #[vl, .int .u8 (c : Nat), vd] [] [hl, hd] (fun v hs => v = .bool true ∧ hs = []) := by
  have hnil : OArr (.slice none 0 0) encI 1 3 emp ([] : List Int) := OArr.nil (fun _ => rfl)
  refine Spec.intro (fn := Try.f8) (N := 255) Try.func8 rfl Try.ntmps8 rfl fun B => ?_
  refine XK.seq ?_
  refine XK.region rfl ?_
  refine XO.q (Q.assign rfl) ?_
  refine XO.done ?_
  refine XK.seq ?_
  refine XK.region rfl ?_
  refine XO.q (Q.move rfl) ?_
  refine XO.call Try.call19 rfl rfl rfl (made_spec vl hl l) fun v23 s23 R23 => ?_
  obtain ⟨ga, va, wa, ka, la, rfl, rfl, ONa, OGa, ca⟩ := R23
  dsimp only [List.cons_append, List.nil_append]
  obtain ⟨Sa, Ca, Ka, hSa, hCa, hKa, oka⟩ := gcheck_ok ca
  obtain ⟨gSa, gCa, gKa, na, da⟩ := ga
  dsimp only at hSa hCa hKa oka ONa OGa ⊢
  subst hSa hCa hKa
  have has1 := oka.s1
  have has2 := oka.s2
  have hac1 := oka.c1
  have hac2 := oka.c2
  have hak1 := oka.k1
  have hak2 := oka.k2
  have hal := solveG_len oka
  refine XO.alloc fun b7 => ?_
  refine XO.st rfl rfl rfl ?_
  refine XO.done ?_
  refine XK.seq ?_
  refine XK.region rfl ?_
  refine XO.q (Q.ldA [_, _, _, _, _] rfl rfl rfl) ?_
  refine XO.call Try.call20 rfl rfl rfl (Solve_spec (mkG Sa Ca Ka na da) va wa ka la) fun v26 s26 R26 => ?_
  obtain ⟨p26, q26, r26, kp26, kq26, kr26, rfl, rfl, OP26, OQ26, OR26⟩ := R26
  dsimp only [List.cons_append, List.nil_append]
  rw [gcheck_mk oka]
  rw [solveG_mk oka] at OP26 OQ26 OR26
  obtain ⟨rI, rC, rK, rr⟩ := solved_right oka
  have rv := solved_verify oka
  have hag := oka.glen
  have rkb := solved_rank (S := Sa) (C := Ca) (K := Ka) (next := na) oka.glen
  obtain ⟨I, eI⟩ : ∃ I, I = (solved Sa Ca Ka na da).1 := ⟨_, rfl⟩
  obtain ⟨Ct, eC⟩ : ∃ Ct, Ct = (solved Sa Ca Ka na da).2.1 := ⟨_, rfl⟩
  obtain ⟨Rk, eR⟩ : ∃ Rk, Rk = (solved Sa Ca Ka na da).2.2 := ⟨_, rfl⟩
  simp only [← eI, ← eC, ← eR] at OP26 OQ26 OR26 rI rC rK rr rv rkb
  clear eI eC eR hal ca
  refine XO.q (Q.move rfl) ?_
  refine XO.q (Q.extract rfl rfl) ?_
  refine XO.q (Q.extract rfl rfl) ?_
  refine XO.alloc fun b8 => ?_
  refine XO.st rfl rfl rfl ?_
  refine XO.q (Q.assign rfl) ?_
  refine XO.done ?_
  refine XK.seq ?_
  refine XK.region rfl ?_
  refine XO.q (Q.move rfl) ?_
  refine XO.q (Q.conv rfl) ?_
  rw [wrap64_of ⟨by omega, by omega⟩]
  refine XO.q (Q.fieldAddr rfl) ?_
  refine XO.q (Q.ld rfl rfl) ?_
  refine XO.q (Q.rem rfl rfl (by omega) (by omega)) ?_
  rw [show ((c : Int) % (Sa : Int)) = ((c % Sa : Nat) : Int) from rfl]
  obtain ⟨s0, es0⟩ : ∃ s0, s0 = c % Sa := ⟨_, rfl⟩
  have hs0 : s0 < Sa := by rw [es0]; exact Nat.mod_lt _ (by omega)
  rw [← es0]
  refine XO.q (Q.assign rfl) ?_
  refine XO.done ?_
  refine XK.seq ?_
  refine XK.seq ?_
  refine XK.region rfl ?_
  refine XO.q (Q.move rfl) ?_
  refine XO.q (Q.neq rfl rfl) ?_
  refine XO.q (Q.move rfl) ?_
  refine XO.q (Quiet.guardF rfl rfl fun g37 p37 => Q.fieldAddr rfl) ?_
  refine XO.q (Quiet.guardF rfl rfl fun g38 p38 => Q.ld (lzv g38 rfl) rfl) ?_
  refine XO.q (Quiet.guardF rfl rfl fun g39 p39 => Q.len (lzv g39 rfl)) ?_
  refine XO.q (Quiet.guardF rfl rfl fun g40 p40 => Q.fieldAddr rfl) ?_
  refine XO.q (Quiet.guardF rfl rfl fun g41 p41 => Q.ld (lzv g41 rfl) rfl) ?_
  refine XO.q (Quiet.guardF rfl rfl fun g42 p42 => Q.neq (lzv g42 rfl) (lzv g42 rfl)) ?_
  refine XO.q (Q.or rfl (fun hp => lzv hp rfl)) ?_
  refine XO.done ?_
  refine XK.if rfl (fun c0 => ?_) (fun c0 => ?_)
  · have _t0 := True.intro
    rw [rI] at c0
    simp at c0
  · have _t0 := True.intro
    refine XK.skip ?_
    refine XK.seq ?_
    refine XK.region rfl ?_
    refine XO.q (Q.move rfl) ?_
    refine XO.q (Q.build [_, _] (.c 0 1 rfl rfl rfl (.n _))) ?_
    refine XO.box rfl fun b46 => ?_
    refine XO.q (Q.assign rfl) ?_
    refine XO.done ?_
    refine XK.seq ?_
    refine XK.seq ?_
    refine XK.region rfl ?_
    refine XO.q (Q.fieldAddr rfl) ?_
    refine XO.q (Q.ld rfl rfl) ?_
    refine XO.q (Q.move rfl) ?_
    refine XO.ix rfl rfl (by omega) (by omega) fun i50 => ?_
    refine XO.q (Q.ldE rfl (by first | assumption | omega) rfl) ?_
    refine XO.done ?_
    refine XK.if rfl (fun c1 => ?_) (fun c1 => ?_)
    · have _t1 := True.intro
      refine XK.seq ?_
      refine XK.region rfl ?_
      refine XO.q (Q.assign rfl) ?_
      refine XO.done ?_
      refine XK.seq ?_
      refine XK.seq ?_
      refine XK.region rfl ?_
      refine XO.q (Q.move rfl) ?_
      refine XO.done ?_
      refine XK.block ?_
      refine XK.while (X := Nat × Value × PHeap × List Int) [12, 52, 53, 54, 55, 56, 57, 58, 59, 60, 61] (fun ⟨i, vS, hS, sh⟩ => [(52, some (.int .i64 (i : Nat))), (12, some (vS))]) (fun ⟨i, vS, hS, sh⟩ => [blk b46 [vd, .int .i64 ((i : Nat) : Int)] 54, hS]) (fun ⟨i, vS, hS, sh⟩ => i ≤ 40 ∧ sh.length = i ∧ outside (Ka : Int) sh = false ∧ OArr vS encI 1 3 hS sh) (fun ⟨i, vS, hS, sh⟩ => 40 - i) (0, .slice none 0 0, emp, []) [blk b46 [vd, .int .i64 ((0 : Nat) : Int)] 54, emp] rfl ⟨by omega, rfl, rfl, hnil⟩ (.c rfl (.c rfl (.base 0 rfl rfl))) ?_
      rintro ⟨i, vS, hS, sh⟩ ⟨hi, hsl, ho2, OS⟩ ih0
      dsimp only [List.cons_append, List.nil_append] at ih0 ⊢
      refine XK.seq ?_
      refine XK.region rfl ?_
      refine XO.q (Q.lss rfl rfl) ?_
      refine XO.done ?_
      refine XK.seq ?_
      refine XK.if rfl (fun c2 => ?_) (fun c2 => ?_)
      · have _t2 := True.intro
        refine XK.skip ?_
        refine XK.seq ?_
        refine XK.block ?_
        refine XK.region rfl ?_
        refine XO.q (Q.move rfl) ?_
        refine XO.q (Q.move rfl) ?_
        refine XO.q (Q.fieldAddr rfl) ?_
        refine XO.q (Q.ld rfl rfl) ?_
        refine XO.callB b46 Try.call26 rfl rfl rfl (next_spec b46 vd hd dl (i) (Ka) (by omega) (by omega) (by omega)) fun v58 s58 R58 => ?_
        obtain ⟨rfl, n58, rfl, h58⟩ := R58
        dsimp only [List.cons_append, List.nil_append]
        refine XO.lit [_] [_] [_] encI (by rfl) (by rfl) rfl (by rfl) (by exact .c 0 1 rfl rfl rfl (.n _)) (fun _ => rfl) (by rfl) rfl (by infer_instance) rfl fun v59 h59 O59 => ?_
        refine XO.append rfl rfl rfl rfl (by simp only [List.length_cons, List.length_nil]; omega) fun v60 h60 O60 => ?_
        refine XO.q (Q.assign rfl) ?_
        refine XO.done ?_
        refine XK.inBlock ?_
        refine XK.region rfl ?_
        refine XO.q (Q.add rfl rfl ⟨by omega, by omega⟩) ?_
        refine XO.q (Q.move rfl) ?_
        refine XO.done ?_
        exact ih0 (i + 1, v60, h60, sh ++ [(n58 : Int)]) _ _ ⟨by omega, by simp only [List.length_append, List.length_cons, List.length_nil]; omega, outside_cons _ ho2 ⟨by omega, by omega⟩, O60⟩ (by first | omega | (dsimp only; omega)) (.c rfl (.c rfl (.base 24 rfl rfl))) inferInstance
      · have _t2 := True.intro
        have hsl40 : sh.length = 40 := by omega
        clear ih0 hi c2
        refine XK.exit rfl ?_
        refine XK.seq ?_
        refine XK.region rfl ?_
        refine XO.q (Q.ldA [_, _, _, _, _] rfl rfl rfl) ?_
        refine XO.q (Q.ldA [_, _, _] rfl rfl rfl) ?_
        refine XO.q (Q.move rfl) ?_
        refine XO.q (Q.move rfl) ?_
        have hp : playG (mkG Sa Ca Ka na da) I Ct Rk (s0 : Nat) sh = (playL na Ca Ka Ct (s0 : Nat) sh, 0) := by
          rw [playG, if_neg (by rw [rv]; simp), if_neg (by rw [ho2, outside_no (m := (Sa : Int)) (l := [(s0 : Int)]) (fun x hx => by simp at hx; omega)]; simp), if_neg (by omega), if_neg (by simpa using c1)]
          simp only [Int.toNat_natCast]
        refine XO.call Try.call30 rfl rfl rfl (Play_spec (mkG Sa Ca Ka na da) va wa ka la p26 q26 r26 kp26 kq26 kr26 I Ct Rk (s0 : Nat) vS hS sh) fun v67 s67 R67 => ?_
        obtain ⟨x67, k67, rfl, rfl, O67⟩ := R67
        dsimp only [List.cons_append, List.nil_append]
        rw [hp] at O67
        rw [hp]
        dsimp only at O67 ⊢
        refine XO.q (Q.move rfl) ?_
        refine XO.q (Q.extract rfl rfl) ?_
        refine XO.q (Q.extract rfl rfl) ?_
        refine XO.q (Q.assign rfl) ?_
        refine XO.q (Q.assign rfl) ?_
        refine XO.done ?_
        refine XK.seq ?_
        refine XK.seq ?_
        refine XK.region rfl ?_
        refine XO.q (Q.move rfl) ?_
        refine XO.q (Q.neq rfl rfl) ?_
        refine XO.q (Q.move rfl) ?_
        refine XO.q (Quiet.guardF rfl rfl fun g73 p73 => Q.move rfl) ?_
        refine XO.q (Quiet.guardF rfl rfl fun g74 p74 => Q.len (lzv g74 rfl)) ?_
        refine XO.q (Quiet.guardF rfl rfl fun g75 p75 => Q.move rfl) ?_
        refine XO.q (Quiet.guardF rfl rfl fun g76 p76 => Q.len (lzv g76 rfl)) ?_
        refine XO.q (Quiet.guardF rfl rfl fun g77 p77 => Q.neq (lzv g77 rfl) (lzv g77 rfl)) ?_
        refine XO.q (Q.or rfl (fun hp => lzv hp rfl)) ?_
        refine XO.done ?_
        refine XK.if rfl (fun c3 => ?_) (fun c3 => ?_)
        · have _t3 := True.intro
          rw [play_len] at c3
          simp at c3
        · have _t3 := True.intro
          refine XK.skip ?_
          refine XK.seq ?_
          refine XK.seq ?_
          refine XK.region rfl ?_
          refine XO.q (Q.move rfl) ?_
          refine XO.len rfl fun l80 => ?_
          refine XO.q (Q.move rfl) ?_
          refine XO.done ?_
          refine XK.block ?_
          refine XK.while (X := Nat × Int × List Int) [6, 10, 15, 16, 81, 82, 83, 84, 85, 86, 87, 88, 89, 90, 91, 92, 93, 94, 95, 96, 97, 98, 99, 100, 101, 102, 103, 104, 105, 106, 107, 108, 109, 110, 111, 112, 113, 114, 115, 116, 117, 118, 119, 120, 121] (fun ⟨i, s, done⟩ => [(81, some (.int .i64 (i : Nat))), (10, some (.int .i64 s))]) (fun ⟨i, s, done⟩ => []) (fun ⟨i, s, done⟩ => i ≤ sh.length ∧ 0 ≤ s ∧ s < Sa ∧ inS I s.toNat ∧ playL na Ca Ka Ct (s0 : Nat) sh = done ++ playL na Ca Ka Ct s (sh.drop i) ∧ done.length = i) (fun ⟨i, s, done⟩ => sh.length - i) (0, (s0 : Int), []) [] rfl ⟨by omega, by omega, by omega, by rw [Int.toNat_natCast]; exact c1, by simp, rfl⟩ (.c rfl (.c rfl (.base 0 rfl rfl))) ?_
          rintro ⟨i, s, done⟩ ⟨hi, q1, q2, q3, q4, q5⟩ ih1
          dsimp only [List.cons_append, List.nil_append] at ih1 ⊢
          refine XK.seq ?_
          refine XK.region rfl ?_
          refine XO.q (Q.lss rfl rfl) ?_
          refine XO.done ?_
          refine XK.seq ?_
          refine XK.if rfl (fun c4 => ?_) (fun c4 => ?_)
          · have _t4 := True.intro
            rw [play_len] at c4
            have hw0 := outside_at ho2 (i := i) (by omega)
            obtain ⟨p1, p2, p3, p4, p5, p6⟩ := play_step oka rr (s := s) (w := sh.getD i default) q1 q3 q2 hw0.1 hw0.2
            obtain ⟨hpa, hpb⟩ := play_at q4 q5 (show i < sh.length by omega)
            obtain ⟨n, en⟩ : ∃ n, n = leadAt na Ca Ka s (Ct.getD s.toNat default) (sh.getD i default) := ⟨_, rfl⟩
            rw [← en] at p3 p4 p5 p6 hpa hpb
            rw [play_len] at l80
            refine XK.skip ?_
            refine XK.seq ?_
            refine XK.block ?_
            refine XK.seq ?_
            refine XK.region rfl ?_
            refine XO.q (Q.move rfl) ?_
            refine XO.ix rfl rfl (by omega) (by omega) fun i84 => ?_
            refine XO.q (Q.ldE rfl (by first | assumption | omega) rfl) ?_
            rw [hpa]
            refine XO.q (Q.assign rfl) ?_
            refine XO.q (Q.assign rfl) ?_
            refine XO.done ?_
            refine XK.seq ?_
            refine XK.seq ?_
            refine XK.drawn [0, 1, 2, 3, 4, 5, 6, 7, 8, 9, 10, 11, 12, 13, 14, 15, 16, 17, 18, 19, 20, 21, 22, 23, 24, 25, 26, 27, 28, 29, 31, 32, 33] [b8, b7] [kp26, kq26, la, hS] (.q 0 (.q 1 (.q 2 (.q 3 (.q 4 (.q 5 (.q 6 (.q 7 (.q 8 (.q 9 (.q 10 (.q 11 (.q 12 (.q 13 (.q 14 (.q 15 (.q 16 (.q 17 (.q 18 (.q 19 (.q 20 (.q 21 (.q 22 (.q 23 (.q 24 (.q 25 (.q 26 (.q 27 (.q 28 (.q 29 (.q 31 (.br 30 true (.q 32 (.q 33 .done)) .stop)))))))))))))))))))))))))))))))) Try.mixed rfl (by kernel_rfl) ?_
            refine XT.q rfl rfl (Q.move rfl) ?_
            refine XT.q rfl rfl (Q.lss rfl rfl) ?_
            refine XT.q rfl rfl (Q.move rfl) ?_
            refine XT.q rfl rfl (Quiet.guardF rfl rfl fun g89 p89 => Q.fieldAddr rfl) ?_
            refine XT.q rfl rfl (Quiet.guardF rfl rfl fun g90 p90 => Q.ld (lzv g90 rfl) rfl) ?_
            refine XT.q rfl rfl (Quiet.guardF rfl rfl fun g91 p91 => Q.move rfl) ?_
            refine XT.q rfl rfl (Quiet.guardF rfl rfl fun g92 p92 => Q.ix (lzv g92 rfl) (lzv g92 rfl) (by omega) (by omega)) ?_
            refine XT.q rfl rfl (Quiet.guardF rfl rfl fun g93 p93 => Q.ldE (lzv g93 rfl) (by first | assumption | omega) rfl) ?_
            refine XT.q rfl rfl (Quiet.guardF rfl rfl fun g94 p94 => Q.not (lzv g94 rfl)) ?_
            refine XT.q rfl rfl (Q.or rfl (fun hp => lzv hp rfl)) ?_
            refine XT.q rfl rfl (Q.move rfl) ?_
            refine XT.q rfl rfl (Quiet.guardF rfl rfl fun g97 p97 => Q.fieldAddr rfl) ?_
            refine XT.q rfl rfl (Quiet.guardF rfl rfl fun g98 p98 => Q.ld (lzv g98 rfl) rfl) ?_
            refine XT.q rfl rfl (Quiet.guardF rfl rfl fun g99 p99 => Q.move rfl) ?_
            refine XT.q rfl rfl (Quiet.guardF rfl rfl fun g100 p100 => Q.ix (lzv g100 rfl) (lzv g100 rfl) (by omega) (by omega)) ?_
            refine XT.q rfl rfl (Quiet.guardF rfl rfl fun g101 p101 => Q.ldE (lzv g101 rfl) (by first | assumption | omega) rfl) ?_
            refine XT.q rfl rfl (Quiet.guardF rfl rfl fun g102 p102 => Q.not (lzv g102 rfl)) ?_
            refine XT.q rfl rfl (Q.or rfl (fun hp => lzv hp rfl)) ?_
            refine XT.q rfl rfl (Q.move rfl) ?_
            refine XT.q rfl rfl (Quiet.guardF rfl rfl fun g105 p105 => Q.ldA [_, _, _, _, _] rfl rfl rfl) ?_
            refine XT.q rfl rfl (Quiet.guardF rfl rfl fun g106 p106 => Q.move rfl) ?_
            refine XT.q rfl rfl (Quiet.guardF rfl rfl fun g107 p107 => Q.fieldAddr rfl) ?_
            refine XT.q rfl rfl (Quiet.guardF rfl rfl fun g108 p108 => Q.ld (lzv g108 rfl) rfl) ?_
            refine XT.q rfl rfl (Quiet.guardF rfl rfl fun g109 p109 => Q.move rfl) ?_
            refine XT.q rfl rfl (Quiet.guardF rfl rfl fun g110 p110 => Q.ix (lzv g110 rfl) (lzv g110 rfl) (by omega) (by omega)) ?_
            refine XT.q rfl rfl (Quiet.guardF rfl rfl fun g111 p111 => Q.ldE (lzv g111 rfl) (by first | assumption | omega) rfl) ?_
            refine XT.q rfl rfl (Quiet.guardF rfl rfl fun g112 p112 => Q.move rfl) ?_
            refine XT.q rfl rfl (Quiet.guardF rfl rfl fun g113 p113 => Q.move rfl) ?_
            refine XT.q rfl rfl (Quiet.guardF rfl rfl fun g114 p114 => Q.ix (lzv g114 rfl) (lzv g114 rfl) (by omega) (by omega)) ?_
            refine XT.q rfl rfl (Quiet.guardF rfl rfl fun g115 p115 => Q.ldE (lzv g115 rfl) (by first | assumption | omega) rfl) ?_
            refine XT.q rfl rfl (Quiet.guardF rfl rfl fun g117 p117 => Q.move rfl) ?_
            refine XT.gcallF rfl rfl rfl rfl Try.call23 rfl (fun g116 => .c (lzv g116 rfl) (.c (lzv g116 rfl) (.c (lzv g116 rfl) (.c (lzv g116 rfl) .n)))) rfl (fun g116 p116 => lawLeadsI Sa Ca Ka na da oka va wa ka s _ (sh.getD i default) q1 q2 p1 p2 hw0.1 hw0.2) ⟨inferInstance, ?_⟩ XT.stop
            refine XT.q rfl rfl (Quiet.guardF rfl rfl fun g118 p118 => Q.neq (lzv g118 rfl) (lzv g118 rfl)) ?_
            refine XT.q rfl rfl (Q.or rfl (fun hp => lzv hp rfl)) ?_
            refine XT.done ?_
            refine XK.if rfl (fun c5 => ?_) (fun c5 => ?_)
            · have _t5 := True.intro
              rw [← en] at c5
              exfalso
              rcases c5 with ((h | h) | h) | h
              · omega
              · exact h p4
              · exact h p6
              · exact h rfl
            · have _t5 := True.intro
              refine XK.skip ?_
              refine XK.region rfl ?_
              refine XO.q (Q.move rfl) ?_
              refine XO.q (Q.assign rfl) ?_
              refine XO.done ?_
              refine XK.inBlock ?_
              refine XK.region rfl ?_
              refine XO.q (Q.add rfl rfl ⟨by omega, by omega⟩) ?_
              refine XO.q (Q.move rfl) ?_
              refine XO.done ?_
              exact ih1 (i + 1, n, done ++ [n]) _ _ ⟨by dsimp only; omega, p3, p5, p4, hpb, by simp only [List.length_append, List.length_cons, List.length_nil]; omega⟩ (by first | omega | (dsimp only; omega)) (.c rfl (.c rfl (.base 91 rfl rfl))) inferInstance
          · have _t4 := True.intro
            refine XK.exit rfl ?_
            refine XK.seq ?_
            refine XK.region rfl ?_
            refine XO.q (Q.ldA [_, _, _, _, _] rfl rfl rfl) ?_
            refine XO.q (Q.ldA [_, _, _] rfl rfl rfl) ?_
            refine XO.q (Q.move rfl) ?_
            haveI hnA : Arr (.slice none 0 0) encI 1 ka ([] : List Int) := Arr.nil (fun _ => rfl)
            have hf : forceG (mkG Sa Ca Ka na da) I Ct Rk s [] = ([], [], 9) := by
              rw [forceG, if_neg (by rw [rv]; simp), if_neg (by rw [outside_no (m := (Sa : Int)) (l := [s]) (fun x hx => by simp at hx; omega)]; simp [outside]), if_pos (show I.getD s.toNat default = true from q3)]
            refine XO.call Try.call31 rfl rfl rfl (Force_spec (mkG Sa Ca Ka na da) va wa ka la p26 q26 r26 kp26 kq26 kr26 I Ct Rk s (.slice none 0 0) ka [] (by simp)) fun v126 s126 R126 => ?_
            obtain ⟨x126, y126, kx126, ky126, rfl, rfl, OX126, OY126⟩ := R126
            dsimp only [List.cons_append, List.nil_append]
            rw [hf]
            dsimp only
            refine XO.q (Q.move rfl) ?_
            refine XO.q (Q.extract rfl rfl) ?_
            refine XO.q (Q.extract rfl rfl) ?_
            refine XO.q (Q.extract rfl rfl) ?_
            refine XO.q (Q.assign rfl) ?_
            refine XO.done ?_
            refine XK.seq ?_
            refine XK.region rfl ?_
            refine XO.q (Q.move rfl) ?_
            refine XO.q (Q.eql rfl rfl) ?_
            refine XO.q (Q.move rfl) ?_
            refine XO.gcallT rfl rfl Try.call11 rfl (fun g133 => .n) rfl (fun g133 p133 => awake_spec) ?_
            refine XO.q (Q.and rfl (fun hp => lzv hp rfl)) ?_
            refine XO.q (Q.assign rfl) ?_
            refine XO.done ?_
            refine XK.rt [] Try.func8 Try.results8 (.t rfl .n) ?_
            exact ⟨by simp, rfl⟩
    · have _t1 := True.intro
      have c1' : ¬ inS I s0 := c1
      have hro := rr s0 hs0
      obtain ⟨R, hR⟩ : ∃ R : Nat, Rk.getD s0 default = (R : Int) := by
        rcases hro with ⟨h, _⟩ | ⟨_, _, h, _⟩
        · exact absurd h c1
        · exact Int.eq_ofNat_of_zero_le h
      have hRS := rkb s0
      change Rk.getD s0 default ≤ _ at hRS
      refine XK.skip ?_
      refine XK.seq ?_
      refine XK.region rfl ?_
      refine XO.q (Q.assign rfl) ?_
      refine XO.done ?_
      refine XK.seq ?_
      refine XK.seq ?_
      refine XK.region rfl ?_
      refine XO.q (Q.fieldAddr rfl) ?_
      refine XO.q (Q.ld rfl rfl) ?_
      refine XO.q (Q.move rfl) ?_
      refine XO.ix rfl rfl (by omega) (by omega) fun i138 => ?_
      refine XO.q (Q.ldE rfl (by first | assumption | omega) rfl) ?_
      rw [hR]
      refine XO.q (Q.move rfl) ?_
      refine XO.done ?_
      refine XK.block ?_
      refine XK.while (X := Nat × Value × PHeap × List Int) [17, 140, 141, 142, 143, 144, 145, 146, 147, 148, 149] (fun ⟨i, vU, hU, us⟩ => [(140, some (.int .i64 (i : Nat))), (17, some (vU))]) (fun ⟨i, vU, hU, us⟩ => [blk b46 [vd, .int .i64 ((i : Nat) : Int)] 54, hU]) (fun ⟨i, vU, hU, us⟩ => i ≤ R ∧ us.length = i ∧ outside (Ca : Int) us = false ∧ OArr vU encI 1 3 hU us) (fun ⟨i, vU, hU, us⟩ => R - i) (0, .slice none 0 0, emp, []) [blk b46 [vd, .int .i64 ((0 : Nat) : Int)] 54, emp] rfl ⟨by omega, rfl, rfl, hnil⟩ (.c rfl (.c rfl (.base 0 rfl rfl))) ?_
      rintro ⟨i, vU, hU, us⟩ ⟨hi, hul, ho2, OU⟩ ih2
      dsimp only [List.cons_append, List.nil_append] at ih2 ⊢
      refine XK.seq ?_
      refine XK.region rfl ?_
      refine XO.q (Q.lss rfl rfl) ?_
      refine XO.done ?_
      refine XK.seq ?_
      refine XK.if rfl (fun c6 => ?_) (fun c6 => ?_)
      · have _t6 := True.intro
        refine XK.skip ?_
        refine XK.seq ?_
        refine XK.block ?_
        refine XK.region rfl ?_
        refine XO.q (Q.move rfl) ?_
        refine XO.q (Q.move rfl) ?_
        refine XO.q (Q.fieldAddr rfl) ?_
        refine XO.q (Q.ld rfl rfl) ?_
        refine XO.callB b46 Try.call26 rfl rfl rfl (next_spec b46 vd hd dl (i) (Ca) (by omega) (by omega) (by omega)) fun v146 s146 R146 => ?_
        obtain ⟨rfl, n146, rfl, h146⟩ := R146
        dsimp only [List.cons_append, List.nil_append]
        refine XO.lit [_] [_] [_] encI (by rfl) (by rfl) rfl (by rfl) (by exact .c 0 1 rfl rfl rfl (.n _)) (fun _ => rfl) (by rfl) rfl (by infer_instance) rfl fun v147 h147 O147 => ?_
        refine XO.append rfl rfl rfl rfl (by simp only [List.length_cons, List.length_nil]; omega) fun v148 h148 O148 => ?_
        refine XO.q (Q.assign rfl) ?_
        refine XO.done ?_
        refine XK.inBlock ?_
        refine XK.region rfl ?_
        refine XO.q (Q.add rfl rfl ⟨by omega, by omega⟩) ?_
        refine XO.q (Q.move rfl) ?_
        refine XO.done ?_
        exact ih2 (i + 1, v148, h148, us ++ [(n146 : Int)]) _ _ ⟨by omega, by simp only [List.length_append, List.length_cons, List.length_nil]; omega, outside_cons _ ho2 ⟨by omega, by omega⟩, O148⟩ (by first | omega | (dsimp only; omega)) (.c rfl (.c rfl (.base 24 rfl rfl))) inferInstance
      · have _t6 := True.intro
        have hulR : us.length = R := by omega
        clear ih2 hi c6 hul
        refine XK.exit rfl ?_
        refine XK.seq ?_
        refine XK.region rfl ?_
        refine XO.q (Q.ldA [_, _, _, _, _] rfl rfl rfl) ?_
        refine XO.q (Q.ldA [_, _, _] rfl rfl rfl) ?_
        refine XO.q (Q.move rfl) ?_
        refine XO.q (Q.move rfl) ?_
        have hE : stopB da (forceE na Ca Ka da I Rk (s0 : Nat) us) = true := force_enough oka rr us (s0 : Nat) ho2 (.inr ⟨by omega, by rw [Int.toNat_natCast]; exact c1', by rw [Int.toNat_natCast]; change Rk.getD s0 default ≤ _; omega⟩)
        have hf : forceG (mkG Sa Ca Ka na da) I Ct Rk (s0 : Nat) us = ((forceL na Ca Ka da I Rk (s0 : Nat) us).map (·.1), (forceL na Ca Ka da I Rk (s0 : Nat) us).map (·.2), 0) := by
          rw [forceG, if_neg (by rw [rv]; simp), if_neg (by rw [ho2, outside_no (m := (Sa : Int)) (l := [(s0 : Int)]) (fun x hx => by simp at hx; omega)]; simp), if_neg (by simpa using c1), if_neg (by simp only [Int.toNat_natCast]; rw [hE]; simp)]
          simp only [Int.toNat_natCast]
        refine XO.call Try.call31 rfl rfl rfl (Force_spec (mkG Sa Ca Ka na da) va wa ka la p26 q26 r26 kp26 kq26 kr26 I Ct Rk (s0 : Nat) vU hU us (by omega)) fun v155 s155 R155 => ?_
        obtain ⟨x155, y155, kx155, ky155, rfl, rfl, OX155, OY155⟩ := R155
        dsimp only [List.cons_append, List.nil_append]
        rw [hf] at OX155 OY155
        rw [hf]
        dsimp only at OX155 OY155 ⊢
        obtain ⟨Fo, eF⟩ : ∃ Fo, Fo = forceL na Ca Ka da I Rk (s0 : Nat) us := ⟨_, rfl⟩
        have hFl := force_len (next := na) (C := Ca) (K := Ka) (good := da) (ins := I) (rnk := Rk) us (s0 : Nat)
        have hF0 : us ≠ [] → ((forceL na Ca Ka da I Rk (s0 : Nat) us).length = 0 ↔ stopB da (s0 : Nat) = true) := fun h => force_zero h
        rw [← eF] at OX155 OY155 hFl hF0
        refine XO.q (Q.move rfl) ?_
        refine XO.q (Q.extract rfl rfl) ?_
        refine XO.q (Q.extract rfl rfl) ?_
        refine XO.q (Q.extract rfl rfl) ?_
        refine XO.q (Q.assign rfl) ?_
        refine XO.q (Q.assign rfl) ?_
        refine XO.q (Q.assign rfl) ?_
        refine XO.done ?_
        refine XK.seq ?_
        refine XK.seq ?_
        refine XK.region rfl ?_
        refine XO.q (Q.move rfl) ?_
        refine XO.q (Q.neq rfl rfl) ?_
        refine XO.q (Q.move rfl) ?_
        refine XO.q (Quiet.guardF rfl rfl fun g162 p162 => Q.move rfl) ?_
        refine XO.q (Quiet.guardF rfl rfl fun g163 p163 => Q.len (lzv g163 rfl)) ?_
        refine XO.q (Quiet.guardF rfl rfl fun g164 p164 => Q.move rfl) ?_
        refine XO.q (Quiet.guardF rfl rfl fun g165 p165 => Q.len (lzv g165 rfl)) ?_
        refine XO.q (Quiet.guardF rfl rfl fun g166 p166 => Q.neq (lzv g166 rfl) (lzv g166 rfl)) ?_
        refine XO.q (Q.or rfl (fun hp => lzv hp rfl)) ?_
        refine XO.q (Q.move rfl) ?_
        refine XO.q (Quiet.guardF rfl rfl fun g169 p169 => Q.move rfl) ?_
        refine XO.q (Quiet.guardF rfl rfl fun g170 p170 => Q.len (lzv g170 rfl)) ?_
        refine XO.q (Quiet.guardF rfl rfl fun g171 p171 => Q.fieldAddr rfl) ?_
        refine XO.q (Quiet.guardF rfl rfl fun g172 p172 => Q.ld (lzv g172 rfl) rfl) ?_
        refine XO.q (Quiet.guardF rfl rfl fun g173 p173 => Q.move rfl) ?_
        refine XO.q (Quiet.guardF rfl rfl fun g174 p174 => Q.ix (lzv g174 rfl) (lzv g174 rfl) (by omega) (by omega)) ?_
        refine XO.q (Quiet.guardF rfl rfl fun g175 p175 => Q.ldE (lzv g175 rfl) (by first | assumption | omega) rfl) ?_
        refine XO.q (Quiet.guardF rfl rfl fun g176 p176 => Q.gtr (lzv g176 rfl) (lzv g176 rfl)) ?_
        refine XO.q (Q.or rfl (fun hp => lzv hp rfl)) ?_
        refine XO.q (Q.move rfl) ?_
        refine XO.q (Quiet.guardF rfl rfl fun g179 p179 => Q.move rfl) ?_
        refine XO.q (Quiet.guardF rfl rfl fun g180 p180 => Q.len (lzv g180 rfl)) ?_
        refine XO.q (Quiet.guardF rfl rfl fun g181 p181 => Q.eql (lzv g181 rfl) rfl) ?_
        refine XO.q (Quiet.guardF rfl rfl fun g182 p182 => Q.fieldAddr rfl) ?_
        refine XO.q (Quiet.guardF rfl rfl fun g183 p183 => Q.ld (lzv g183 rfl) rfl) ?_
        refine XO.q (Quiet.guardF rfl rfl fun g184 p184 => Q.move rfl) ?_
        refine XO.q (Quiet.guardF rfl rfl fun g185 p185 => Q.ix (lzv g185 rfl) (lzv g185 rfl) (by omega) (by omega)) ?_
        refine XO.q (Quiet.guardF rfl rfl fun g186 p186 => Q.ldE (lzv g186 rfl) (by first | assumption | omega) rfl) ?_
        refine XO.q (Quiet.guardF rfl rfl fun g187 p187 => Q.not (lzv g187 rfl)) ?_
        refine XO.q (Quiet.guardF rfl rfl fun g188 p188 => Q.neqB (lzv g188 rfl) (lzv g188 rfl)) ?_
        refine XO.q (Q.or rfl (fun hp => lzv hp rfl)) ?_
        refine XO.done ?_
        refine XK.if rfl (fun c7 => ?_) (fun c7 => ?_)
        · have _t7 := True.intro
          exfalso
          simp only [List.length_map] at c7
          rcases c7 with ((h | h) | h) | h
          · exact h rfl
          · exact h rfl
          · omega
          · refine h ?_
            by_cases hus : us = []
            · have hR0 : R = 0 := by rw [← hulR, hus]; rfl
              have hF00 : Fo.length = 0 := by omega
              have hng : ¬ inS da s0 := by
                rcases hro with ⟨h2, _⟩ | ⟨_, _, _, h2, _⟩
                · exact absurd h2 c1
                · exact h2 (by change Rk.getD s0 default = 0; omega)
              have hng2 : da.getD s0 default = false := by unfold inS at hng; simpa using hng
              rw [hng2]; simp [hF00]
            · have h2 := hF0 hus
              rw [stop_or] at h2
              simp only [Int.toNat_natCast] at h2
              rw [Bool.eq_iff_iff]
              simp only [decide_eq_true_eq, Bool.not_eq_true']
              constructor
              · intro h3
                rcases h2.1 (by omega) with h4 | h4
                · omega
                · simpa using h4
              · intro h3
                have := h2.2 (.inr (by rw [h3]; simp))
                omega
        · have _t7 := True.intro
          refine XK.skip ?_
          refine XK.seq ?_
          refine XK.seq ?_
          refine XK.region rfl ?_
          refine XO.q (Q.move rfl) ?_
          refine XO.len rfl fun l191 => ?_
          refine XO.q (Q.move rfl) ?_
          refine XO.done ?_
          refine XK.block ?_
          refine XK.while (X := Nat × Int × List (Int × Int)) [6, 10, 20, 21, 192, 193, 194, 195, 196, 197, 198, 199, 200, 201, 202, 203, 204, 205, 206, 207, 208, 209, 210, 211, 212, 213, 214, 215, 216, 217, 218, 219, 220, 221, 222, 223, 224, 225, 226, 227, 228, 229, 230, 231, 232, 233, 234, 235, 236, 237, 238, 239, 240, 241, 242, 243, 244, 245] (fun ⟨i, s, done⟩ => [(192, some (.int .i64 (i : Nat))), (10, some (.int .i64 s))]) (fun ⟨i, s, done⟩ => []) (fun ⟨i, s, done⟩ => i ≤ Fo.length ∧ 0 ≤ s ∧ s < Sa ∧ ¬ inS I s.toNat ∧ Fo = done ++ forceL na Ca Ka da I Rk s (us.drop i) ∧ done.length = i ∧ forceE na Ca Ka da I Rk (s0 : Nat) us = forceE na Ca Ka da I Rk s (us.drop i)) (fun ⟨i, s, done⟩ => Fo.length - i) (0, (s0 : Int), []) [] rfl ⟨by omega, by omega, by omega, by rw [Int.toNat_natCast]; exact c1', by simpa using eF, rfl, by simp⟩ (.c rfl (.c rfl (.base 0 rfl rfl))) ?_
          rintro ⟨i, s, done⟩ ⟨hi, q1, q2, q3, q4, q5, q6⟩ ih3
          dsimp only [List.cons_append, List.nil_append] at ih3 ⊢
          refine XK.seq ?_
          refine XK.region rfl ?_
          refine XO.q (Q.lss rfl rfl) ?_
          refine XO.done ?_
          refine XK.seq ?_
          refine XK.if rfl (fun c8 => ?_) (fun c8 => ?_)
          · have _t8 := True.intro
            simp only [List.length_map] at c8
            obtain ⟨r1, r2, hfa, hfb, hfc⟩ := force_at (i := i) (eF ▸ q4) q5 (by rw [← eF]; omega)
            rw [← eF] at hfa hfb
            have hu0 := outside_at ho2 (i := i) r1
            obtain ⟨w1, w2, w3, _⟩ := force_step oka rr q1 q2 q3 r2 (u := us.getD i default) hu0.1 hu0.2
            obtain ⟨n, en⟩ : ∃ n, n = leadAt na Ca Ka s (us.getD i default) (worstP na Ca Ka I Rk s.toNat (us.getD i default).toNat) := ⟨_, rfl⟩
            rw [← en] at w3 hfa hfb hfc
            have hgs := (stop_not.1 r2).2
            have hlm1 : i < (Fo.map (·.1)).length := by rw [List.length_map]; omega
            have hlm2 : i < (Fo.map (·.2)).length := by rw [List.length_map]; omega
            have hw1 : (Fo.map (·.1)).getD i default = worstP na Ca Ka I Rk s.toNat (us.getD i default).toNat := by rw [getD_map (by omega), hfa]
            refine XK.skip ?_
            refine XK.seq ?_
            refine XK.block ?_
            refine XK.seq ?_
            refine XK.region rfl ?_
            refine XO.q (Q.move rfl) ?_
            refine XO.ix rfl rfl (by omega) (by omega) fun i195 => ?_
            refine XO.q (Q.ldE rfl (by first | assumption | omega) rfl) ?_
            rw [getD_map (by omega), hfa]
            refine XO.q (Q.assign rfl) ?_
            refine XO.q (Q.assign rfl) ?_
            refine XO.done ?_
            refine XK.seq ?_
            refine XK.seq ?_
            refine XK.drawn [0, 1, 2, 3, 4, 5, 6, 7, 8, 9, 10, 11, 12, 13, 14, 15, 16, 17, 18, 19, 20, 21, 22, 23, 24, 25, 26, 27, 28, 29, 30, 31, 32, 34, 35, 36] [b7] [la, hU, kx155] (.q 0 (.q 1 (.q 2 (.q 3 (.q 4 (.q 5 (.q 6 (.q 7 (.q 8 (.q 9 (.q 10 (.q 11 (.q 12 (.q 13 (.q 14 (.q 15 (.q 16 (.q 17 (.q 18 (.q 19 (.q 20 (.q 21 (.q 22 (.q 23 (.q 24 (.q 25 (.q 26 (.q 27 (.q 28 (.q 29 (.q 30 (.q 31 (.q 32 (.q 34 (.br 33 true (.q 35 (.q 36 .done)) .stop))))))))))))))))))))))))))))))))))) Try.mixed rfl (by kernel_rfl) ?_
            refine XT.q rfl rfl (Q.fieldAddr rfl) ?_
            refine XT.q rfl rfl (Q.ld rfl rfl) ?_
            refine XT.q rfl rfl (Q.move rfl) ?_
            refine XT.ix rfl rfl rfl rfl (by omega) (by omega) fun i200 => ?_
            refine XT.q rfl rfl (Q.ldE rfl (by first | assumption | omega) rfl) ?_
            refine XT.q rfl rfl (Q.not rfl) ?_
            refine XT.q rfl rfl (Q.move rfl) ?_
            refine XT.q rfl rfl (Quiet.guardF rfl rfl fun g204 p204 => Q.move rfl) ?_
            refine XT.q rfl rfl (Quiet.guardF rfl rfl fun g205 p205 => Q.move rfl) ?_
            refine XT.q rfl rfl (Quiet.guardF rfl rfl fun g206 p206 => Q.ix (lzv g206 rfl) (lzv g206 rfl) (by omega) (by omega)) ?_
            refine XT.q rfl rfl (Quiet.guardF rfl rfl fun g207 p207 => Q.ldE (lzv g207 rfl) (by first | assumption | omega) rfl) ?_
            rw [hw1]
            refine XT.q rfl rfl (Quiet.guardF rfl rfl fun g208 p208 => Q.lss (lzv g208 rfl) rfl) ?_
            refine XT.q rfl rfl (Q.or rfl (fun hp => lzv hp rfl)) ?_
            refine XT.q rfl rfl (Q.move rfl) ?_
            refine XT.q rfl rfl (Quiet.guardF rfl rfl fun g211 p211 => Q.move rfl) ?_
            refine XT.q rfl rfl (Quiet.guardF rfl rfl fun g212 p212 => Q.move rfl) ?_
            refine XT.q rfl rfl (Quiet.guardF rfl rfl fun g213 p213 => Q.ix (lzv g213 rfl) (lzv g213 rfl) (by omega) (by omega)) ?_
            refine XT.q rfl rfl (Quiet.guardF rfl rfl fun g214 p214 => Q.ldE (lzv g214 rfl) (by first | assumption | omega) rfl) ?_
            rw [hw1]
            refine XT.q rfl rfl (Quiet.guardF rfl rfl fun g215 p215 => Q.fieldAddr rfl) ?_
            refine XT.q rfl rfl (Quiet.guardF rfl rfl fun g216 p216 => Q.ld (lzv g216 rfl) rfl) ?_
            refine XT.q rfl rfl (Quiet.guardF rfl rfl fun g217 p217 => Q.geq (lzv g217 rfl) (lzv g217 rfl)) ?_
            refine XT.q rfl rfl (Q.or rfl (fun hp => lzv hp rfl)) ?_
            refine XT.q rfl rfl (Q.move rfl) ?_
            refine XT.q rfl rfl (Quiet.guardF rfl rfl fun g220 p220 => Q.ldA [_, _, _, _, _] rfl rfl rfl) ?_
            refine XT.q rfl rfl (Quiet.guardF rfl rfl fun g221 p221 => Q.move rfl) ?_
            refine XT.q rfl rfl (Quiet.guardF rfl rfl fun g222 p222 => Q.move rfl) ?_
            refine XT.q rfl rfl (Quiet.guardF rfl rfl fun g223 p223 => Q.move rfl) ?_
            refine XT.q rfl rfl (Quiet.guardF rfl rfl fun g224 p224 => Q.ix (lzv g224 rfl) (lzv g224 rfl) (by omega) (by omega)) ?_
            refine XT.q rfl rfl (Quiet.guardF rfl rfl fun g225 p225 => Q.ldE (lzv g225 rfl) (by first | assumption | omega) rfl) ?_
            refine XT.q rfl rfl (Quiet.guardF rfl rfl fun g226 p226 => Q.move rfl) ?_
            refine XT.q rfl rfl (Quiet.guardF rfl rfl fun g227 p227 => Q.move rfl) ?_
            refine XT.q rfl rfl (Quiet.guardF rfl rfl fun g228 p228 => Q.ix (lzv g228 rfl) (lzv g228 rfl) (by omega) (by omega)) ?_
            refine XT.q rfl rfl (Quiet.guardF rfl rfl fun g229 p229 => Q.ldE (lzv g229 rfl) (by first | assumption | omega) rfl) ?_
            rw [hw1]
            refine XT.q rfl rfl (Quiet.guardF rfl rfl fun g231 p231 => Q.move rfl) ?_
            refine XT.gcallF rfl rfl rfl rfl Try.call23 rfl (fun g230 => .c (lzv g230 rfl) (.c (lzv g230 rfl) (.c (lzv g230 rfl) (.c (lzv g230 rfl) .n)))) rfl (fun g230 p230 => lawLeadsI Sa Ca Ka na da oka va wa ka s (us.getD i default) (worstP na Ca Ka I Rk s.toNat (us.getD i default).toNat) q1 q2 hu0.1 hu0.2 w1 w2) ⟨inferInstance, ?_⟩ XT.stop
            refine XT.q rfl rfl (Quiet.guardF rfl rfl fun g232 p232 => Q.neq (lzv g232 rfl) (lzv g232 rfl)) ?_
            refine XT.q rfl rfl (Q.or rfl (fun hp => lzv hp rfl)) ?_
            refine XT.done ?_
            refine XK.if rfl (fun c9 => ?_) (fun c9 => ?_)
            · have _t9 := True.intro
              rw [← en] at c9
              exfalso
              rcases c9 with ((h | h) | h) | h
              · exact h hgs
              · omega
              · omega
              · exact h rfl
            · have _t9 := True.intro
              refine XK.skip ?_
              refine XK.seq ?_
              refine XK.seq ?_
              refine XK.region rfl ?_
              refine XO.q (Q.move rfl) ?_
              refine XO.q (Q.lss rfl rfl) ?_
              refine XO.done ?_
              refine XK.if rfl (fun c10 => ?_) (fun c10 => ?_)
              · have _t10 := True.intro
                have hlast : Fo.length = i + 1 := by
                  rw [hfb, force_neg c10]
                  simp only [List.append_nil, List.length_append, List.length_cons, List.length_nil]
                  omega
                refine XK.seq ?_
                refine XK.region rfl ?_
                refine XO.q (Q.move rfl) ?_
                refine XO.q (Q.move rfl) ?_
                refine XO.len rfl fun l238 => ?_
                refine XO.q (Q.sub rfl rfl ⟨by omega, by omega⟩) ?_
                refine XO.q (Q.eql rfl rfl) ?_
                refine XO.q (Q.move rfl) ?_
                refine XO.gcallT rfl rfl Try.call11 rfl (fun g242 => .n) rfl (fun g242 p242 => awake_spec) ?_
                refine XO.q (Q.and rfl (fun hp => lzv hp rfl)) ?_
                refine XO.q (Q.assign rfl) ?_
                refine XO.done ?_
                refine XK.rt [] Try.func8 Try.results8 (.t rfl .n) ?_
                refine ⟨?_, rfl⟩
                simp only [List.length_map]
                rw [hlast]
                simp
              · have _t10 := True.intro
                obtain ⟨w3a, w3b, _⟩ := w3.resolve_left c10
                refine XK.skip ?_
                refine XK.region rfl ?_
                refine XO.q (Q.move rfl) ?_
                refine XO.q (Q.assign rfl) ?_
                refine XO.done ?_
                refine XK.inBlock ?_
                refine XK.region rfl ?_
                refine XO.q (Q.add rfl rfl ⟨by omega, by omega⟩) ?_
                refine XO.q (Q.move rfl) ?_
                refine XO.done ?_
                exact ih3 (i + 1, n, done ++ [_]) _ _ ⟨by dsimp only; omega, by dsimp only; omega, w3b, w3a, hfb, by simp only [List.length_append, List.length_cons, List.length_nil]; omega, by rw [q6, hfc]⟩ (by first | omega | (dsimp only; omega)) (.c rfl (.c rfl (.base 109 rfl rfl))) inferInstance
          · have _t8 := True.intro
            simp only [List.length_map] at c8
            have hfe : forceL na Ca Ka da I Rk s (us.drop i) = [] := by
              have h := congrArg List.length q4
              rw [List.length_append] at h
              exact List.length_eq_zero_iff.1 (by omega)
            have hse := force_end hfe
            rw [q6, hse] at hE
            have hng := (stop_or.1 hE).resolve_left (by omega)
            refine XK.exit rfl ?_
            refine XK.seq ?_
            refine XK.region rfl ?_
            refine XO.q (Q.fieldAddr rfl) ?_
            refine XO.q (Q.ld rfl rfl) ?_
            refine XO.q (Q.move rfl) ?_
            refine XO.ix rfl rfl (by omega) (by omega) fun i249 => ?_
            refine XO.q (Q.ldE rfl (by first | assumption | omega) rfl) ?_
            refine XO.q (Q.not rfl) ?_
            refine XO.q (Q.move rfl) ?_
            refine XO.gcallT rfl rfl Try.call11 rfl (fun g253 => .n) rfl (fun g253 p253 => awake_spec) ?_
            refine XO.q (Q.and rfl (fun hp => lzv hp rfl)) ?_
            refine XO.q (Q.assign rfl) ?_
            refine XO.done ?_
            refine XK.rt [] Try.func8 Try.results8 (.t rfl .n) ?_
            exact ⟨by simpa using hng, rfl⟩
end Go.X

set_option linter.unusedSimpArgs false
set_option linter.unusedVariables false
set_option maxRecDepth 20000
namespace Go.X
open Go.Proofs
theorem refKeeps (S C K : Nat) (next : List Int) (good : List Bool) (ok : Ok S C K next good) (vn vg : Value) (hn : PHeap) [sn : Arr vn encI 1 hn next] [og : One vg] (vs : Value) (hz : PHeap) (set : List Bool) [ss : Arr vs encB 1 hz set] (hlen : set.length = S) (s u : Nat) (hs : s < S) (hu : u < C) : Spec Try.prog 74 #[.agg #[.int .i64 (S : Nat), .int .i64 (C : Nat), .int .i64 (K : Nat), vn, vg], vs, .int .i64 (s : Nat), .int .i64 (u : Nat)] [] [hn, hz]
    (fun v hs => v = .bool (keepsP next C K set s u) ∧ hs = []) := by
  have hk2 := ok.k2
  refine Spec.intro (fn := Try.f74) (N := 31) Try.func74 rfl Try.ntmps74 rfl fun B => ?_
  refine XK.seq ?_
  refine XK.region rfl ?_
  refine XO.box rfl fun b4 => ?_
  refine XO.q (Q.assign rfl) ?_
  refine XO.done ?_
  refine XK.seq ?_
  refine XK.seq ?_
  refine XK.region rfl ?_
  refine XO.q (Q.assign rfl) ?_
  refine XO.done ?_
  refine XK.block ?_
  refine XK.while (X := Nat) [8, 9, 10, 11, 12, 13, 14, 15, 16, 17, 18, 19, 20, 21, 22, 23, 24, 25, 26, 27, 28, 29, 30] (fun w => [(9, some (.int .i64 (w : Nat)))]) (fun w => []) (fun w => w ≤ K ∧ ((leads next C K s u).take w).any (bad set) = false) (fun w => K - w) (0) [] rfl ⟨by omega, by simp⟩ (.c rfl (.base 0 rfl rfl)) ?_
  rintro w ⟨hw, hany⟩ ih0
  dsimp only [List.cons_append, List.nil_append] at ih0 ⊢
  refine XK.seq ?_
  refine XK.seq ?_
  refine XK.region rfl ?_
  refine XO.q (Q.move rfl) ?_
  refine XO.q (Q.fieldAddr rfl) ?_
  refine XO.q (Q.ld rfl rfl) ?_
  refine XO.q (Q.lss rfl rfl) ?_
  refine XO.done ?_
  refine XK.if rfl (fun c0 => ?_) (fun c0 => ?_)
  · have _t0 := True.intro
    have hgt := ok.get ((s * C + u) * K + w)
    have hls := leads_succ (next := next) (s := s) (v := u) (K := K) (C := C) (w := w) (by omega) (by have := lead_le (K := K) hs hu; have := ok.len; omega)
    refine XK.skip ?_
    refine XK.seq ?_
    refine XK.block ?_
    refine XK.seq ?_
    refine XK.region rfl ?_
    refine XO.q (Q.ldA [_, _, _, _, _] rfl rfl rfl) ?_
    refine XO.q (Q.move rfl) ?_
    refine XO.q (Q.move rfl) ?_
    refine XO.q (Q.move rfl) ?_
    refine XO.call Try.call42 rfl rfl rfl (refLeads S C K next good ok vn vg hn s u w hs hu (by omega)) fun v21 s21 R21 => ?_
    obtain ⟨rfl, rfl⟩ := R21
    dsimp only [List.cons_append, List.nil_append]
    refine XO.q (Q.assign rfl) ?_
    refine XO.done ?_
    refine XK.seq ?_
    refine XK.region rfl ?_
    refine XO.q (Q.move rfl) ?_
    refine XO.q (Q.lss rfl rfl) ?_
    refine XO.q (Q.move rfl) ?_
    refine XO.q (Quiet.guardF rfl rfl fun g25 p25 => Q.move rfl) ?_
    refine XO.q (Quiet.guardF rfl rfl fun g26 p26 => Q.move rfl) ?_
    refine XO.q (Quiet.guardF rfl rfl fun g27 p27 => Q.ix (lzv g27 rfl) (lzv g27 rfl) (by omega) (by omega)) ?_
    refine XO.q (Quiet.guardF rfl rfl fun g28 p28 => Q.ldE (lzv g28 rfl) (by first | assumption | omega) rfl) ?_
    refine XO.q (Quiet.guardF rfl rfl fun g29 p29 => Q.not (lzv g29 rfl)) ?_
    refine XO.q (Q.or rfl (fun hp => lzv hp rfl)) ?_
    refine XO.done ?_
    refine XK.if rfl (fun c1 => ?_) (fun c1 => ?_)
    · have _t1 := True.intro
      refine XK.seq ?_
      refine XK.region rfl ?_
      refine XO.q (Q.assign rfl) ?_
      refine XO.done ?_
      refine XK.rt [] Try.func74 Try.results74 (.t rfl .n) ?_
      have hb : keepsP next C K set s u = false := by
        unfold keepsP
        rw [Bool.not_eq_false', List.any_eq_true]
        exact ⟨next.getD ((s * C + u) * K + w) 0, (mem_leads ok hs hu).2 ⟨w, by omega, rfl⟩, by unfold bad; simpa using c1⟩
      exact ⟨by rw [hb], rfl⟩
    · have _t1 := True.intro
      refine XK.skip ?_
      refine XK.inBlock ?_
      refine XK.region rfl ?_
      refine XO.q (Q.move rfl) ?_
      refine XO.q (Q.add rfl rfl ⟨by omega, by omega⟩) ?_
      refine XO.q (Q.assign rfl) ?_
      refine XO.done ?_
      exact ih0 (w + 1) _ _ ⟨by omega, by rw [hls, List.any_append, hany]; simp only [List.any_cons, List.any_nil, Bool.or_false, Bool.false_or]; have h := c1; unfold bad; simpa using h⟩ (by first | omega | (dsimp only; omega)) (.c rfl (.base 46 rfl rfl)) inferInstance
  · have _t0 := True.intro
    refine XK.exit rfl ?_
    refine XK.seq ?_
    refine XK.region rfl ?_
    refine XO.q (Q.assign rfl) ?_
    refine XO.done ?_
    refine XK.rt [] Try.func74 Try.results74 (.t rfl .n) ?_
    have hwK : w = K := by omega
    rw [hwK, leads_full] at hany
    exact ⟨by rw [keepsP, hany]; rfl, rfl⟩
theorem refControl (S C K : Nat) (next : List Int) (good : List Bool) (ok : Ok S C K next good) (vn vg : Value) (hn : PHeap) [sn : Arr vn encI 1 hn next] [og : One vg] (vs : Value) (hz : PHeap) (set : List Bool) [ss : Arr vs encB 1 hz set] (hlen : set.length = S) (s : Nat) (hs : s < S) : Spec Try.prog 70 #[.agg #[.int .i64 (S : Nat), .int .i64 (C : Nat), .int .i64 (K : Nat), vn, vg], vs, .int .i64 (s : Nat)] [] [hn, hz]
    (fun v hs => v = .int .i64 (ctlOf next C K set s) ∧ hs = []) := by
  have hc2 := ok.c2
  refine Spec.intro (fn := Try.f70) (N := 20) Try.func70 rfl Try.ntmps70 rfl fun B => ?_
  refine XK.seq ?_
  refine XK.region rfl ?_
  refine XO.box rfl fun b3 => ?_
  refine XO.q (Q.assign rfl) ?_
  refine XO.done ?_
  refine XK.seq ?_
  refine XK.seq ?_
  refine XK.region rfl ?_
  refine XO.q (Q.assign rfl) ?_
  refine XO.done ?_
  refine XK.block ?_
  refine XK.while (X := Nat) [6, 7, 8, 9, 10, 11, 12, 13, 14, 15, 16, 17, 18, 19] (fun u => [(7, some (.int .i64 (u : Nat)))]) (fun u => []) (fun u => u ≤ C ∧ ∀ u' < u, keepsP next C K set s u' = false) (fun u => C - u) (0) [] rfl ⟨by omega, fun _ h => by omega⟩ (.c rfl (.base 0 rfl rfl)) ?_
  rintro u ⟨hu, hno⟩ ih0
  dsimp only [List.cons_append, List.nil_append] at ih0 ⊢
  refine XK.seq ?_
  refine XK.seq ?_
  refine XK.region rfl ?_
  refine XO.q (Q.move rfl) ?_
  refine XO.q (Q.fieldAddr rfl) ?_
  refine XO.q (Q.ld rfl rfl) ?_
  refine XO.q (Q.lss rfl rfl) ?_
  refine XO.done ?_
  refine XK.if rfl (fun c0 => ?_) (fun c0 => ?_)
  · have _t0 := True.intro
    refine XK.skip ?_
    refine XK.seq ?_
    refine XK.block ?_
    refine XK.seq ?_
    refine XK.region rfl ?_
    refine XO.q (Q.ldA [_, _, _, _, _] rfl rfl rfl) ?_
    refine XO.q (Q.move rfl) ?_
    refine XO.q (Q.move rfl) ?_
    refine XO.q (Q.move rfl) ?_
    refine XO.call Try.call74 rfl rfl rfl (refKeeps S C K next good ok vn vg hn vs hz set hlen s u hs (by omega)) fun v18 s18 R18 => ?_
    obtain ⟨rfl, rfl⟩ := R18
    dsimp only [List.cons_append, List.nil_append]
    refine XO.done ?_
    refine XK.if rfl (fun c1 => ?_) (fun c1 => ?_)
    · have _t1 := True.intro
      refine XK.seq ?_
      refine XK.region rfl ?_
      refine XO.q (Q.move rfl) ?_
      refine XO.q (Q.assign rfl) ?_
      refine XO.done ?_
      refine XK.rt [] Try.func70 Try.results70 (.t rfl .n) ?_
      exact ⟨by rw [ctlOf_at (by omega) c1 hno], rfl⟩
    · have _t1 := True.intro
      refine XK.skip ?_
      refine XK.inBlock ?_
      refine XK.region rfl ?_
      refine XO.q (Q.move rfl) ?_
      refine XO.q (Q.add rfl rfl ⟨by omega, by omega⟩) ?_
      refine XO.q (Q.assign rfl) ?_
      refine XO.done ?_
      exact ih0 (u + 1) _ _ ⟨by omega, fun u' hu' => by
          rcases Nat.lt_or_ge u' u with h | h
          · exact hno u' h
          · rw [show u' = u by omega]; simpa using c1⟩ (by first | omega | (dsimp only; omega)) (.c rfl (.base 27 rfl rfl)) inferInstance
  · have _t0 := True.intro
    refine XK.exit rfl ?_
    refine XK.seq ?_
    refine XK.region rfl ?_
    refine XO.q (Q.assign rfl) ?_
    refine XO.done ?_
    refine XK.rt [] Try.func70 Try.results70 (.t rfl .n) ?_
    have huC : u = C := by omega
    rw [huC] at hno
    exact ⟨by rw [ctlOf_none hno], rfl⟩
theorem refLevel (S C K : Nat) (next : List Int) (good : List Bool) (ok : Ok S C K next good) (vn vg : Value) (hn : PHeap) [sn : Arr vn encI 1 hn next] [og : One vg] (vr : Value) (hz : PHeap) (rank : List Int) [ss : Arr vr encI 1 hz rank] (hlen : rank.length = S) (s : Nat) (hs : s < S) : Spec Try.prog 72 #[.agg #[.int .i64 (S : Nat), .int .i64 (C : Nat), .int .i64 (K : Nat), vn, vg], vr, .int .i64 (s : Nat)] [] [hn, hz]
    (fun v hs => v = .int .i64 (levelV next C K rank s) ∧ hs = []) := by
  have hc2 := ok.c2
  have hk2 := ok.k2
  refine Spec.intro (fn := Try.f72) (N := 54) Try.func72 rfl Try.ntmps72 rfl fun B => ?_
  refine XK.seq ?_
  refine XK.region rfl ?_
  refine XO.box rfl fun b3 => ?_
  refine XO.q (Q.assign rfl) ?_
  refine XO.done ?_
  refine XK.seq ?_
  refine XK.region rfl ?_
  refine XO.q (Q.assign rfl) ?_
  refine XO.done ?_
  refine XK.seq ?_
  refine XK.seq ?_
  refine XK.region rfl ?_
  refine XO.q (Q.assign rfl) ?_
  refine XO.done ?_
  refine XK.block ?_
  refine XK.while (X := Nat) [6, 7, 8, 9, 10, 11, 12, 13, 14, 15, 16, 17, 18, 19, 20, 21, 22, 23, 24, 25, 26, 27, 28, 29, 30, 31, 32, 33, 34, 35, 36, 37, 38, 39, 40, 41, 42, 43, 44, 45, 46, 47, 48, 49, 50, 51, 52] (fun u => [(8, some (.int .i64 (u : Nat))), (7, some (.int .i64 ((List.range u).foldl (fun g u => max g (leastTo rank (leads next C K s u) K)) 0)))]) (fun u => []) (fun u => u ≤ C ∧ (List.range u).any (fun u => decide (leastTo rank (leads next C K s u) K < 0)) = false) (fun u => C - u) (0) [] rfl ⟨by omega, rfl⟩ (.c rfl (.c rfl (.base 0 rfl rfl))) ?_
  rintro u ⟨hu, hany⟩ ih0
  dsimp only [List.cons_append, List.nil_append] at ih0 ⊢
  refine XK.seq ?_
  refine XK.seq ?_
  refine XK.region rfl ?_
  refine XO.q (Q.move rfl) ?_
  refine XO.q (Q.fieldAddr rfl) ?_
  refine XO.q (Q.ld rfl rfl) ?_
  refine XO.q (Q.lss rfl rfl) ?_
  refine XO.done ?_
  refine XK.if rfl (fun c0 => ?_) (fun c0 => ?_)
  · have _t0 := True.intro
    have huC : u < C := by omega
    refine XK.skip ?_
    refine XK.seq ?_
    refine XK.block ?_
    refine XK.seq ?_
    refine XK.region rfl ?_
    refine XO.q (Q.assign rfl) ?_
    refine XO.done ?_
    refine XK.seq ?_
    refine XK.seq ?_
    refine XK.region rfl ?_
    refine XO.q (Q.assign rfl) ?_
    refine XO.done ?_
    refine XK.block ?_
    refine XK.while (X := Nat) [9, 10, 11, 12, 19, 20, 21, 22, 23, 24, 25, 26, 27, 28, 29, 30, 31, 32, 33, 34, 35, 36, 37, 38, 39, 40, 41, 42, 43, 44, 45, 46, 47] (fun w => [(10, some (.int .i64 (w : Nat))), (9, some (.int .i64 (leastTo rank (leads next C K s u) w)))]) (fun w => []) (fun w => w ≤ K) (fun w => K - w) (0) [] rfl (by omega) (.c rfl (.c rfl (.base 0 rfl rfl))) ?_
    rintro w hw ih1
    dsimp only [List.cons_append, List.nil_append] at ih1 ⊢
    refine XK.seq ?_
    refine XK.seq ?_
    refine XK.region rfl ?_
    refine XO.q (Q.move rfl) ?_
    refine XO.q (Q.fieldAddr rfl) ?_
    refine XO.q (Q.ld rfl rfl) ?_
    refine XO.q (Q.lss rfl rfl) ?_
    refine XO.done ?_
    refine XK.if rfl (fun c1 => ?_) (fun c1 => ?_)
    · have _t1 := True.intro
      have hgt := ok.get ((s * C + u) * K + w)
      refine XK.skip ?_
      refine XK.seq ?_
      refine XK.block ?_
      refine XK.seq ?_
      refine XK.region rfl ?_
      refine XO.q (Q.ldA [_, _, _, _, _] rfl rfl rfl) ?_
      refine XO.q (Q.move rfl) ?_
      refine XO.q (Q.move rfl) ?_
      refine XO.q (Q.move rfl) ?_
      refine XO.call Try.call42 rfl rfl rfl (refLeads S C K next good ok vn vg hn s u w hs (by omega) (by omega)) fun v29 s29 R29 => ?_
      obtain ⟨rfl, rfl⟩ := R29
      dsimp only [List.cons_append, List.nil_append]
      refine XO.q (Q.assign rfl) ?_
      refine XO.done ?_
      refine XK.seq ?_
      refine XK.region rfl ?_
      refine XO.q (Q.assign rfl) ?_
      refine XO.done ?_
      refine XK.seq ?_
      refine XK.seq ?_
      refine XK.region rfl ?_
      refine XO.q (Q.move rfl) ?_
      refine XO.q (Q.geq rfl rfl) ?_
      refine XO.done ?_
      refine XK.meet (X := Int) [12, 32, 33, 34, 35] (fun n => [(12, some (.int .i64 n))]) (fun n => []) (fun n => n = lval rank (next.getD ((s * C + u) * K + w) 0)) [] ?_ ?_
      · rintro n hnv
        dsimp only [List.cons_append, List.nil_append]
        have hlw : lval rank ((leads next C K s u).getD w default) = n := by rw [leads_getD (by omega), hnv]
        refine XK.seq ?_
        refine XK.region rfl ?_
        refine XO.q (Q.move rfl) ?_
        refine XO.q (Q.geq rfl rfl) ?_
        refine XO.q (Q.move rfl) ?_
        refine XO.q (Quiet.guardT rfl rfl fun g39 p39 => Q.move rfl) ?_
        refine XO.q (Quiet.guardT rfl rfl fun g40 p40 => Q.lss (lzv g40 rfl) rfl) ?_
        refine XO.q (Quiet.guardT rfl rfl fun g41 p41 => Q.move (lzv g41 rfl)) ?_
        refine XO.q (Quiet.guard2 rfl rfl fun g42a g42b => have p42a := bpT g42a; have p42b := bpF g42b; Q.move rfl) ?_
        refine XO.q (Quiet.guard2 rfl rfl fun g43a g43b => have p43a := bpT g43a; have p43b := bpF g43b; Q.move rfl) ?_
        refine XO.q (Quiet.guard2 rfl rfl fun g44a g44b => have p44a := bpT g44a; have p44b := bpF g44b; Q.lss (lzv g44b (lzv g44a rfl)) (lzv g44b (lzv g44a rfl))) ?_
        refine XO.q (Quiet.guardT rfl rfl fun g45 p45 => Q.or (lzv g45 rfl) (fun hp => (lzv hp (lzv g45 rfl)))) ?_
        refine XO.q (Q.and rfl (fun hp => lzv hp rfl)) ?_
        refine XO.done ?_
        refine XK.if rfl (fun c3 => ?_) (fun c3 => ?_)
        · have _t3 := True.intro
          refine XK.region rfl ?_
          refine XO.q (Q.move rfl) ?_
          refine XO.q (Q.assign rfl) ?_
          refine XO.done ?_
          refine XK.inBlock ?_
          refine XK.region rfl ?_
          refine XO.q (Q.move rfl) ?_
          refine XO.q (Q.add rfl rfl ⟨by omega, by omega⟩) ?_
          refine XO.q (Q.assign rfl) ?_
          refine XO.done ?_
          rw [show n = leastTo rank (leads next C K s u) (w + 1) by rw [leastTo_succ, leastStep, hlw, if_pos c3]]
          exact ih1 (w + 1) _ _ (by omega) (by first | omega | (dsimp only; omega)) (.c rfl (.c rfl (.base 70 rfl rfl))) inferInstance
        · have _t3 := True.intro
          refine XK.skip ?_
          refine XK.inBlock ?_
          refine XK.region rfl ?_
          refine XO.q (Q.move rfl) ?_
          refine XO.q (Q.add rfl rfl ⟨by omega, by omega⟩) ?_
          refine XO.q (Q.assign rfl) ?_
          refine XO.done ?_
          rw [show leastTo rank (leads next C K s u) w = leastTo rank (leads next C K s u) (w + 1) by rw [leastTo_succ, leastStep, hlw, if_neg c3]]
          exact ih1 (w + 1) _ _ (by omega) (by first | omega | (dsimp only; omega)) (.c rfl (.c rfl (.base 68 rfl rfl))) inferInstance
      · intro mt2
        dsimp only [List.cons_append, List.nil_append] at mt2
        refine XK.if rfl (fun c2 => ?_) (fun c2 => ?_)
        · have _t2 := True.intro
          refine XK.region rfl ?_
          refine XO.q (Q.move rfl) ?_
          refine XO.q (Q.move rfl) ?_
          refine XO.ix rfl rfl (by omega) (by omega) fun i34 => ?_
          refine XO.q (Q.ldE rfl (by first | assumption | omega) rfl) ?_
          refine XO.q (Q.assign rfl) ?_
          refine XO.done ?_
          exact mt2 (_) _ _ (by unfold lval; rw [if_pos c2]) (.c rfl (.base 5 rfl rfl)) inferInstance
        · have _t2 := True.intro
          refine XK.skip ?_
          exact mt2 (0) _ _ (by unfold lval; rw [if_neg c2]) (.c rfl (.base 0 rfl rfl)) inferInstance
    · have _t1 := True.intro
      have hwK : w = K := by omega
      rw [hwK]
      refine XK.exit rfl ?_
      refine XK.seq ?_
      refine XK.seq ?_
      refine XK.region rfl ?_
      refine XO.q (Q.move rfl) ?_
      refine XO.q (Q.lss rfl rfl) ?_
      refine XO.done ?_
      refine XK.if rfl (fun c4 => ?_) (fun c4 => ?_)
      · have _t4 := True.intro
        refine XK.seq ?_
        refine XK.region rfl ?_
        refine XO.q (Q.assign rfl) ?_
        refine XO.done ?_
        refine XK.rt [] Try.func72 Try.results72 (.t rfl .n) ?_
        have hx : levelV next C K rank s = -1 := by rw [levelV, if_pos (any_true (s := u) (by omega) (by simpa using c4))]
        exact ⟨by rw [hx], rfl⟩
      · have _t4 := True.intro
        refine XK.skip ?_
        refine XK.region rfl ?_
        refine XO.q (Q.move rfl) ?_
        refine XO.q (Q.move rfl) ?_
        refine XO.q (Q.max rfl rfl) ?_
        refine XO.q (Q.assign rfl) ?_
        refine XO.done ?_
        refine XK.inBlock ?_
        refine XK.region rfl ?_
        refine XO.q (Q.move rfl) ?_
        refine XO.q (Q.add rfl rfl ⟨by omega, by omega⟩) ?_
        refine XO.q (Q.assign rfl) ?_
        refine XO.done ?_
        rw [show max ((List.range u).foldl (fun g u => max g (leastTo rank (leads next C K s u) K)) 0) (leastTo rank (leads next C K s u) K) = (List.range (u + 1)).foldl (fun g u => max g (leastTo rank (leads next C K s u) K)) 0 by rw [List.range_succ, List.foldl_append]; rfl]
        exact ih0 (u + 1) _ _ ⟨by omega, by rw [any_succ, hany, Bool.false_or]; simpa using c4⟩ (by first | omega | (dsimp only; omega)) (.c rfl (.c rfl (.base 103 rfl rfl))) inferInstance
  · have _t0 := True.intro
    refine XK.exit rfl ?_
    refine XK.seq ?_
    refine XK.region rfl ?_
    refine XO.q (Q.move rfl) ?_
    refine XO.q (Q.assign rfl) ?_
    refine XO.done ?_
    refine XK.rt [] Try.func72 Try.results72 (.t rfl .n) ?_
    have huC : u = C := by omega
    rw [huC] at hany
    exact ⟨by rw [levelV, if_neg (by rw [hany]; simp), huC], rfl⟩
end Go.X

set_option linter.unusedSimpArgs false
set_option linter.unusedVariables false
set_option maxRecDepth 20000
namespace Go.X
open Go.Proofs
theorem rkI_len {S : Nat} {next : List Int} {C K : Nat} {F good : List Bool} (k : Nat) : (rkI S next C K F good k).length = S := by
  cases k with
  | zero => simp [rkI]
  | succ k => simp [rkI, stepR]
theorem ctl_kept {next : List Int} {C K : Nat} {set : List Bool} (h : ∀ s, inS set s → 0 ≤ ctlOf next C K set s) : KeptBy next C K (inS set) := fun s hs => by
  have := h s hs
  rcases ctlOf_cases next C K set s with ⟨u, hu, _, hk⟩ | ⟨hc, _⟩
  · exact ⟨u, hu, keepsP_iff.1 hk⟩
  · omega
theorem not_kept {next : List Int} {C K : Nat} {set : List Bool} {A : Nat → Prop} (hA : KeptBy next C K A) (hs : ∀ t, A t → inS set t) {s : Nat} (hc : ctlOf next C K set s < 0) : ¬ A s := fun ha => by
  rw [ctlOf_neg] at hc
  obtain ⟨u, hu, hk⟩ := hA s ha
  have : keepsP next C K set s u = true := keepsP_iff.2 fun n hn => ⟨(hk n hn).1, hs _ (hk n hn).2⟩
  rw [hc u hu] at this; cases this
theorem set_false {l : List Bool} {i s : Nat} : inS (l.set i false) s ↔ inS l s ∧ s ≠ i := by
  have := setAll_get (L := [i]) (l := l) (s := s)
  simp only [List.mem_singleton] at this
  exact this
set_option maxHeartbeats 1000000 in
theorem refSolve (g : G) (vn vg : Value) (hn hg : PHeap) [sn : Arr vn encI 1 hn g.next] [sg : Arr vg encB 1 hg g.good] : Spec Try.prog 49 #[.agg #[.int .i64 g.S, .int .i64 g.C, .int .i64 g.K, vn, vg]] [] [hn, hg] (fun v hs => ∃ v1 v2 v3 k1 k2 k3, v = .tuple #[.agg #[v1, v2, v3], .int .i64 (gcheck g)] ∧ hs = [k1, k2, k3] ∧ OArr v1 encB 1 4 k1 (solveG g).1 ∧ OArr v2 encI 1 3 k2 (solveG g).2.1 ∧ OArr v3 encI 1 3 k3 (solveG g).2.2) := by
  have hnil : OArr (.slice none 0 0) encI 1 3 emp ([] : List Int) := OArr.nil (fun _ => rfl)
  refine Spec.intro (fn := Try.f49) (N := 127) Try.func49 rfl Try.ntmps49 rfl fun B => ?_
  refine XK.seq ?_
  refine XK.region rfl ?_
  refine XO.box rfl fun b1 => ?_
  refine XO.alloc fun b2 => ?_
  refine XO.q (Q.assign rfl) ?_
  refine XO.done ?_
  refine XK.seq ?_
  refine XK.seq ?_
  refine XK.region rfl ?_
  refine XO.q (Q.ldA [_, _, _, _, _] rfl rfl rfl) ?_
  refine XO.call Try.call41 rfl rfl rfl (refCheck g vn vg hn hg) fun v17 s17 R17 => ?_
  obtain ⟨rfl, rfl⟩ := R17
  dsimp only [List.cons_append, List.nil_append]
  refine XO.q (Q.assign rfl) ?_
  refine XO.done ?_
  refine XK.seq ?_
  refine XK.region rfl ?_
  refine XO.q (Q.move rfl) ?_
  refine XO.q (Q.neq rfl rfl) ?_
  refine XO.done ?_
  refine XK.if rfl (fun c0 => ?_) (fun c0 => ?_)
  · have _t0 := True.intro
    refine XK.seq ?_
    refine XK.region rfl ?_
    refine XO.q (Q.build [_, _, _] (.n _)) ?_
    refine XO.q (Q.move rfl) ?_
    refine XO.st rfl rfl rfl ?_
    refine XO.q (Q.assign rfl) ?_
    refine XO.done ?_
    refine XK.rt [emp, emp, emp] Try.func49 Try.results49 (.cell [_, _, _] rfl rfl rfl (.t rfl .n)) ?_
    have hw : solveG g = ([], [], []) := by rw [solveG, if_pos c0]
    rw [hw]
    exact ⟨.slice none 0 0, .slice none 0 0, .slice none 0 0, emp, emp, emp, rfl, rfl, OArr.nil (fun _ => rfl), OArr.nil (fun _ => rfl), OArr.nil (fun _ => rfl)⟩
  · have _t0 := True.intro
    obtain ⟨S, C, K, hS, hC, hK, ok⟩ := gcheck_ok (Decidable.of_not_not c0)
    obtain ⟨gS, gC, gK, next, good⟩ := g
    dsimp only at hS hC hK ok sn sg ⊢
    subst hS hC hK
    have hgl := ok.glen
    have hs1 := ok.s1
    have hs2 := ok.s2
    refine XK.skip ?_
    refine XK.seq ?_
    refine XK.region rfl ?_
    refine XO.q (Q.fieldAddr rfl) ?_
    refine XO.q (Q.ld rfl rfl) ?_
    refine XO.call Try.call45 rfl rfl rfl (copyTruths vg hg good (by omega)) fun v24 s24 R24 => ?_
    obtain ⟨h24, rfl, O24⟩ := R24
    dsimp only [List.cons_append, List.nil_append]
    refine XO.q (Q.build [_, _, _] (.c 0 1 rfl rfl rfl (.n _))) ?_
    refine XO.alloc fun b5 => ?_
    refine XO.st rfl rfl rfl ?_
    refine XO.done ?_
    refine XK.seq ?_
    refine XK.seq ?_
    refine XK.region rfl ?_
    refine XO.q (Q.assign rfl) ?_
    refine XO.done ?_
    refine XK.block ?_
    refine XK.while (X := Bool × PHeap × List Bool) [6, 7, 26, 27, 28, 29, 30, 31, 32, 33, 34, 35, 36, 37, 38, 39, 40, 41, 42, 43, 44, 45, 46, 47, 48, 49] (fun ⟨ag, hz2, set2⟩ => [(6, some (.bool ag))]) (fun ⟨ag, hz2, set2⟩ => [hz2]) (fun ⟨ag, hz2, set2⟩ => set2.length = S ∧ (∀ s, inS set2 s → inS good s) ∧ (∀ A : Nat → Prop, KeptBy next C K A → (∀ s, A s → inS good s) → ∀ s, A s → inS set2 s) ∧ (ag = false → KeptBy next C K (inS set2)) ∧ OArr v24 encB 1 4 hz2 set2) (fun ⟨ag, hz2, set2⟩ => 2 * set2.count true + ag.toNat) (true, h24, good) [h24] rfl ⟨hgl, fun _ h => h, fun _ _ h => h, (fun h => by cases h), O24⟩ (.c rfl (.base 0 rfl rfl)) ?_
    rintro ⟨ag, hz2, set2⟩ ⟨hl2, hg2, hm2, hkp, OZ2⟩ ih0
    dsimp only [List.cons_append, List.nil_append] at ih0 ⊢
    refine XK.seq ?_
    refine XK.seq ?_
    refine XK.region rfl ?_
    refine XO.q (Q.move rfl) ?_
    refine XO.done ?_
    refine XK.if rfl (fun c1 => ?_) (fun c1 => ?_)
    · have _t1 := True.intro
      refine XK.skip ?_
      refine XK.block ?_
      refine XK.seq ?_
      refine XK.region rfl ?_
      refine XO.q (Q.assign rfl) ?_
      refine XO.done ?_
      refine XK.seq ?_
      refine XK.region rfl ?_
      refine XO.q (Q.assign rfl) ?_
      refine XO.done ?_
      refine XK.block ?_
      refine XK.while (X := Nat × Bool × PHeap × List Bool) [6, 7, 27, 28, 29, 30, 31, 32, 33, 34, 35, 36, 37, 38, 39, 40, 41, 42, 43, 44, 45, 46, 47, 48, 49] (fun ⟨s, ah, hz3, set3⟩ => [(7, some (.int .i64 (s : Nat))), (6, some (.bool ah))]) (fun ⟨s, ah, hz3, set3⟩ => [hz3]) (fun ⟨s, ah, hz3, set3⟩ => s ≤ S ∧ set3.length = S ∧ (∀ s, inS set3 s → inS set2 s) ∧ (∀ A : Nat → Prop, KeptBy next C K A → (∀ s, A s → inS good s) → ∀ s, A s → inS set3 s) ∧ set3.count true ≤ set2.count true ∧ (ah = true → set3.count true < set2.count true) ∧ (ah = false → set3 = set2 ∧ ∀ t, t < s → inS set2 t → 0 ≤ ctlOf next C K set2 t) ∧ OArr v24 encB 1 4 hz3 set3) (fun ⟨s, ah, hz3, set3⟩ => S - s) (0, false, hz2, set2) [hz2] rfl ⟨by omega, hl2, fun _ h => h, hm2, Nat.le_refl _, (fun h => by cases h), (fun _ => ⟨rfl, fun s hs => by omega⟩), OZ2⟩ (.c rfl (.c rfl (.base 0 rfl rfl))) ?_
      rintro ⟨s, ah, hz3, set3⟩ ⟨hs, hl3, hsub, hm3, hle, hlt, he, OZ3⟩ ih1
      dsimp only [List.cons_append, List.nil_append] at ih1 ⊢
      refine XK.seq ?_
      refine XK.seq ?_
      refine XK.region rfl ?_
      refine XO.q (Q.move rfl) ?_
      refine XO.q (Q.fieldAddr rfl) ?_
      refine XO.q (Q.ld rfl rfl) ?_
      refine XO.q (Q.lss rfl rfl) ?_
      refine XO.done ?_
      refine XK.if rfl (fun c2 => ?_) (fun c2 => ?_)
      · have _t2 := True.intro
        refine XK.skip ?_
        refine XK.seq ?_
        refine XK.block ?_
        refine XK.seq ?_
        refine XK.region rfl ?_
        refine XO.q (Q.fieldAddr rfl) ?_
        refine XO.q (Q.ld rfl rfl) ?_
        refine XO.q (Q.move rfl) ?_
        refine XO.ix rfl rfl (by omega) (by omega) fun i36 => ?_
        refine XO.q (Q.ldE rfl (by first | assumption | omega) rfl) ?_
        refine XO.q (Q.move rfl) ?_
        refine XO.q (Quiet.guardT rfl rfl fun g39 p39 => Q.ldA [_, _, _, _, _] rfl rfl rfl) ?_
        refine XO.q (Quiet.guardT rfl rfl fun g40 p40 => Q.fieldAddr rfl) ?_
        refine XO.q (Quiet.guardT rfl rfl fun g41 p41 => Q.ld (lzv g41 rfl) rfl) ?_
        refine XO.q (Quiet.guardT rfl rfl fun g42 p42 => Q.move rfl) ?_
        refine XO.gcallT rfl rfl Try.call70 rfl (fun g43 => .c (lzv g43 rfl) (.c (lzv g43 rfl) (.c (lzv g43 rfl) .n))) rfl (fun g43 p43 => refControl S C K next good ok vn vg hn v24 hz3 set3 hl3 s (by omega)) ?_
        refine XO.q (Quiet.guardT rfl rfl fun g44 p44 => Q.lss (lzv g44 rfl) rfl) ?_
        refine XO.q (Q.and rfl (fun hp => lzv hp rfl)) ?_
        refine XO.done ?_
        refine XK.if rfl (fun c3 => ?_) (fun c3 => ?_)
        · have _t3 := True.intro
          obtain ⟨c3a, c3b⟩ := c3
          refine XK.seq ?_
          refine XK.region rfl ?_
          refine XO.q (Q.fieldAddr rfl) ?_
          refine XO.q (Q.ld rfl rfl) ?_
          refine XO.q (Q.move rfl) ?_
          refine XO.ix rfl rfl (by omega) (by omega) fun i49 => ?_
          refine XO.stE _ rfl rfl rfl (by assumption) rfl rfl fun h12_4 O12_4 => ?_
          refine XO.done ?_
          refine XK.region rfl ?_
          refine XO.q (Q.assign rfl) ?_
          refine XO.done ?_
          refine XK.inBlock ?_
          refine XK.region rfl ?_
          refine XO.q (Q.move rfl) ?_
          refine XO.q (Q.add rfl rfl ⟨by omega, by omega⟩) ?_
          rw [show ((s : Int) + 1) = ((s + 1 : Nat) : Int) from rfl]
          refine XO.q (Q.assign rfl) ?_
          refine XO.done ?_
          exact ih1 (s + 1, true, h12_4, set3.set s false) _ _ ⟨by omega, by rw [List.length_set]; exact hl3, fun t ht => hsub t (set_false.1 ht).1, fun A hA hg t ht => set_false.2 ⟨hm3 A hA hg t ht, fun hts => not_kept hA (hm3 A hA hg) c3b (hts ▸ ht)⟩, Nat.le_trans (count_set_le _ _) hle, fun _ => Nat.lt_of_lt_of_le (count_set_lt c3a) hle, (fun h => by cases h), O12_4⟩ (by first | omega | (dsimp only; omega)) (.c rfl (.c rfl (.base 52 rfl rfl))) inferInstance
        · have _t3 := True.intro
          refine XK.skip ?_
          refine XK.inBlock ?_
          refine XK.region rfl ?_
          refine XO.q (Q.move rfl) ?_
          refine XO.q (Q.add rfl rfl ⟨by omega, by omega⟩) ?_
          rw [show ((s : Int) + 1) = ((s + 1 : Nat) : Int) from rfl]
          refine XO.q (Q.assign rfl) ?_
          refine XO.done ?_
          exact ih1 (s + 1, ah, hz3, set3) _ _ ⟨by omega, hl3, hsub, hm3, hle, hlt, fun h => ⟨(he h).1, fun t ht hin => by
              obtain ⟨e3, h3⟩ := he h
              rcases Nat.lt_or_ge t s with h4 | h4
              · exact h3 t h4 hin
              · have h5 : t = s := by omega
                rw [h5] at hin ⊢
                rw [e3] at c3
                exact Classical.byContradiction fun hn => c3 ⟨hin, by omega⟩⟩, OZ3⟩ (by first | omega | (dsimp only; omega)) (.c rfl (.c rfl (.base 47 rfl rfl))) inferInstance
      · have _t2 := True.intro
        refine XK.exit rfl ?_
        refine XK.inBlock ?_
        exact ih0 (ah, hz3, set3) _ _ ⟨hl3, fun s hs => hg2 s (hsub s hs), hm3, fun h => by
            obtain ⟨e3, h3⟩ := he h
            rw [e3]
            exact ctl_kept fun s hs => h3 s (by have h9 : s < set2.length := inS_lt hs; omega) hs, OZ3⟩ (by dsimp only; rw [c1]; cases ah with | true => (have := hlt rfl; simp only [Bool.toNat_true]; omega) | false => (simp only [Bool.toNat_true, Bool.toNat_false]; omega)) (.c rfl (.base 61 rfl rfl)) inferInstance
    · have _t1 := True.intro
      have hkp2 := hkp (by simpa using c1)
      have hF := ref_ins ok hl2 hg2 hkp2 hm2
      obtain ⟨F, eF⟩ : ∃ F, F = set2 := ⟨_, rfl⟩
      rw [← eF] at hF hl2 OZ2
      clear hg2 hm2 hkp hkp2 ih0 c1 eF
      refine XK.exit rfl ?_
      refine XK.seq ?_
      refine XK.seq ?_
      refine XK.region rfl ?_
      refine XO.q (Q.assign rfl) ?_
      refine XO.done ?_
      refine XK.block ?_
      refine XK.while (X := Nat × Value × PHeap × Value × PHeap) [8, 9, 10, 11, 12, 50, 51, 52, 53, 54, 55, 56, 57, 58, 59, 60, 61, 62, 63, 64, 65, 66, 67, 68, 69, 70, 71, 72, 73, 74, 75, 76, 77, 78, 79, 80, 81, 82, 83, 84, 85] (fun ⟨s, vC, hC, vR, hR⟩ => [(8, some (.int .i64 (s : Nat)))]) (fun ⟨s, vC, hC, vR, hR⟩ => [blk b5 [v24, vC, vR] 101, hC, hR]) (fun ⟨s, vC, hC, vR, hR⟩ => s ≤ S ∧ OArr vC encI 1 3 hC ((List.range s).map (ctl0 next C K F)) ∧ OArr vR encI 1 3 hR ((List.range s).map (rank0 F good))) (fun ⟨s, vC, hC, vR, hR⟩ => S - s) (0, .slice none 0 0, emp, .slice none 0 0, emp) [blk b5 [v24, .slice none 0 0, .slice none 0 0] 101, emp, emp] rfl ⟨by omega, by simpa using hnil, by simpa using hnil⟩ (.c rfl (.base 0 rfl rfl)) ?_
      rintro ⟨s, vC, hC, vR, hR⟩ ⟨hs, OC, OR⟩ ih2
      dsimp only [List.cons_append, List.nil_append] at ih2 ⊢
      refine XK.seq ?_
      refine XK.seq ?_
      refine XK.region rfl ?_
      refine XO.q (Q.move rfl) ?_
      refine XO.q (Q.fieldAddr rfl) ?_
      refine XO.q (Q.ld rfl rfl) ?_
      refine XO.q (Q.lss rfl rfl) ?_
      refine XO.done ?_
      refine XK.if rfl (fun c4 => ?_) (fun c4 => ?_)
      · have _t4 := True.intro
        refine XK.skip ?_
        refine XK.seq ?_
        refine XK.block ?_
        refine XK.seq ?_
        refine XK.region rfl ?_
        refine XO.q (Q.assign rfl) ?_
        refine XO.q (Q.assign rfl) ?_
        refine XO.done ?_
        refine XK.seq ?_
        refine XK.seq ?_
        refine XK.region rfl ?_
        refine XO.q (Q.fieldAddr rfl) ?_
        refine XO.q (Q.ld rfl rfl) ?_
        refine XO.q (Q.move rfl) ?_
        refine XO.ix rfl rfl (by omega) (by omega) fun i59 => ?_
        refine XO.q (Q.ldE rfl (by first | assumption | omega) rfl) ?_
        refine XO.done ?_
        refine XK.meet (X := Int × Int) [9, 10, 61, 62, 63, 64, 65, 66, 67, 68, 69, 70, 71] (fun ⟨a, b⟩ => [(9, some (.int .i64 a)), (10, some (.int .i64 b))]) (fun ⟨a, b⟩ => []) (fun ⟨a, b⟩ => a = ctl0 next C K F s ∧ b = rank0 F good s) [] ?_ ?_
        · rintro ⟨a, b⟩ ⟨ha, hb⟩
          dsimp only [List.cons_append, List.nil_append]
          refine XK.seq ?_
          refine XK.drawn [0, 1, 2, 3, 4, 5] [b5] [] (.q 0 (.q 1 (.q 2 (.q 3 (.q 4 (.q 5 .done)))))) Try.mixed rfl (by kernel_rfl) ?_
          refine XT.q rfl rfl (Q.fieldAddr rfl) ?_
          refine XT.q rfl rfl (Q.ld rfl rfl) ?_
          refine XT.q rfl rfl (Q.fieldAddr rfl) ?_
          refine XT.q rfl rfl (Q.ld rfl rfl) ?_
          refine XT.q rfl rfl (Q.assign rfl) ?_
          refine XT.q rfl rfl (Q.assign rfl) ?_
          refine XT.done ?_
          refine XK.seq ?_
          refine XK.region rfl ?_
          refine XO.q (Q.move rfl) ?_
          refine XO.q (Q.move rfl) ?_
          refine XO.lit [_] [_] [_] encI (by rfl) (by rfl) rfl (by rfl) (by exact .c 0 1 rfl rfl rfl (.n _)) (fun _ => rfl) (by rfl) rfl (by infer_instance) rfl fun v78 h78 O78 => ?_
          refine XO.append rfl rfl rfl rfl (by simp only [List.length_map, List.length_range, List.length_cons, List.length_nil]; omega) fun v79 h79 O79 => ?_
          refine XO.q (Q.fieldAddr rfl) ?_
          refine XO.st rfl rfl rfl ?_
          refine XO.done ?_
          refine XK.region rfl ?_
          refine XO.q (Q.move rfl) ?_
          refine XO.q (Q.move rfl) ?_
          refine XO.lit [_] [_] [_] encI (by rfl) (by rfl) rfl (by rfl) (by exact .c 0 1 rfl rfl rfl (.n _)) (fun _ => rfl) (by rfl) rfl (by infer_instance) rfl fun v83 h83 O83 => ?_
          refine XO.append rfl rfl rfl rfl (by simp only [List.length_map, List.length_range, List.length_cons, List.length_nil]; omega) fun v84 h84 O84 => ?_
          refine XO.q (Q.fieldAddr rfl) ?_
          refine XO.st rfl rfl rfl ?_
          refine XO.done ?_
          refine XK.inBlock ?_
          refine XK.region rfl ?_
          refine XO.q (Q.move rfl) ?_
          refine XO.q (Q.add rfl rfl ⟨by omega, by omega⟩) ?_
          rw [show ((s : Int) + 1) = ((s + 1 : Nat) : Int) from rfl]
          refine XO.q (Q.assign rfl) ?_
          refine XO.done ?_
          exact ih2 (s + 1, v79, h79, v84, h84) _ _ ⟨by omega, by rw [range_map_succ, ← ha]; exact O79, by rw [range_map_succ, ← hb]; exact O84⟩ (by first | omega | (dsimp only; omega)) (.c rfl (.base 87 rfl rfl)) inferInstance
        · intro mt5
          dsimp only [List.cons_append, List.nil_append] at mt5
          refine XK.if rfl (fun c5 => ?_) (fun c5 => ?_)
          · have _t5 := True.intro
            refine XK.region rfl ?_
            refine XO.q (Q.ldA [_, _, _, _, _] rfl rfl rfl) ?_
            refine XO.q (Q.fieldAddr rfl) ?_
            refine XO.q (Q.ld rfl rfl) ?_
            refine XO.q (Q.move rfl) ?_
            refine XO.call Try.call70 rfl rfl rfl (refControl S C K next good ok vn vg hn v24 hz2 F hl2 s (by omega)) fun v65 s65 R65 => ?_
            obtain ⟨rfl, rfl⟩ := R65
            dsimp only [List.cons_append, List.nil_append]
            refine XO.q (Q.assign rfl) ?_
            refine XO.done ?_
            exact mt5 ((_, _)) _ _ ⟨(by rw [ctl0, if_pos c5]; rfl), (by rw [rank0, if_pos c5])⟩ (.c rfl (.c rfl (.base 6 rfl rfl))) inferInstance
          · have _t5 := True.intro
            refine XK.seq ?_
            refine XK.region rfl ?_
            refine XO.q (Q.fieldAddr rfl) ?_
            refine XO.q (Q.ld rfl rfl) ?_
            refine XO.q (Q.move rfl) ?_
            refine XO.ix rfl rfl (by omega) (by omega) fun i69 => ?_
            refine XO.q (Q.ldE rfl (by first | assumption | omega) rfl) ?_
            refine XO.q (Q.not rfl) ?_
            refine XO.done ?_
            refine XK.if rfl (fun c6 => ?_) (fun c6 => ?_)
            · have _t6 := True.intro
              refine XK.region rfl ?_
              refine XO.q (Q.assign rfl) ?_
              refine XO.done ?_
              exact mt5 ((_, _)) _ _ ⟨(by rw [ctl0, if_neg c5]), (by rw [rank0, if_neg c5, if_pos c6])⟩ (.c rfl (.c rfl (.base 7 rfl rfl))) inferInstance
            · have _t6 := True.intro
              refine XK.skip ?_
              exact mt5 ((_, _)) _ _ ⟨(by rw [ctl0, if_neg c5]), (by rw [rank0, if_neg c5, if_neg c6])⟩ (.c rfl (.c rfl (.base 6 rfl rfl))) inferInstance
      · have _t4 := True.intro
        refine XK.exit rfl ?_
        refine XK.seq ?_
        refine XK.seq ?_
        refine XK.region rfl ?_
        refine XO.q (Q.assign rfl) ?_
        refine XO.done ?_
        refine XK.block ?_
        refine XK.while (X := Nat × PHeap) [13, 14, 15, 86, 87, 88, 89, 90, 91, 92, 93, 94, 95, 96, 97, 98, 99, 100, 101, 102, 103, 104, 105, 106, 107, 108, 109, 110, 111, 112, 113, 114, 115, 116, 117, 118, 119, 120, 121, 122, 123, 124, 125] (fun ⟨k, hK⟩ => [(13, some (.int .i64 ((k + 1 : Nat) : Int)))]) (fun ⟨k, hK⟩ => [hK]) (fun ⟨k, hK⟩ => k ≤ S ∧ OArr vR encI 1 3 hK (rkI S next C K F good k)) (fun ⟨k, hK⟩ => S - k) (0, hR) [hR] rfl ⟨by omega, by rw [rkI, show S = s by omega]; exact OR⟩ (.c rfl (.base 0 rfl rfl)) ?_
        rintro ⟨k, hK⟩ ⟨hk, OK⟩ ih3
        dsimp only [List.cons_append, List.nil_append] at ih3 ⊢
        refine XK.seq ?_
        refine XK.seq ?_
        refine XK.region rfl ?_
        refine XO.q (Q.move rfl) ?_
        refine XO.q (Q.fieldAddr rfl) ?_
        refine XO.q (Q.ld rfl rfl) ?_
        refine XO.q (Q.leq rfl rfl) ?_
        refine XO.done ?_
        refine XK.if rfl (fun c7 => ?_) (fun c7 => ?_)
        · have _t7 := True.intro
          refine XK.skip ?_
          refine XK.seq ?_
          refine XK.block ?_
          refine XK.seq ?_
          refine XK.region rfl ?_
          refine XO.q (Q.fieldAddr rfl) ?_
          refine XO.q (Q.ld rfl rfl) ?_
          refine XO.call Try.call71 rfl rfl rfl (copyInts vR hK (rkI S next C K F good k) (by rw [rkI_len]; omega)) fun v94 s94 R94 => ?_
          obtain ⟨h94, rfl, O94⟩ := R94
          dsimp only [List.cons_append, List.nil_append]
          refine XO.q (Q.assign rfl) ?_
          refine XO.done ?_
          refine XK.seq ?_
          refine XK.region rfl ?_
          refine XO.q (Q.assign rfl) ?_
          refine XO.done ?_
          refine XK.block ?_
          refine XK.while (X := Nat × PHeap × List Int) [15, 95, 96, 97, 98, 99, 100, 101, 102, 103, 104, 105, 106, 107, 108, 109, 110, 111, 112, 113, 114, 115, 116, 117, 118, 119, 120, 121, 122, 123, 124, 125] (fun ⟨s, hM, rk⟩ => [(15, some (.int .i64 (s : Nat)))]) (fun ⟨s, hM, rk⟩ => [hM]) (fun ⟨s, hM, rk⟩ => s ≤ S ∧ rk.length = S ∧ (∀ t, t < S → rk.getD t 0 = if t < s then stepRv next C K F ((k + 1 : Nat) : Int) (rkI S next C K F good k) t else (rkI S next C K F good k).getD t 0) ∧ OArr vR encI 1 3 hM rk) (fun ⟨s, hM, rk⟩ => S - s) (0, hK, rkI S next C K F good k) [hK] rfl ⟨by omega, rkI_len k, fun t ht => by rw [if_neg (by omega)], OK⟩ (.c rfl (.base 0 rfl rfl)) ?_
          rintro ⟨s, hM, rk⟩ ⟨hs, hrl, hrp, OM⟩ ih4
          dsimp only [List.cons_append, List.nil_append] at ih4 ⊢
          refine XK.seq ?_
          refine XK.seq ?_
          refine XK.region rfl ?_
          refine XO.q (Q.move rfl) ?_
          refine XO.q (Q.fieldAddr rfl) ?_
          refine XO.q (Q.ld rfl rfl) ?_
          refine XO.q (Q.lss rfl rfl) ?_
          refine XO.done ?_
          refine XK.if rfl (fun c8 => ?_) (fun c8 => ?_)
          · have _t8 := True.intro
            have hlk : (rkI S next C K F good k).length = S := rkI_len k
            refine XK.skip ?_
            refine XK.seq ?_
            refine XK.block ?_
            refine XK.seq ?_
            refine XK.region rfl ?_
            refine XO.q (Q.fieldAddr rfl) ?_
            refine XO.q (Q.ld rfl rfl) ?_
            refine XO.q (Q.move rfl) ?_
            refine XO.ix rfl rfl (by omega) (by omega) fun i104 => ?_
            refine XO.q (Q.ldE rfl (by first | assumption | omega) rfl) ?_
            refine XO.q (Q.not rfl) ?_
            refine XO.q (Q.move rfl) ?_
            refine XO.q (Quiet.guardT rfl rfl fun g108 p108 => Q.move rfl) ?_
            refine XO.q (Quiet.guardT rfl rfl fun g109 p109 => Q.move rfl) ?_
            refine XO.q (Quiet.guardT rfl rfl fun g110 p110 => Q.ix (lzv g110 rfl) (lzv g110 rfl) (by omega) (by omega)) ?_
            refine XO.q (Quiet.guardT rfl rfl fun g111 p111 => Q.ldE (lzv g111 rfl) (by first | assumption | omega) rfl) ?_
            refine XO.q (Quiet.guardT rfl rfl fun g112 p112 => Q.lss (lzv g112 rfl) rfl) ?_
            refine XO.q (Q.and rfl (fun hp => lzv hp rfl)) ?_
            refine XO.q (Q.move rfl) ?_
            refine XO.q (Quiet.guardT rfl rfl fun g115 p115 => Q.ldA [_, _, _, _, _] rfl rfl rfl) ?_
            refine XO.q (Quiet.guardT rfl rfl fun g116 p116 => Q.move rfl) ?_
            refine XO.q (Quiet.guardT rfl rfl fun g117 p117 => Q.move rfl) ?_
            refine XO.gcallT rfl rfl Try.call72 rfl (fun g118 => .c (lzv g118 rfl) (.c (lzv g118 rfl) (.c (lzv g118 rfl) .n))) rfl (fun g118 p118 => refLevel S C K next good ok vn vg hn v94 h94 (rkI S next C K F good k) (rkI_len k) s (by omega)) ?_
            refine XO.q (Quiet.guardT rfl rfl fun g119 p119 => Q.geq (lzv g119 rfl) rfl) ?_
            refine XO.q (Q.and rfl (fun hp => lzv hp rfl)) ?_
            refine XO.done ?_
            refine XK.if rfl (fun c9 => ?_) (fun c9 => ?_)
            · have _t9 := True.intro
              refine XK.region rfl ?_
              refine XO.q (Q.fieldAddr rfl) ?_
              refine XO.q (Q.ld rfl rfl) ?_
              refine XO.q (Q.move rfl) ?_
              refine XO.q (Q.move rfl) ?_
              refine XO.ix rfl rfl (by omega) (by omega) fun i125 => ?_
              refine XO.stE _ rfl rfl rfl (by assumption) rfl rfl fun h33_5 O33_5 => ?_
              refine XO.done ?_
              refine XK.inBlock ?_
              refine XK.region rfl ?_
              refine XO.q (Q.move rfl) ?_
              refine XO.q (Q.add rfl rfl ⟨by omega, by omega⟩) ?_
              rw [show ((s : Int) + 1) = ((s + 1 : Nat) : Int) from rfl]
              refine XO.q (Q.assign rfl) ?_
              refine XO.done ?_
              exact ih4 (s + 1, h33_5, rk.set s ((k + 1 : Nat) : Int)) _ _ ⟨by omega, by rw [List.length_set]; exact hrl, fun t ht => by
                  rw [List.getD_eq_getElem?_getD, List.getElem?_set]
                  by_cases h1 : s = t
                  · subst h1
                    rw [if_pos rfl, if_pos (by omega), if_pos (by omega), stepRv, if_pos c9]; rfl
                  · rw [if_neg h1, ← List.getD_eq_getElem?_getD, hrp t ht]
                    by_cases h2 : t < s
                    · rw [if_pos h2, if_pos (by omega)]
                    · rw [if_neg h2, if_neg (by omega)], O33_5⟩ (by first | omega | (dsimp only; omega)) (.c rfl (.base 65 rfl rfl)) inferInstance
            · have _t9 := True.intro
              refine XK.skip ?_
              refine XK.inBlock ?_
              refine XK.region rfl ?_
              refine XO.q (Q.move rfl) ?_
              refine XO.q (Q.add rfl rfl ⟨by omega, by omega⟩) ?_
              rw [show ((s : Int) + 1) = ((s + 1 : Nat) : Int) from rfl]
              refine XO.q (Q.assign rfl) ?_
              refine XO.done ?_
              exact ih4 (s + 1, hM, rk) _ _ ⟨by omega, hrl, fun t ht => by
                  rw [hrp t ht]
                  by_cases h2 : t < s
                  · rw [if_pos h2, if_pos (by omega)]
                  · rw [if_neg h2]
                    by_cases h1 : t = s
                    · subst h1
                      rw [if_pos (by omega), stepRv, if_neg c9]; rfl
                    · rw [if_neg (by omega)], OM⟩ (by first | omega | (dsimp only; omega)) (.c rfl (.base 60 rfl rfl)) inferInstance
          · have _t8 := True.intro
            refine XK.exit rfl ?_
            refine XK.inBlock ?_
            refine XK.region rfl ?_
            refine XO.q (Q.move rfl) ?_
            refine XO.q (Q.add rfl rfl ⟨by omega, by omega⟩) ?_
            rw [show (((k + 1 : Nat) : Int) + 1) = ((k + 1 + 1 : Nat) : Int) from rfl]
            refine XO.q (Q.assign rfl) ?_
            refine XO.done ?_
            have hrk : rk = rkI S next C K F good (k + 1) := by
              rw [rkI, stepR]
              refine list_ext_getD (S := S) hrl (by simp) fun t ht => ?_
              rw [range_getD ht, hrp t ht, if_pos (by omega)]
            rw [hrk] at OM
            exact ih3 (k + 1, hM) _ _ ⟨by dsimp only; omega, OM⟩ (by first | omega | (dsimp only; omega)) (.c rfl (.base 93 rfl rfl)) inferInstance
        · have _t7 := True.intro
          refine XK.exit rfl ?_
          refine XK.seq ?_
          refine XK.region rfl ?_
          refine XO.q (Q.ldA [_, _, _] rfl rfl rfl) ?_
          refine XO.st rfl rfl rfl ?_
          refine XO.q (Q.assign rfl) ?_
          refine XO.done ?_
          refine XK.rt [hz2, hC, hK] Try.func49 Try.results49 (.cell [_, _, _] rfl rfl rfl (.t rfl .n)) ?_
          have hw : solveG ⟨S, C, K, next, good⟩ = solved S C K next good := solveG_mk ok
          have hw0 : gcheck ⟨S, C, K, next, good⟩ = 0 := Decidable.of_not_not c0
          have hkS : k = S := by omega
          have hsS : s = S := by omega
          rw [hsS] at OC
          rw [hkS] at OK
          rw [hF] at OC OK OZ2
          rw [ref_ctl ok] at OC
          rw [ref_rnk ok] at OK
          rw [hw, hw0]
          exact ⟨v24, vC, vR, hz2, hC, hK, rfl, rfl, OZ2, OC, OK⟩
end Go.X

set_option linter.unusedSimpArgs false
set_option linter.unusedVariables false
set_option maxRecDepth 20000
namespace Go.X
open Go.Proofs
section
variable {C K : Nat} {next : List Int} {good ins : List Bool} {ctl rnk : List Int} {s : Nat}
theorem right_in (h : ins.getD s default = true) : rightP C K next good ins ctl rnk s = true ↔ (((good.getD s default = true ∧ 0 ≤ ctl.getD s default) ∧ ctl.getD s default < (C : Int)) ∧ rnk.getD s default = -1) ∧ keepsP next C K ins s (ctl.getD s default).toNat = true := by
  unfold rightP; rw [if_pos h]; simp only [Bool.and_eq_true, decide_eq_true_eq]
theorem right_out (h : ¬ ins.getD s default = true) : rightP C K next good ins ctl rnk s = true ↔ ctl.getD s default = -1 ∧ ((rnk.getD s default = 0 ∧ ¬ good.getD s default = true) ∨ (0 < rnk.getD s default ∧ lostP next C K ins rnk s = true)) := by
  unfold rightP; rw [if_neg h]
  by_cases h2 : rnk.getD s default = 0
  · rw [if_pos h2]; simp only [Bool.and_eq_true, decide_eq_true_eq, Bool.not_eq_true']
    constructor
    · rintro ⟨a, b⟩; exact ⟨a, .inl ⟨h2, by rw [b]; simp⟩⟩
    · rintro ⟨a, ⟨_, b⟩ | ⟨b, _⟩⟩
      · exact ⟨a, by simpa using b⟩
      · omega
  · rw [if_neg h2]; simp only [Bool.and_eq_true, decide_eq_true_eq]
    constructor
    · rintro ⟨⟨a, b⟩, c⟩; exact ⟨a, .inr ⟨b, c⟩⟩
    · rintro ⟨a, ⟨b, _⟩ | ⟨b, c⟩⟩
      · exact absurd b h2
      · exact ⟨⟨a, b⟩, c⟩
end
theorem refLost (S C K : Nat) (next : List Int) (good : List Bool) (ok : Ok S C K next good) (vn vg : Value) (hn : PHeap) [sn : Arr vn encI 1 hn next] [og : One vg] (vi vc vr : Value) (hi hr : PHeap) (ins : List Bool) [si : Arr vi encB 1 hi ins] (rnk : List Int) [sr : Arr vr encI 1 hr rnk] [oc : One vc] (hlen : ins.length = S) (hrl : rnk.length = S) (s : Nat) (hs : s < S) :
    Spec Try.prog 75 #[.agg #[.int .i64 (S : Nat), .int .i64 (C : Nat), .int .i64 (K : Nat), vn, vg], .agg #[vi, vc, vr], .int .i64 (s : Nat)] [] [hn, hi, hr] (fun v hs => v = .bool (lostP next C K ins rnk s) ∧ hs = []) := by
  have hc2 := ok.c2
  have hk2 := ok.k2
  refine Spec.intro (fn := Try.f75) (N := 56) Try.func75 rfl Try.ntmps75 rfl fun B => ?_
  refine XK.seq ?_
  refine XK.region rfl ?_
  refine XO.box rfl fun b3 => ?_
  refine XO.box rfl fun b4 => ?_
  refine XO.q (Q.assign rfl) ?_
  refine XO.done ?_
  refine XK.seq ?_
  refine XK.seq ?_
  refine XK.region rfl ?_
  refine XO.q (Q.assign rfl) ?_
  refine XO.done ?_
  refine XK.block ?_
  refine XK.while (X := Nat) [6, 7, 8, 9, 10, 11, 12, 13, 14, 15, 16, 17, 18, 19, 20, 21, 22, 23, 24, 25, 26, 27, 28, 29, 30, 31, 32, 33, 34, 35, 36, 37, 38, 39, 40, 41, 42, 43, 44, 45, 46, 47, 48, 49, 50, 51, 52, 53, 54, 55] (fun u => [(7, some (.int .i64 (u : Nat)))]) (fun u => []) (fun u => u ≤ C ∧ (List.range u).all (fun u => (leads next C K s u).any (badL ins rnk s)) = true) (fun u => C - u) (0) [] rfl ⟨by omega, rfl⟩ (.c rfl (.base 0 rfl rfl)) ?_
  rintro u ⟨hu, hall⟩ ih0
  dsimp only [List.cons_append, List.nil_append] at ih0 ⊢
  refine XK.seq ?_
  refine XK.seq ?_
  refine XK.region rfl ?_
  refine XO.q (Q.move rfl) ?_
  refine XO.q (Q.fieldAddr rfl) ?_
  refine XO.q (Q.ld rfl rfl) ?_
  refine XO.q (Q.lss rfl rfl) ?_
  refine XO.done ?_
  refine XK.if rfl (fun c0 => ?_) (fun c0 => ?_)
  · have _t0 := True.intro
    refine XK.skip ?_
    refine XK.seq ?_
    refine XK.block ?_
    refine XK.seq ?_
    refine XK.region rfl ?_
    refine XO.q (Q.assign rfl) ?_
    refine XO.done ?_
    refine XK.seq ?_
    refine XK.seq ?_
    refine XK.region rfl ?_
    refine XO.q (Q.assign rfl) ?_
    refine XO.done ?_
    refine XK.block ?_
    refine XK.while (X := Nat) [8, 9, 10, 17, 18, 19, 20, 21, 22, 23, 24, 25, 26, 27, 28, 29, 30, 31, 32, 33, 34, 35, 36, 37, 38, 39, 40, 41, 42, 43, 44, 45, 46, 47, 48, 49, 50, 51, 52, 53] (fun w => [(9, some (.int .i64 (w : Nat))), (8, some (.bool (((leads next C K s u).take w).any (badL ins rnk s))))]) (fun w => []) (fun w => w ≤ K) (fun w => K - w) (0) [] rfl (by omega) (.c rfl (.c rfl (.base 0 rfl rfl))) ?_
    rintro w hw ih1
    dsimp only [List.cons_append, List.nil_append] at ih1 ⊢
    refine XK.seq ?_
    refine XK.seq ?_
    refine XK.region rfl ?_
    refine XO.q (Q.move rfl) ?_
    refine XO.q (Q.fieldAddr rfl) ?_
    refine XO.q (Q.ld rfl rfl) ?_
    refine XO.q (Q.lss rfl rfl) ?_
    refine XO.done ?_
    refine XK.if rfl (fun c1 => ?_) (fun c1 => ?_)
    · have _t1 := True.intro
      have hls := leads_succ (next := next) (s := s) (v := u) (K := K) (C := C) (w := w) (by omega) (by have := lead_le (K := K) hs (show u < C by omega); have := ok.len; omega)
      have hgt := ok.get ((s * C + u) * K + w)
      refine XK.skip ?_
      refine XK.seq ?_
      refine XK.block ?_
      refine XK.seq ?_
      refine XK.region rfl ?_
      refine XO.q (Q.ldA [_, _, _, _, _] rfl rfl rfl) ?_
      refine XO.q (Q.move rfl) ?_
      refine XO.q (Q.move rfl) ?_
      refine XO.q (Q.move rfl) ?_
      refine XO.call Try.call42 rfl rfl rfl (refLeads S C K next good ok vn vg hn s u w hs (by omega) (by omega)) fun v27 s27 R27 => ?_
      obtain ⟨rfl, rfl⟩ := R27
      dsimp only [List.cons_append, List.nil_append]
      refine XO.q (Q.assign rfl) ?_
      refine XO.done ?_
      refine XK.drawn [0, 1, 2, 3, 4, 5, 6, 7, 8, 9, 10, 11, 12, 13, 14, 15, 16, 17, 18, 19, 20, 21, 22, 23, 24, 25, 26] [b4] [] (.q 0 (.q 1 (.q 2 (.q 3 (.q 4 (.q 5 (.q 6 (.q 7 (.q 8 (.q 9 (.q 10 (.q 11 (.q 12 (.q 13 (.q 14 (.q 15 (.q 16 (.q 17 (.q 18 (.q 19 (.q 20 (.q 21 (.q 22 (.q 23 (.q 24 (.q 25 (.q 26 .done))))))))))))))))))))))))))) Try.mixed rfl (by kernel_rfl) ?_
      refine XT.q rfl rfl (Q.move rfl) ?_
      refine XT.q rfl rfl (Q.move rfl) ?_
      refine XT.q rfl rfl (Quiet.guardF rfl rfl fun g30 p30 => Q.move rfl) ?_
      refine XT.q rfl rfl (Quiet.guardF rfl rfl fun g31 p31 => Q.lss (lzv g31 rfl) rfl) ?_
      refine XT.q rfl rfl (Q.or rfl (fun hp => lzv hp rfl)) ?_
      refine XT.q rfl rfl (Q.move rfl) ?_
      refine XT.q rfl rfl (Quiet.guardF rfl rfl fun g34 p34 => Q.fieldAddr rfl) ?_
      refine XT.q rfl rfl (Quiet.guardF rfl rfl fun g35 p35 => Q.ld (lzv g35 rfl) rfl) ?_
      refine XT.q rfl rfl (Quiet.guardF rfl rfl fun g36 p36 => Q.move rfl) ?_
      refine XT.q rfl rfl (Quiet.guardF rfl rfl fun g37 p37 => Q.ix (lzv g37 rfl) (lzv g37 rfl) (by omega) (by omega)) ?_
      refine XT.q rfl rfl (Quiet.guardF rfl rfl fun g38 p38 => Q.ldE (lzv g38 rfl) (by first | assumption | omega) rfl) ?_
      refine XT.q rfl rfl (Quiet.guardF rfl rfl fun g39 p39 => Q.not (lzv g39 rfl)) ?_
      refine XT.q rfl rfl (Quiet.guardF rfl rfl fun g40 p40 => Q.move (lzv g40 rfl)) ?_
      refine XT.q rfl rfl (Quiet.guard2 rfl rfl fun g41a g41b => have p41a := bpF g41a; have p41b := bpT g41b; Q.fieldAddr rfl) ?_
      refine XT.q rfl rfl (Quiet.guard2 rfl rfl fun g42a g42b => have p42a := bpF g42a; have p42b := bpT g42b; Q.ld (lzv g42b (lzv g42a rfl)) rfl) ?_
      refine XT.q rfl rfl (Quiet.guard2 rfl rfl fun g43a g43b => have p43a := bpF g43a; have p43b := bpT g43b; Q.move rfl) ?_
      refine XT.q rfl rfl (Quiet.guard2 rfl rfl fun g44a g44b => have p44a := bpF g44a; have p44b := bpT g44b; Q.ix (lzv g44b (lzv g44a rfl)) (lzv g44b (lzv g44a rfl)) (by omega) (by omega)) ?_
      refine XT.q rfl rfl (Quiet.guard2 rfl rfl fun g45a g45b => have p45a := bpF g45a; have p45b := bpT g45b; Q.ldE (lzv g45b (lzv g45a rfl)) (by first | assumption | omega) rfl) ?_
      refine XT.q rfl rfl (Quiet.guard2 rfl rfl fun g46a g46b => have p46a := bpF g46a; have p46b := bpT g46b; Q.fieldAddr rfl) ?_
      refine XT.q rfl rfl (Quiet.guard2 rfl rfl fun g47a g47b => have p47a := bpF g47a; have p47b := bpT g47b; Q.ld (lzv g47b (lzv g47a rfl)) rfl) ?_
      refine XT.q rfl rfl (Quiet.guard2 rfl rfl fun g48a g48b => have p48a := bpF g48a; have p48b := bpT g48b; Q.move rfl) ?_
      refine XT.q rfl rfl (Quiet.guard2 rfl rfl fun g49a g49b => have p49a := bpF g49a; have p49b := bpT g49b; Q.ix (lzv g49b (lzv g49a rfl)) (lzv g49b (lzv g49a rfl)) (by omega) (by omega)) ?_
      refine XT.q rfl rfl (Quiet.guard2 rfl rfl fun g50a g50b => have p50a := bpF g50a; have p50b := bpT g50b; Q.ldE (lzv g50b (lzv g50a rfl)) (by first | assumption | omega) rfl) ?_
      refine XT.q rfl rfl (Quiet.guard2 rfl rfl fun g51a g51b => have p51a := bpF g51a; have p51b := bpT g51b; Q.lss (lzv g51b (lzv g51a rfl)) (lzv g51b (lzv g51a rfl))) ?_
      refine XT.q rfl rfl (Quiet.guardF rfl rfl fun g52 p52 => Q.and (lzv g52 rfl) (fun hp => (lzv hp (lzv g52 rfl)))) ?_
      refine XT.q rfl rfl (Q.or rfl (fun hp => lzv hp rfl)) ?_
      refine XT.q rfl rfl (Q.assign rfl) ?_
      refine XT.done ?_
      refine XK.inBlock ?_
      refine XK.region rfl ?_
      refine XO.q (Q.move rfl) ?_
      refine XO.q (Q.add rfl rfl ⟨by omega, by omega⟩) ?_
      refine XO.q (Q.assign rfl) ?_
      refine XO.done ?_
      have hfa : ((leads next C K s u).take (w + 1)).any (badL ins rnk s) = ((((leads next C K s u).take w).any (badL ins rnk s) || decide (next.getD ((s * C + u) * K + w) 0 < 0)) || (!(ins.getD (next.getD ((s * C + u) * K + w) 0).toNat default) && decide (rnk.getD (next.getD ((s * C + u) * K + w) 0).toNat default < rnk.getD s default))) := by
        rw [hls, List.any_append, Bool.or_assoc]
        simp only [List.any_cons, List.any_nil, Bool.or_false]
        rfl
      rw [← hfa]
      exact ih1 (w + 1) _ _ (by omega) (by first | omega | (dsimp only; omega)) (.c rfl (.c rfl (.base 82 rfl rfl))) inferInstance
    · have _t1 := True.intro
      have hwK : w = K := by omega
      refine XK.exit rfl ?_
      refine XK.seq ?_
      refine XK.region rfl ?_
      refine XO.q (Q.move rfl) ?_
      refine XO.q (Q.not rfl) ?_
      refine XO.done ?_
      refine XK.if rfl (fun c2 => ?_) (fun c2 => ?_)
      · have _t2 := True.intro
        refine XK.seq ?_
        refine XK.region rfl ?_
        refine XO.q (Q.assign rfl) ?_
        refine XO.done ?_
        refine XK.rt [] Try.func75 Try.results75 (.t rfl .n) ?_
        exact ⟨by rw [lostP, all_false (s := u) (by omega) (by have h := c2; rw [hwK, leads_full] at h; simpa using h)], rfl⟩
      · have _t2 := True.intro
        refine XK.skip ?_
        refine XK.inBlock ?_
        refine XK.region rfl ?_
        refine XO.q (Q.move rfl) ?_
        refine XO.q (Q.add rfl rfl ⟨by omega, by omega⟩) ?_
        refine XO.q (Q.assign rfl) ?_
        refine XO.done ?_
        exact ih0 (u + 1) _ _ ⟨by omega, by rw [all_succ, hall, Bool.true_and]; have h := Classical.byContradiction fun h => c2 h; rw [hwK, leads_full] at h; exact h⟩ (by first | omega | (dsimp only; omega)) (.c rfl (.base 108 rfl rfl)) inferInstance
  · have _t0 := True.intro
    refine XK.exit rfl ?_
    refine XK.seq ?_
    refine XK.region rfl ?_
    refine XO.q (Q.assign rfl) ?_
    refine XO.done ?_
    refine XK.rt [] Try.func75 Try.results75 (.t rfl .n) ?_
    have hC : u = C := by omega
    subst hC
    exact ⟨by rw [lostP, hall], rfl⟩
theorem refKeepsI (S C K : Nat) (next : List Int) (good : List Bool) (ok : Ok S C K next good) (vn vg : Value) (hn : PHeap) [sn : Arr vn encI 1 hn next] [og : One vg] (vs : Value) (hz : PHeap) (set : List Bool) [ss : Arr vs encB 1 hz set] (hlen : set.length = S) (s : Nat) (u : Int) (hs : s < S) (hu : 0 ≤ u) (hu' : u < C) : Spec Try.prog 74 #[.agg #[.int .i64 (S : Nat), .int .i64 (C : Nat), .int .i64 (K : Nat), vn, vg], vs, .int .i64 (s : Nat), .int .i64 u] [] [hn, hz]
    (fun v hs => v = .bool (keepsP next C K set s u.toNat) ∧ hs = []) := by
  obtain ⟨n, rfl⟩ := Int.eq_ofNat_of_zero_le hu
  exact refKeeps S C K next good ok vn vg hn vs hz set hlen s n hs (by omega)
theorem refLeadsI (S C K : Nat) (next : List Int) (good : List Bool) (ok : Ok S C K next good) (vn vg : Value) (hn : PHeap) [sn : Arr vn encI 1 hn next] [og : One vg] (s u w : Int) (hs : 0 ≤ s) (hs' : s < S) (hu : 0 ≤ u) (hu' : u < C) (hw : 0 ≤ w) (hw' : w < K) : Spec Try.prog 42 #[.agg #[.int .i64 (S : Nat), .int .i64 (C : Nat), .int .i64 (K : Nat), vn, vg], .int .i64 s, .int .i64 u, .int .i64 w] [] [hn]
    (fun v hs => v = .int .i64 (leadAt next C K s u w) ∧ hs = []) := by
  obtain ⟨s, rfl⟩ := Int.eq_ofNat_of_zero_le hs
  obtain ⟨u, rfl⟩ := Int.eq_ofNat_of_zero_le hu
  obtain ⟨w, rfl⟩ := Int.eq_ofNat_of_zero_le hw
  exact refLeads S C K next good ok vn vg hn s u w (by omega) (by omega) (by omega)
theorem refVerify (g : G) (vn vg : Value) (hn hg : PHeap) [sn : Arr vn encI 1 hn g.next] [sg : Arr vg encB 1 hg g.good] (vi vc vr : Value) (hi hc hr : PHeap) (ins : List Bool) [si : Arr vi encB 1 hi ins] (ctl : List Int) [sc : Arr vc encI 1 hc ctl] (rnk : List Int) [sr : Arr vr encI 1 hr rnk] : Spec Try.prog 53 #[.agg #[.int .i64 g.S, .int .i64 g.C, .int .i64 g.K, vn, vg], .agg #[vi, vc, vr]] [] [hn, hg, hi, hc, hr] (fun v hs => v = .int .i64 (verifyG g ins ctl rnk) ∧ hs = []) := by
  refine Spec.intro (fn := Try.f53) (N := 112) Try.func53 rfl Try.ntmps53 rfl fun B => ?_
  refine XK.seq ?_
  refine XK.region rfl ?_
  refine XO.box rfl fun b2 => ?_
  refine XO.box rfl fun b3 => ?_
  refine XO.q (Q.assign rfl) ?_
  refine XO.done ?_
  refine XK.seq ?_
  refine XK.seq ?_
  refine XK.region rfl ?_
  refine XO.q (Q.ldA [_, _, _, _, _] rfl rfl rfl) ?_
  refine XO.call Try.call41 rfl rfl rfl (refCheck g vn vg hn hg) fun v10 s10 R10 => ?_
  obtain ⟨rfl, rfl⟩ := R10
  dsimp only [List.cons_append, List.nil_append]
  refine XO.q (Q.assign rfl) ?_
  refine XO.done ?_
  refine XK.seq ?_
  refine XK.region rfl ?_
  refine XO.q (Q.move rfl) ?_
  refine XO.q (Q.neq rfl rfl) ?_
  refine XO.done ?_
  refine XK.if rfl (fun c0 => ?_) (fun c0 => ?_)
  · have _t0 := True.intro
    refine XK.seq ?_
    refine XK.region rfl ?_
    refine XO.q (Q.move rfl) ?_
    refine XO.q (Q.assign rfl) ?_
    refine XO.done ?_
    refine XK.rt [] Try.func53 Try.results53 (.t rfl .n) ?_
    exact ⟨by rw [verify_bad c0], rfl⟩
  · have _t0 := True.intro
    obtain ⟨S, C, K, hS, hC, hK, ok⟩ := gcheck_ok (Decidable.of_not_not c0)
    obtain ⟨gS, gC, gK, next, good⟩ := g
    dsimp only at hS hC hK ok sn sg ⊢
    subst hS hC hK
    refine XK.skip ?_
    refine XK.seq ?_
    refine XK.seq ?_
    refine XK.region rfl ?_
    refine XO.q (Q.fieldAddr rfl) ?_
    refine XO.q (Q.ld rfl rfl) ?_
    refine XO.len rfl fun l16 => ?_
    refine XO.q (Q.fieldAddr rfl) ?_
    refine XO.q (Q.ld rfl rfl) ?_
    refine XO.q (Q.neq rfl rfl) ?_
    refine XO.q (Q.move rfl) ?_
    refine XO.q (Quiet.guardF rfl rfl fun g21 p21 => Q.fieldAddr rfl) ?_
    refine XO.q (Quiet.guardF rfl rfl fun g22 p22 => Q.ld (lzv g22 rfl) rfl) ?_
    refine XO.q (Quiet.guardF rfl rfl fun g23 p23 => Q.len (lzv g23 rfl)) ?_
    refine XO.q (Quiet.guardF rfl rfl fun g24 p24 => Q.fieldAddr rfl) ?_
    refine XO.q (Quiet.guardF rfl rfl fun g25 p25 => Q.ld (lzv g25 rfl) rfl) ?_
    refine XO.q (Quiet.guardF rfl rfl fun g26 p26 => Q.neq (lzv g26 rfl) (lzv g26 rfl)) ?_
    refine XO.q (Q.or rfl (fun hp => lzv hp rfl)) ?_
    refine XO.q (Q.move rfl) ?_
    refine XO.q (Quiet.guardF rfl rfl fun g29 p29 => Q.fieldAddr rfl) ?_
    refine XO.q (Quiet.guardF rfl rfl fun g30 p30 => Q.ld (lzv g30 rfl) rfl) ?_
    refine XO.q (Quiet.guardF rfl rfl fun g31 p31 => Q.len (lzv g31 rfl)) ?_
    refine XO.q (Quiet.guardF rfl rfl fun g32 p32 => Q.fieldAddr rfl) ?_
    refine XO.q (Quiet.guardF rfl rfl fun g33 p33 => Q.ld (lzv g33 rfl) rfl) ?_
    refine XO.q (Quiet.guardF rfl rfl fun g34 p34 => Q.neq (lzv g34 rfl) (lzv g34 rfl)) ?_
    refine XO.q (Q.or rfl (fun hp => lzv hp rfl)) ?_
    refine XO.done ?_
    refine XK.if rfl (fun c1 => ?_) (fun c1 => ?_)
    · have _t1 := True.intro
      refine XK.seq ?_
      refine XK.region rfl ?_
      refine XO.q (Q.assign rfl) ?_
      refine XO.done ?_
      refine XK.rt [] Try.func53 Try.results53 (.t rfl .n) ?_
      exact ⟨by rw [verify_len (Decidable.of_not_not c0) c1], rfl⟩
    · have _t1 := True.intro
      have hl1 : ins.length = S := by omega
      have hl2 : ctl.length = S := by omega
      have hl3 : rnk.length = S := by omega
      have hgl := ok.glen
      have hs2 := ok.s2
      have hcc := ok.c2
      have hc1 := ok.c1
      refine XK.skip ?_
      refine XK.seq ?_
      refine XK.seq ?_
      refine XK.region rfl ?_
      refine XO.q (Q.assign rfl) ?_
      refine XO.done ?_
      refine XK.block ?_
      refine XK.while (X := Nat) [4, 6, 7, 8, 36, 37, 38, 39, 40, 41, 42, 43, 44, 45, 46, 47, 48, 49, 50, 51, 52, 53, 54, 55, 56, 57, 58, 59, 60, 61, 62, 63, 64, 65, 66, 67, 68, 69, 70, 71, 72, 73, 74, 75, 76, 77, 78, 79, 80, 81, 82, 83, 84, 85, 86, 87, 88, 89, 90, 91, 92, 93, 94, 95, 96, 97, 98, 99, 100, 101, 102, 103, 104, 105, 106, 107, 108, 109, 110, 111] (fun s => [(6, some (.int .i64 (s : Nat)))]) (fun s => []) (fun s => s ≤ S ∧ (List.range s).all (rightP C K next good ins ctl rnk) = true) (fun s => S - s) (0) [] rfl ⟨by omega, rfl⟩ (.c rfl (.base 0 rfl rfl)) ?_
      rintro s ⟨hs, hall⟩ ih0
      dsimp only [List.cons_append, List.nil_append] at ih0 ⊢
      refine XK.seq ?_
      refine XK.seq ?_
      refine XK.region rfl ?_
      refine XO.q (Q.move rfl) ?_
      refine XO.q (Q.fieldAddr rfl) ?_
      refine XO.q (Q.ld rfl rfl) ?_
      refine XO.q (Q.lss rfl rfl) ?_
      refine XO.done ?_
      refine XK.if rfl (fun c2 => ?_) (fun c2 => ?_)
      · have _t2 := True.intro
        refine XK.skip ?_
        refine XK.seq ?_
        refine XK.block ?_
        refine XK.seq ?_
        refine XK.drawn [0, 1, 2, 3, 4, 5, 6, 7, 8, 9, 10, 11] [b3] [] (.q 0 (.q 1 (.q 2 (.q 3 (.q 4 (.q 5 (.q 6 (.q 7 (.q 8 (.q 9 (.q 10 (.q 11 .done)))))))))))) Try.mixed rfl (by kernel_rfl) ?_
        refine XT.q rfl rfl (Q.fieldAddr rfl) ?_
        refine XT.q rfl rfl (Q.ld rfl rfl) ?_
        refine XT.q rfl rfl (Q.move rfl) ?_
        refine XT.ix rfl rfl rfl rfl (by omega) (by omega) fun i45 => ?_
        refine XT.q rfl rfl (Q.ldE rfl (by first | assumption | omega) rfl) ?_
        refine XT.q rfl rfl (Q.fieldAddr rfl) ?_
        refine XT.q rfl rfl (Q.ld rfl rfl) ?_
        refine XT.q rfl rfl (Q.move rfl) ?_
        refine XT.ix rfl rfl rfl rfl (by omega) (by omega) fun i50 => ?_
        refine XT.q rfl rfl (Q.ldE rfl (by first | assumption | omega) rfl) ?_
        refine XT.q rfl rfl (Q.assign rfl) ?_
        refine XT.q rfl rfl (Q.assign rfl) ?_
        refine XT.done ?_
        refine XK.seq ?_
        refine XK.seq ?_
        refine XK.region rfl ?_
        refine XO.q (Q.fieldAddr rfl) ?_
        refine XO.q (Q.ld rfl rfl) ?_
        refine XO.q (Q.move rfl) ?_
        refine XO.ix rfl rfl (by omega) (by omega) fun i55 => ?_
        refine XO.q (Q.ldE rfl (by first | assumption | omega) rfl) ?_
        refine XO.done ?_
        refine XK.if rfl (fun c3 => ?_) (fun c3 => ?_)
        · have _t3 := True.intro
          refine XK.seq ?_
          refine XK.seq ?_
          refine XK.region rfl ?_
          refine XO.q (Q.fieldAddr rfl) ?_
          refine XO.q (Q.ld rfl rfl) ?_
          refine XO.q (Q.move rfl) ?_
          refine XO.ix rfl rfl (by omega) (by omega) fun i60 => ?_
          refine XO.q (Q.ldE rfl (by first | assumption | omega) rfl) ?_
          refine XO.q (Q.not rfl) ?_
          refine XO.q (Q.move rfl) ?_
          refine XO.q (Quiet.guardF rfl rfl fun g64 p64 => Q.move rfl) ?_
          refine XO.q (Quiet.guardF rfl rfl fun g65 p65 => Q.fieldAddr rfl) ?_
          refine XO.q (Quiet.guardF rfl rfl fun g66 p66 => Q.ld (lzv g66 rfl) rfl) ?_
          refine XO.q (Quiet.guardF rfl rfl fun g67 p67 => Q.sub (lzv g67 rfl) rfl ⟨by omega, by omega⟩) ?_
          refine XO.gcallF rfl rfl Try.call44 rfl (fun g68 => .c (lzv g68 rfl) (.c rfl (.c (lzv g68 rfl) .n))) rfl (fun g68 p68 => refIn _ _ _) ?_
          refine XO.q (Quiet.guardF rfl rfl fun g69 p69 => Q.not (lzv g69 rfl)) ?_
          refine XO.q (Q.or rfl (fun hp => lzv hp rfl)) ?_
          refine XO.q (Q.move rfl) ?_
          refine XO.q (Quiet.guardF rfl rfl fun g72 p72 => Q.move rfl) ?_
          refine XO.q (Quiet.guardF rfl rfl fun g73 p73 => Q.neq (lzv g73 rfl) rfl) ?_
          refine XO.q (Q.or rfl (fun hp => lzv hp rfl)) ?_
          refine XO.q (Q.move rfl) ?_
          refine XO.q (Quiet.guardF rfl rfl fun g76 p76 => Q.ldA [_, _, _, _, _] rfl rfl rfl) ?_
          refine XO.q (Quiet.guardF rfl rfl fun g77 p77 => Q.fieldAddr rfl) ?_
          refine XO.q (Quiet.guardF rfl rfl fun g78 p78 => Q.ld (lzv g78 rfl) rfl) ?_
          refine XO.q (Quiet.guardF rfl rfl fun g79 p79 => Q.move rfl) ?_
          refine XO.q (Quiet.guardF rfl rfl fun g80 p80 => Q.move rfl) ?_
          refine XO.gcallF rfl rfl Try.call74 rfl (fun g81 => .c (lzv g81 rfl) (.c (lzv g81 rfl) (.c (lzv g81 rfl) (.c (lzv g81 rfl) .n)))) rfl (fun g81 p81 => refKeepsI S C K next good ok vn vg hn vi hi ins hl1 s _ (by omega) (by omega) (by omega)) ?_
          refine XO.q (Quiet.guardF rfl rfl fun g82 p82 => Q.not (lzv g82 rfl)) ?_
          refine XO.q (Q.or rfl (fun hp => lzv hp rfl)) ?_
          refine XO.done ?_
          refine XK.if rfl (fun c4 => ?_) (fun c4 => ?_)
          · have _t4 := True.intro
            refine XK.seq ?_
            refine XK.region rfl ?_
            refine XO.q (Q.assign rfl) ?_
            refine XO.done ?_
            refine XK.rt [] Try.func53 Try.results53 (.t rfl .n) ?_
            have hrf : rightP C K next good ins ctl rnk s = false := by
              refine Bool.eq_false_iff.2 fun h => ?_
              rw [right_in c3] at h
              obtain ⟨⟨⟨⟨a1, a2⟩, a3⟩, a4⟩, a5⟩ := h
              rcases c4 with ((b | b) | b) | b
              · exact b a1
              · exact b (by omega)
              · exact b a4
              · exact b a5
            exact ⟨by rw [verify_all ok hl1 hl2 hl3, if_neg]; rw [all_false (s := s) (by omega) hrf]; simp, rfl⟩
          · have _t4 := True.intro
            refine XK.skip ?_
            refine XK.exit rfl ?_
            refine XK.region rfl ?_
            refine XO.q (Q.move rfl) ?_
            refine XO.q (Q.add rfl rfl ⟨by omega, by omega⟩) ?_
            rw [show ((s : Int) + 1) = ((s + 1 : Nat) : Int) from rfl]
            refine XO.q (Q.assign rfl) ?_
            refine XO.done ?_
            exact ih0 (s + 1) _ _ ⟨by omega, by rw [all_succ, hall, Bool.true_and]; rw [right_in c3]; simp only [not_or, Classical.not_not] at c4; obtain ⟨⟨⟨a1, a2⟩, a3⟩, a4⟩ := c4; exact ⟨⟨⟨⟨a1, by omega⟩, by omega⟩, by omega⟩, a4⟩⟩ (by first | omega | (dsimp only; omega)) (.c rfl (.base 132 rfl rfl)) inferInstance
        · have _t3 := True.intro
          refine XK.skip ?_
          refine XK.seq ?_
          refine XK.region rfl ?_
          refine XO.q (Q.move rfl) ?_
          refine XO.q (Q.neq rfl rfl) ?_
          refine XO.q (Q.move rfl) ?_
          refine XO.q (Quiet.guardF rfl rfl fun g87 p87 => Q.move rfl) ?_
          refine XO.q (Quiet.guardF rfl rfl fun g88 p88 => Q.lss (lzv g88 rfl) rfl) ?_
          refine XO.q (Q.or rfl (fun hp => lzv hp rfl)) ?_
          refine XO.q (Q.move rfl) ?_
          refine XO.q (Quiet.guardF rfl rfl fun g91 p91 => Q.move rfl) ?_
          refine XO.q (Quiet.guardF rfl rfl fun g92 p92 => Q.eql (lzv g92 rfl) rfl) ?_
          refine XO.q (Quiet.guardF rfl rfl fun g93 p93 => Q.move (lzv g93 rfl)) ?_
          refine XO.q (Quiet.guard2 rfl rfl fun g94a g94b => have p94a := bpF g94a; have p94b := bpT g94b; Q.fieldAddr rfl) ?_
          refine XO.q (Quiet.guard2 rfl rfl fun g95a g95b => have p95a := bpF g95a; have p95b := bpT g95b; Q.ld (lzv g95b (lzv g95a rfl)) rfl) ?_
          refine XO.q (Quiet.guard2 rfl rfl fun g96a g96b => have p96a := bpF g96a; have p96b := bpT g96b; Q.move rfl) ?_
          refine XO.q (Quiet.guard2 rfl rfl fun g97a g97b => have p97a := bpF g97a; have p97b := bpT g97b; Q.ix (lzv g97b (lzv g97a rfl)) (lzv g97b (lzv g97a rfl)) (by omega) (by omega)) ?_
          refine XO.q (Quiet.guard2 rfl rfl fun g98a g98b => have p98a := bpF g98a; have p98b := bpT g98b; Q.ldE (lzv g98b (lzv g98a rfl)) (by first | assumption | omega) rfl) ?_
          refine XO.q (Quiet.guardF rfl rfl fun g99 p99 => Q.and (lzv g99 rfl) (fun hp => (lzv hp (lzv g99 rfl)))) ?_
          refine XO.q (Q.or rfl (fun hp => lzv hp rfl)) ?_
          refine XO.q (Q.move rfl) ?_
          refine XO.q (Quiet.guardF rfl rfl fun g102 p102 => Q.move rfl) ?_
          refine XO.q (Quiet.guardF rfl rfl fun g103 p103 => Q.gtr (lzv g103 rfl) rfl) ?_
          refine XO.q (Quiet.guardF rfl rfl fun g104 p104 => Q.move (lzv g104 rfl)) ?_
          refine XO.q (Quiet.guard2 rfl rfl fun g105a g105b => have p105a := bpF g105a; have p105b := bpT g105b; Q.ldA [_, _, _, _, _] rfl rfl rfl) ?_
          refine XO.q (Quiet.guard2 rfl rfl fun g106a g106b => have p106a := bpF g106a; have p106b := bpT g106b; Q.ldA [_, _, _] rfl rfl rfl) ?_
          refine XO.q (Quiet.guard2 rfl rfl fun g107a g107b => have p107a := bpF g107a; have p107b := bpT g107b; Q.move rfl) ?_
          refine XO.vg2 rfl rfl (fun g108a g108b => rfl) (fun g108a g108b => .c (lzv g108b (lzv g108a rfl)) (.c (lzv g108b (lzv g108a rfl)) (.c (lzv g108b (lzv g108a rfl)) .n))) (fun g108a g108b => have p108a := bpF g108a; have p108b := bpT g108b; VSpec.fn (P := Try.prog) Try.call75 rfl (refLost S C K next good ok vn vg hn vi vc vr hi hr ins rnk hl1 hl3 s (by omega))) ?_
          refine XO.q (Quiet.guard2 rfl rfl fun g109a g109b => have p109a := bpF g109a; have p109b := bpT g109b; Q.not (lzv g109b (lzv g109a rfl))) ?_
          refine XO.q (Quiet.guardF rfl rfl fun g110 p110 => Q.and (lzv g110 rfl) (fun hp => (lzv hp (lzv g110 rfl)))) ?_
          refine XO.q (Q.or rfl (fun hp => lzv hp rfl)) ?_
          refine XO.done ?_
          refine XK.if rfl (fun c5 => ?_) (fun c5 => ?_)
          · have _t5 := True.intro
            refine XK.seq ?_
            refine XK.region rfl ?_
            refine XO.q (Q.assign rfl) ?_
            refine XO.done ?_
            refine XK.rt [] Try.func53 Try.results53 (.t rfl .n) ?_
            have hrf : rightP C K next good ins ctl rnk s = false := by
              refine Bool.eq_false_iff.2 fun h => ?_
              rw [right_out c3] at h
              obtain ⟨a1, a2⟩ := h
              rcases c5 with ((b | b) | b) | b
              · exact b a1
              · rcases a2 with a2 | a2 <;> omega
              · rcases a2 with a2 | a2
                · exact a2.2 b.2
                · omega
              · rcases a2 with a2 | a2
                · omega
                · exact b.2 a2.2
            exact ⟨by rw [verify_all ok hl1 hl2 hl3, if_neg]; rw [all_false (s := s) (by omega) hrf]; simp, rfl⟩
          · have _t5 := True.intro
            refine XK.skip ?_
            refine XK.inBlock ?_
            refine XK.region rfl ?_
            refine XO.q (Q.move rfl) ?_
            refine XO.q (Q.add rfl rfl ⟨by omega, by omega⟩) ?_
            rw [show ((s : Int) + 1) = ((s + 1 : Nat) : Int) from rfl]
            refine XO.q (Q.assign rfl) ?_
            refine XO.done ?_
            exact ih0 (s + 1) _ _ ⟨by omega, by rw [all_succ, hall, Bool.true_and]; rw [right_out c3]; simp only [not_or, not_and, Classical.not_not] at c5; obtain ⟨⟨⟨a1, a2⟩, a3⟩, a4⟩ := c5; refine ⟨by omega, ?_⟩; by_cases h0 : rnk.getD s default = 0; exact .inl ⟨h0, a3 h0⟩; exact .inr ⟨by omega, a4 (by omega)⟩⟩ (by first | omega | (dsimp only; omega)) (.c rfl (.base 133 rfl rfl)) inferInstance
      · have _t2 := True.intro
        refine XK.exit rfl ?_
        refine XK.seq ?_
        refine XK.region rfl ?_
        refine XO.q (Q.assign rfl) ?_
        refine XO.done ?_
        refine XK.rt [] Try.func53 Try.results53 (.t rfl .n) ?_
        have hsS : s = S := by omega
        rw [hsS] at hall
        exact ⟨by rw [verify_all ok hl1 hl2 hl3, if_pos hall], rfl⟩
theorem listed (v : Value) (h : PHeap) (xs : List Int) [s : Arr v encI 1 h xs] (m : Int) (hm : in64 (m - 1)) : Spec Try.prog 76 #[v, .int .i64 m] [] [h] (fun v hs => v = .bool (!outside m xs) ∧ hs = []) := by
  refine Spec.intro (fn := Try.f76) (N := 20) Try.func76 rfl Try.ntmps76 rfl fun B => ?_
  refine XK.seq ?_
  refine XK.region rfl ?_
  refine XO.q (Q.assign rfl) ?_
  refine XO.done ?_
  refine XK.seq ?_
  refine XK.seq ?_
  refine XK.region rfl ?_
  refine XO.q (Q.assign rfl) ?_
  refine XO.done ?_
  refine XK.block ?_
  refine XK.while (X := Nat) [4, 5, 6, 7, 8, 9, 10, 11, 12, 13, 14, 15, 16, 17, 18, 19] (fun i => [(5, some (.int .i64 (i : Nat)))]) (fun i => []) (fun i => i ≤ xs.length ∧ (xs.take i).any (fun n => decide (n < 0) || decide (m ≤ n)) = false) (fun i => xs.length - i) (0) [] rfl ⟨by omega, by simp⟩ (.c rfl (.base 0 rfl rfl)) ?_
  rintro i ⟨hi, hany⟩ ih0
  dsimp only [List.cons_append, List.nil_append] at ih0 ⊢
  refine XK.seq ?_
  refine XK.seq ?_
  refine XK.region rfl ?_
  refine XO.q (Q.move rfl) ?_
  refine XO.q (Q.move rfl) ?_
  refine XO.len rfl fun l8 => ?_
  refine XO.q (Q.lss rfl rfl) ?_
  refine XO.done ?_
  refine XK.if rfl (fun c0 => ?_) (fun c0 => ?_)
  · have _t0 := True.intro
    refine XK.skip ?_
    refine XK.seq ?_
    refine XK.block ?_
    refine XK.seq ?_
    refine XK.region rfl ?_
    refine XO.q (Q.move rfl) ?_
    refine XO.q (Q.move rfl) ?_
    refine XO.ix rfl rfl (by omega) (by omega) fun i14 => ?_
    refine XO.q (Q.ldE rfl (by first | assumption | omega) rfl) ?_
    refine XO.q (Q.move rfl) ?_
    refine XO.q (Q.sub rfl rfl hm) ?_
    refine XO.call Try.call44 rfl rfl rfl (refIn _ _ _) fun v18 s18 R18 => ?_
    obtain ⟨rfl, rfl⟩ := R18
    dsimp only [List.cons_append, List.nil_append]
    refine XO.q (Q.not rfl) ?_
    refine XO.done ?_
    refine XK.if rfl (fun c1 => ?_) (fun c1 => ?_)
    · have _t1 := True.intro
      refine XK.seq ?_
      refine XK.region rfl ?_
      refine XO.q (Q.assign rfl) ?_
      refine XO.done ?_
      refine XK.rt [] Try.func76 Try.results76 (.t rfl .n) ?_
      have ho : outside m xs = true := by
        unfold outside
        rw [List.any_eq_true]
        exact ⟨xs.getD i default, getD_mem (by omega), by simp only [Bool.or_eq_true, decide_eq_true_eq]; omega⟩
      exact ⟨by rw [ho]; rfl, rfl⟩
    · have _t1 := True.intro
      refine XK.skip ?_
      refine XK.inBlock ?_
      refine XK.region rfl ?_
      refine XO.q (Q.move rfl) ?_
      refine XO.q (Q.add rfl rfl ⟨by omega, by omega⟩) ?_
      rw [show ((i : Int) + 1) = ((i + 1 : Nat) : Int) from rfl]
      refine XO.q (Q.assign rfl) ?_
      refine XO.done ?_
      exact ih0 (i + 1) _ _ ⟨by omega, any_step hany (by omega) (by simp only [Classical.not_not] at c1; simp only [Bool.or_eq_false_iff, decide_eq_false_iff_not]; omega)⟩ (by first | omega | (dsimp only; omega)) (.c rfl (.base 32 rfl rfl)) inferInstance
  · have _t0 := True.intro
    refine XK.exit rfl ?_
    refine XK.seq ?_
    refine XK.region rfl ?_
    refine XO.q (Q.assign rfl) ?_
    refine XO.done ?_
    refine XK.rt [] Try.func76 Try.results76 (.t rfl .n) ?_
    rw [List.take_of_length_le (by omega)] at hany
    exact ⟨by rw [outside, hany]; rfl, rfl⟩
theorem outside_le {m s : Int} (h : ¬ (0 ≤ s ∧ s ≤ m - 1)) : outside m [s] = true := by
  unfold outside
  simp only [List.any_cons, List.any_nil, Bool.or_false, Bool.or_eq_true, decide_eq_true_eq]
  omega
theorem outside_ge {m s : Int} (h : 0 ≤ s ∧ s ≤ m - 1) : outside m [s] = false := by
  unfold outside
  simp only [List.any_cons, List.any_nil, Bool.or_false, Bool.or_eq_false_iff, decide_eq_false_iff_not]
  omega
theorem outside_or {m k s : Int} {l : List Int} : (¬ (0 ≤ s ∧ s ≤ m - 1) ∨ ¬ ¬ outside k l = true) ↔ (outside m [s] = true ∨ outside k l = true) := by
  by_cases h : 0 ≤ s ∧ s ≤ m - 1
  · rw [outside_ge h]; simp [h]
  · rw [outside_le h]; simp [h]
theorem refPlay (g : G) (vn vg : Value) (hn hg : PHeap) [sn : Arr vn encI 1 hn g.next] [sg : Arr vg encB 1 hg g.good] (vi vc vr : Value) (hi hc hr : PHeap) (ins : List Bool) [si : Arr vi encB 1 hi ins] (ctl : List Int) [sc : Arr vc encI 1 hc ctl] (rnk : List Int) [sr : Arr vr encI 1 hr rnk] (state : Int) (vl : Value) (hl : PHeap) (l : List Int) [sl : Arr vl encI 1 hl l] (hlb : l.length ≤ 4000000000) : Spec Try.prog 54 #[.agg #[.int .i64 g.S, .int .i64 g.C, .int .i64 g.K, vn, vg], .agg #[vi, vc, vr], .int .i64 state, vl] [] [hn, hg, hi, hc, hr, hl]
    (fun v hs => ∃ v1 k1, v = .tuple #[v1, .int .i64 (playG g ins ctl rnk state l).2] ∧ hs = [k1] ∧ OArr v1 encI 1 3 k1 (playG g ins ctl rnk state l).1) := by
  have hnil : OArr (.slice none 0 0) encI 1 3 emp ([] : List Int) := OArr.nil (fun _ => rfl)
  refine Spec.intro (fn := Try.f54) (N := 64) Try.func54 rfl Try.ntmps54 rfl fun B => ?_
  refine XK.seq ?_
  refine XK.region rfl ?_
  refine XO.box rfl fun b4 => ?_
  refine XO.box rfl fun b5 => ?_
  refine XO.q (Q.assign rfl) ?_
  refine XO.q (Q.assign rfl) ?_
  refine XO.done ?_
  refine XK.seq ?_
  refine XK.seq ?_
  refine XK.region rfl ?_
  refine XO.q (Q.ldA [_, _, _, _, _] rfl rfl rfl) ?_
  refine XO.q (Q.ldA [_, _, _] rfl rfl rfl) ?_
  refine XO.call Try.call53 rfl rfl rfl (refVerify g vn vg hn hg vi vc vr hi hc hr ins ctl rnk) fun v15 s15 R15 => ?_
  obtain ⟨rfl, rfl⟩ := R15
  dsimp only [List.cons_append, List.nil_append]
  refine XO.q (Q.assign rfl) ?_
  refine XO.done ?_
  refine XK.seq ?_
  refine XK.region rfl ?_
  refine XO.q (Q.move rfl) ?_
  refine XO.q (Q.neq rfl rfl) ?_
  refine XO.done ?_
  refine XK.if rfl (fun c0 => ?_) (fun c0 => ?_)
  · have _t0 := True.intro
    refine XK.seq ?_
    refine XK.region rfl ?_
    refine XO.q (Q.move rfl) ?_
    refine XO.q (Q.assign rfl) ?_
    refine XO.q (Q.assign rfl) ?_
    refine XO.done ?_
    refine XK.rt [emp] Try.func54 Try.results54 (.t rfl (.t rfl .n)) ?_
    have hw : playG g ins ctl rnk state l = ([], verifyG g ins ctl rnk) := by rw [playG, if_pos c0]
    rw [hw]
    exact ⟨.slice none 0 0, emp, rfl, rfl, OArr.nil (fun _ => rfl)⟩
  · have _t0 := True.intro
    have hv := Decidable.of_not_not c0
    obtain ⟨S, C, K, hS, hC, hK, ok⟩ := gcheck_ok (verify_g0 hv)
    obtain ⟨gS, gC, gK, next, good⟩ := g
    dsimp only at hS hC hK ok sn sg ⊢
    subst hS hC hK
    obtain ⟨hl1, hl2, hl3, hrt⟩ := verify_ok ok hv
    have hgl := ok.glen
    have hs2 := ok.s2
    have hcc := ok.c2
    have hkk := ok.k2
    refine XK.skip ?_
    refine XK.seq ?_
    refine XK.seq ?_
    refine XK.region rfl ?_
    refine XO.q (Q.move rfl) ?_
    refine XO.q (Q.fieldAddr rfl) ?_
    refine XO.q (Q.ld rfl rfl) ?_
    refine XO.q (Q.sub rfl rfl ⟨by omega, by omega⟩) ?_
    refine XO.call Try.call44 rfl rfl rfl (refIn _ _ _) fun v23 s23 R23 => ?_
    obtain ⟨rfl, rfl⟩ := R23
    dsimp only [List.cons_append, List.nil_append]
    refine XO.q (Q.not rfl) ?_
    refine XO.q (Q.move rfl) ?_
    refine XO.q (Quiet.guardF rfl rfl fun g26 p26 => Q.move rfl) ?_
    refine XO.q (Quiet.guardF rfl rfl fun g27 p27 => Q.fieldAddr rfl) ?_
    refine XO.q (Quiet.guardF rfl rfl fun g28 p28 => Q.ld (lzv g28 rfl) rfl) ?_
    refine XO.gcallF rfl rfl Try.call76 rfl (fun g29 => .c (lzv g29 rfl) (.c (lzv g29 rfl) .n)) rfl (fun g29 p29 => listed vl hl l _ ⟨by omega, by omega⟩) ?_
    refine XO.q (Quiet.guardF rfl rfl fun g30 p30 => Q.not (lzv g30 rfl)) ?_
    refine XO.q (Q.or rfl (fun hp => lzv hp rfl)) ?_
    refine XO.done ?_
    refine XK.if rfl (fun c1 => ?_) (fun c1 => ?_)
    · have _t1 := True.intro
      rw [outside_or] at c1
      refine XK.seq ?_
      refine XK.region rfl ?_
      refine XO.q (Q.assign rfl) ?_
      refine XO.q (Q.assign rfl) ?_
      refine XO.done ?_
      refine XK.rt [emp] Try.func54 Try.results54 (.t rfl (.t rfl .n)) ?_
      have hw : playG ⟨S, C, K, next, good⟩ ins ctl rnk state l = ([], 1) := by rw [playG, if_neg c0, if_pos c1]
      rw [hw]
      exact ⟨.slice none 0 0, emp, rfl, rfl, OArr.nil (fun _ => rfl)⟩
    · have _t1 := True.intro
      rw [outside_or] at c1
      obtain ⟨c1a, c1b⟩ := not_or.1 c1
      have ho1 : outside (S : Int) [state] = false := by simpa using c1a
      have ho2 : outside (K : Int) l = false := by simpa using c1b
      have hs0 := outside_one ho1
      refine XK.skip ?_
      refine XK.seq ?_
      refine XK.seq ?_
      refine XK.region rfl ?_
      refine XO.q (Q.move rfl) ?_
      refine XO.len rfl fun l33 => ?_
      refine XO.q (Q.gtr rfl rfl) ?_
      refine XO.done ?_
      refine XK.if rfl (fun c2 => ?_) (fun c2 => ?_)
      · have _t2 := True.intro
        refine XK.seq ?_
        refine XK.region rfl ?_
        refine XO.q (Q.assign rfl) ?_
        refine XO.q (Q.assign rfl) ?_
        refine XO.done ?_
        refine XK.rt [emp] Try.func54 Try.results54 (.t rfl (.t rfl .n)) ?_
        have hw : playG ⟨S, C, K, next, good⟩ ins ctl rnk state l = ([], 2) := by rw [playG, if_neg c0, if_neg c1, if_pos c2]
        rw [hw]
        exact ⟨.slice none 0 0, emp, rfl, rfl, OArr.nil (fun _ => rfl)⟩
      · have _t2 := True.intro
        refine XK.skip ?_
        refine XK.seq ?_
        refine XK.seq ?_
        refine XK.region rfl ?_
        refine XO.q (Q.fieldAddr rfl) ?_
        refine XO.q (Q.ld rfl rfl) ?_
        refine XO.q (Q.move rfl) ?_
        refine XO.ix rfl rfl (by omega) (by omega) fun i38 => ?_
        refine XO.q (Q.ldE rfl (by first | assumption | omega) rfl) ?_
        refine XO.q (Q.not rfl) ?_
        refine XO.done ?_
        refine XK.if rfl (fun c3 => ?_) (fun c3 => ?_)
        · have _t3 := True.intro
          refine XK.seq ?_
          refine XK.region rfl ?_
          refine XO.q (Q.assign rfl) ?_
          refine XO.q (Q.assign rfl) ?_
          refine XO.done ?_
          refine XK.rt [emp] Try.func54 Try.results54 (.t rfl (.t rfl .n)) ?_
          have hw : playG ⟨S, C, K, next, good⟩ ins ctl rnk state l = ([], 9) := by rw [playG, if_neg c0, if_neg c1, if_neg c2, if_pos c3]
          rw [hw]
          exact ⟨.slice none 0 0, emp, rfl, rfl, OArr.nil (fun _ => rfl)⟩
        · have _t3 := True.intro
          refine XK.skip ?_
          refine XK.seq ?_
          refine XK.region rfl ?_
          refine XO.q (Q.assign rfl) ?_
          refine XO.done ?_
          refine XK.seq ?_
          refine XK.seq ?_
          refine XK.region rfl ?_
          refine XO.q (Q.assign rfl) ?_
          refine XO.done ?_
          refine XK.block ?_
          refine XK.while (X := Nat × Int × Value × PHeap × List Int) [2, 11, 12, 41, 42, 43, 44, 45, 46, 47, 48, 49, 50, 51, 52, 53, 54, 55, 56, 57, 58, 59, 60, 61, 62] (fun ⟨i, s, vO, hO, pth⟩ => [(12, some (.int .i64 (i : Nat))), (2, some (.int .i64 s)), (11, some (vO))]) (fun ⟨i, s, vO, hO, pth⟩ => [hO]) (fun ⟨i, s, vO, hO, pth⟩ => i ≤ l.length ∧ 0 ≤ s ∧ s < S ∧ inS ins s.toNat ∧ playL next C K ctl state l = pth ++ playL next C K ctl s (l.drop i) ∧ pth.length = i ∧ OArr vO encI 1 3 hO pth) (fun ⟨i, s, vO, hO, pth⟩ => l.length - i) (0, state, .slice none 0 0, emp, []) [emp] rfl ⟨by omega, hs0.1, hs0.2, Classical.byContradiction fun h => c3 h, by simp, rfl, hnil⟩ (.c rfl (.c rfl (.c rfl (.base 0 rfl rfl)))) ?_
          rintro ⟨i, s, vO, hO, pth⟩ ⟨hil, q1, q2, q3, q4, q5, OO⟩ ih0
          dsimp only [List.cons_append, List.nil_append] at ih0 ⊢
          refine XK.seq ?_
          refine XK.seq ?_
          refine XK.region rfl ?_
          refine XO.q (Q.move rfl) ?_
          refine XO.q (Q.move rfl) ?_
          refine XO.len rfl fun l43 => ?_
          refine XO.q (Q.lss rfl rfl) ?_
          refine XO.done ?_
          refine XK.if rfl (fun c4 => ?_) (fun c4 => ?_)
          · have _t4 := True.intro
            obtain ⟨p1, p2, p3, p4, p5, p6⟩ := play_step ok hrt (s := s) (w := l.getD i default) q1 q3 q2 (outside_at ho2 (by omega)).1 (outside_at ho2 (by omega)).2
            have hctl : s.toNat < ctl.length := by omega
            have hw0 := outside_at ho2 (i := i) (by omega)
            refine XK.skip ?_
            refine XK.seq ?_
            refine XK.block ?_
            refine XK.seq ?_
            refine XK.drawn [0, 1, 2, 3, 4, 5, 6, 7, 8, 9, 10, 12] [b4, b5] [] (.q 0 (.q 1 (.q 2 (.q 3 (.q 4 (.q 5 (.q 6 (.q 7 (.q 8 (.q 9 (.q 10 (.br 11 true (.q 12 .done) .stop)))))))))))) Try.mixed rfl (by kernel_rfl) ?_
            refine XT.q rfl rfl (Q.ldA [_, _, _, _, _] rfl rfl rfl) ?_
            refine XT.q rfl rfl (Q.move rfl) ?_
            refine XT.q rfl rfl (Q.fieldAddr rfl) ?_
            refine XT.q rfl rfl (Q.ld rfl rfl) ?_
            refine XT.q rfl rfl (Q.move rfl) ?_
            refine XT.ix rfl rfl rfl rfl (by omega) (by omega) fun i52 => ?_
            refine XT.q rfl rfl (Q.ldE rfl (by first | assumption | omega) rfl) ?_
            refine XT.q rfl rfl (Q.move rfl) ?_
            refine XT.q rfl rfl (Q.move rfl) ?_
            refine XT.ix rfl rfl rfl rfl (by omega) (by omega) fun i56 => ?_
            refine XT.q rfl rfl (Q.ldE rfl (by first | assumption | omega) rfl) ?_
            refine XT.call rfl rfl Try.call42 rfl rfl rfl (refLeadsI S C K next good ok vn vg hn s _ (l.getD i default) q1 q2 p1 p2 hw0.1 hw0.2) (fun v58 s58 R58 => ?_) XT.stop
            obtain ⟨rfl, rfl⟩ := R58
            dsimp only [List.cons_append, List.nil_append]
            refine ⟨inferInstance, ?_⟩
            refine XT.q rfl rfl (Q.assign rfl) ?_
            refine XT.done ?_
            refine XK.region rfl ?_
            refine XO.q (Q.move rfl) ?_
            refine XO.q (Q.move rfl) ?_
            refine XO.lit [_] [_] [_] encI (by rfl) (by rfl) rfl (by rfl) (by exact .c 0 1 rfl rfl rfl (.n _)) (fun _ => rfl) (by rfl) rfl (by infer_instance) rfl fun v61 h61 O61 => ?_
            refine XO.append rfl rfl rfl rfl (by simp only [List.length_cons, List.length_nil]; omega) fun v62 h62 O62 => ?_
            refine XO.q (Q.assign rfl) ?_
            refine XO.done ?_
            refine XK.inBlock ?_
            refine XK.region rfl ?_
            refine XO.q (Q.move rfl) ?_
            refine XO.q (Q.add rfl rfl ⟨by omega, by omega⟩) ?_
            rw [show ((i : Int) + 1) = ((i + 1 : Nat) : Int) from rfl]
            refine XO.q (Q.assign rfl) ?_
            refine XO.done ?_
            exact ih0 (i + 1, _, v62, h62, _) _ _ ⟨by dsimp only; omega, p3, p5, p4, by rw [q4, drop_cons (show i < l.length by omega), playL, List.append_assoc]; rfl, by simp only [List.length_append, List.length_cons, List.length_nil]; omega, O62⟩ (by first | omega | (dsimp only; omega)) (.c rfl (.c rfl (.c rfl (.base 53 rfl rfl)))) inferInstance
          · have _t4 := True.intro
            refine XK.exit rfl ?_
            refine XK.seq ?_
            refine XK.region rfl ?_
            refine XO.q (Q.move rfl) ?_
            refine XO.q (Q.assign rfl) ?_
            refine XO.q (Q.assign rfl) ?_
            refine XO.done ?_
            refine XK.rt [hO] Try.func54 Try.results54 (.t rfl (.t rfl .n)) ?_
            have hw : playG ⟨S, C, K, next, good⟩ ins ctl rnk state l = (pth, 0) := by
              rw [playG, if_neg c0, if_neg c1, if_neg c2, if_neg c3]
              simp only [Int.toNat_natCast]
              rw [q4, List.drop_of_length_le (by omega), playL, List.append_nil]
            rw [hw]
            exact ⟨vO, hO, rfl, rfl, OO⟩
end Go.X

set_option linter.unusedSimpArgs false
set_option linter.unusedVariables false
set_option maxRecDepth 20000
namespace Go.X
open Go.Proofs
theorem refForce (g : G) (vn vg : Value) (hn hg : PHeap) [sn : Arr vn encI 1 hn g.next] [sg : Arr vg encB 1 hg g.good] (vi vc vr : Value) (hi hc hr : PHeap) (ins : List Bool) [si : Arr vi encB 1 hi ins] (ctl : List Int) [sc : Arr vc encI 1 hc ctl] (rnk : List Int) [sr : Arr vr encI 1 hr rnk] (state : Int) (vl : Value) (hl : PHeap) (l : List Int) [sl : Arr vl encI 1 hl l] (hlb : l.length ≤ 4000000000) : Spec Try.prog 55 #[.agg #[.int .i64 g.S, .int .i64 g.C, .int .i64 g.K, vn, vg], .agg #[vi, vc, vr], .int .i64 state, vl] [] [hn, hg, hi, hc, hr, hl]
    (fun v hs => ∃ v1 v2 k1 k2, v = .tuple #[v1, v2, .int .i64 (forceG g ins ctl rnk state l).2.2] ∧ hs = [k1, k2] ∧ OArr v1 encI 1 3 k1 (forceG g ins ctl rnk state l).1 ∧ OArr v2 encI 1 3 k2 (forceG g ins ctl rnk state l).2.1) := by
  have hnil : OArr (.slice none 0 0) encI 1 3 emp ([] : List Int) := OArr.nil (fun _ => rfl)
  refine Spec.intro (fn := Try.f55) (N := 116) Try.func55 rfl Try.ntmps55 rfl fun B => ?_
  refine XK.seq ?_
  refine XK.region rfl ?_
  refine XO.box rfl fun b4 => ?_
  refine XO.box rfl fun b5 => ?_
  refine XO.q (Q.assign rfl) ?_
  refine XO.q (Q.assign rfl) ?_
  refine XO.q (Q.assign rfl) ?_
  refine XO.done ?_
  refine XK.seq ?_
  refine XK.seq ?_
  refine XK.region rfl ?_
  refine XO.q (Q.ldA [_, _, _, _, _] rfl rfl rfl) ?_
  refine XO.q (Q.ldA [_, _, _] rfl rfl rfl) ?_
  refine XO.call Try.call53 rfl rfl rfl (refVerify g vn vg hn hg vi vc vr hi hc hr ins ctl rnk) fun v22 s22 R22 => ?_
  obtain ⟨rfl, rfl⟩ := R22
  dsimp only [List.cons_append, List.nil_append]
  refine XO.q (Q.assign rfl) ?_
  refine XO.done ?_
  refine XK.seq ?_
  refine XK.region rfl ?_
  refine XO.q (Q.move rfl) ?_
  refine XO.q (Q.neq rfl rfl) ?_
  refine XO.done ?_
  refine XK.if rfl (fun c0 => ?_) (fun c0 => ?_)
  · have _t0 := True.intro
    refine XK.seq ?_
    refine XK.region rfl ?_
    refine XO.q (Q.move rfl) ?_
    refine XO.q (Q.assign rfl) ?_
    refine XO.q (Q.assign rfl) ?_
    refine XO.q (Q.assign rfl) ?_
    refine XO.done ?_
    refine XK.rt [emp, emp] Try.func55 Try.results55 (.t rfl (.t rfl (.t rfl .n))) ?_
    have hw : forceG g ins ctl rnk state l = ([], [], verifyG g ins ctl rnk) := by rw [forceG, if_pos c0]
    rw [hw]
    exact ⟨.slice none 0 0, .slice none 0 0, emp, emp, rfl, rfl, OArr.nil (fun _ => rfl), OArr.nil (fun _ => rfl)⟩
  · have _t0 := True.intro
    have hv := Decidable.of_not_not c0
    obtain ⟨S, C, K, hS, hC, hK, ok⟩ := gcheck_ok (verify_g0 hv)
    obtain ⟨gS, gC, gK, next, good⟩ := g
    dsimp only at hS hC hK ok sn sg ⊢
    subst hS hC hK
    obtain ⟨hl1, hl2, hl3, hrt⟩ := verify_ok ok hv
    have hgl := ok.glen
    have hs2 := ok.s2
    have hcc := ok.c2
    have hkk := ok.k2
    refine XK.skip ?_
    refine XK.seq ?_
    refine XK.seq ?_
    refine XK.region rfl ?_
    refine XO.q (Q.move rfl) ?_
    refine XO.q (Q.fieldAddr rfl) ?_
    refine XO.q (Q.ld rfl rfl) ?_
    refine XO.q (Q.sub rfl rfl ⟨by omega, by omega⟩) ?_
    refine XO.call Try.call44 rfl rfl rfl (refIn _ _ _) fun v30 s30 R30 => ?_
    obtain ⟨rfl, rfl⟩ := R30
    dsimp only [List.cons_append, List.nil_append]
    refine XO.q (Q.not rfl) ?_
    refine XO.q (Q.move rfl) ?_
    refine XO.q (Quiet.guardF rfl rfl fun g33 p33 => Q.move rfl) ?_
    refine XO.q (Quiet.guardF rfl rfl fun g34 p34 => Q.fieldAddr rfl) ?_
    refine XO.q (Quiet.guardF rfl rfl fun g35 p35 => Q.ld (lzv g35 rfl) rfl) ?_
    refine XO.gcallF rfl rfl Try.call76 rfl (fun g36 => .c (lzv g36 rfl) (.c (lzv g36 rfl) .n)) rfl (fun g36 p36 => listed vl hl l _ ⟨by omega, by omega⟩) ?_
    refine XO.q (Quiet.guardF rfl rfl fun g37 p37 => Q.not (lzv g37 rfl)) ?_
    refine XO.q (Q.or rfl (fun hp => lzv hp rfl)) ?_
    refine XO.done ?_
    refine XK.if rfl (fun c1 => ?_) (fun c1 => ?_)
    · have _t1 := True.intro
      rw [outside_or] at c1
      refine XK.seq ?_
      refine XK.region rfl ?_
      refine XO.q (Q.assign rfl) ?_
      refine XO.q (Q.assign rfl) ?_
      refine XO.q (Q.assign rfl) ?_
      refine XO.done ?_
      refine XK.rt [emp, emp] Try.func55 Try.results55 (.t rfl (.t rfl (.t rfl .n))) ?_
      have hw : forceG ⟨S, C, K, next, good⟩ ins ctl rnk state l = ([], [], 1) := by rw [forceG, if_neg c0, if_pos c1]
      rw [hw]
      exact ⟨.slice none 0 0, .slice none 0 0, emp, emp, rfl, rfl, OArr.nil (fun _ => rfl), OArr.nil (fun _ => rfl)⟩
    · have _t1 := True.intro
      rw [outside_or] at c1
      obtain ⟨c1a, c1b⟩ := not_or.1 c1
      have ho1 : outside (S : Int) [state] = false := by simpa using c1a
      have ho2 : outside (C : Int) l = false := by simpa using c1b
      have hs0 := outside_one ho1
      refine XK.skip ?_
      refine XK.seq ?_
      refine XK.seq ?_
      refine XK.region rfl ?_
      refine XO.q (Q.fieldAddr rfl) ?_
      refine XO.q (Q.ld rfl rfl) ?_
      refine XO.q (Q.move rfl) ?_
      refine XO.ix rfl rfl (by omega) (by omega) fun i42 => ?_
      refine XO.q (Q.ldE rfl (by first | assumption | omega) rfl) ?_
      refine XO.done ?_
      refine XK.if rfl (fun c2 => ?_) (fun c2 => ?_)
      · have _t2 := True.intro
        refine XK.seq ?_
        refine XK.region rfl ?_
        refine XO.q (Q.assign rfl) ?_
        refine XO.q (Q.assign rfl) ?_
        refine XO.q (Q.assign rfl) ?_
        refine XO.done ?_
        refine XK.rt [emp, emp] Try.func55 Try.results55 (.t rfl (.t rfl (.t rfl .n))) ?_
        have hw : forceG ⟨S, C, K, next, good⟩ ins ctl rnk state l = ([], [], 9) := by rw [forceG, if_neg c0, if_neg c1, if_pos c2]
        rw [hw]
        exact ⟨.slice none 0 0, .slice none 0 0, emp, emp, rfl, rfl, OArr.nil (fun _ => rfl), OArr.nil (fun _ => rfl)⟩
      · have _t2 := True.intro
        refine XK.skip ?_
        refine XK.seq ?_
        refine XK.region rfl ?_
        refine XO.q (Q.assign rfl) ?_
        refine XO.q (Q.assign rfl) ?_
        refine XO.done ?_
        refine XK.seq ?_
        refine XK.seq ?_
        refine XK.region rfl ?_
        refine XO.q (Q.assign rfl) ?_
        refine XO.done ?_
        refine XK.block ?_
        refine XK.while (X := Nat × Int × Value × PHeap × Value × PHeap × List (Int × Int)) [2, 8, 9, 10, 12, 13, 14, 15, 16, 17, 18, 19, 44, 45, 46, 47, 48, 49, 50, 51, 52, 53, 54, 55, 56, 57, 58, 59, 60, 61, 62, 63, 64, 65, 66, 67, 68, 69, 70, 71, 72, 73, 74, 75, 76, 77, 78, 79, 80, 81, 82, 83, 84, 85, 86, 87, 88, 89, 90, 91, 92, 93, 94, 95, 96, 97, 98, 99, 100, 101, 102, 103, 104, 105, 106, 107, 108, 109, 110, 111, 112, 113] (fun ⟨i, s, vW, hW, vN, hN, done⟩ => [(14, some (.int .i64 (i : Nat))), (2, some (.int .i64 s)), (12, some (vW)), (13, some (vN))]) (fun ⟨i, s, vW, hW, vN, hN, done⟩ => [hW, hN]) (fun ⟨i, s, vW, hW, vN, hN, done⟩ => i ≤ l.length ∧ (s < 0 ∨ (s < S ∧ ¬ inS ins s.toNat)) ∧ forceL next C K good ins rnk state l = done ++ forceL next C K good ins rnk s (l.drop i) ∧ forceE next C K good ins rnk state l = forceE next C K good ins rnk s (l.drop i) ∧ done.length ≤ i ∧ OArr vW encI 1 3 hW (done.map (·.1)) ∧ OArr vN encI 1 3 hN (done.map (·.2)) ∧ s < S) (fun ⟨i, s, vW, hW, vN, hN, done⟩ => l.length - i) (0, state, .slice none 0 0, emp, .slice none 0 0, emp, []) [emp, emp] rfl ⟨by omega, .inr ⟨hs0.2, c2⟩, by simp, by simp, by simp, hnil, hnil, hs0.2⟩ (.c rfl (.c rfl (.c rfl (.c rfl (.base 0 rfl rfl))))) ?_
        rintro ⟨i, s, vW, hW, vN, hN, done⟩ ⟨hil, q2, q3, q4, q8, OW, ON, q9⟩ ih0
        dsimp only [List.cons_append, List.nil_append] at ih0 ⊢
        refine XK.seq ?_
        refine XK.seq ?_
        refine XK.region rfl ?_
        refine XO.q (Q.move rfl) ?_
        refine XO.q (Q.geq rfl rfl) ?_
        refine XO.q (Q.move rfl) ?_
        refine XO.q (Quiet.guardT rfl rfl fun g47 p47 => Q.fieldAddr rfl) ?_
        refine XO.q (Quiet.guardT rfl rfl fun g48 p48 => Q.ld (lzv g48 rfl) rfl) ?_
        refine XO.q (Quiet.guardT rfl rfl fun g49 p49 => Q.move rfl) ?_
        refine XO.q (Quiet.guardT rfl rfl fun g50 p50 => Q.ix (lzv g50 rfl) (lzv g50 rfl) (by omega) (by omega)) ?_
        refine XO.q (Quiet.guardT rfl rfl fun g51 p51 => Q.ldE (lzv g51 rfl) (by first | assumption | omega) rfl) ?_
        refine XO.q (Q.and rfl (fun hp => lzv hp rfl)) ?_
        refine XO.done ?_
        refine XK.if rfl (fun c3 => ?_) (fun c3 => ?_)
        · have _t3 := True.intro
          obtain ⟨q0, c3g⟩ := c3
          have hst : ¬ stopB good s = true := stop_not.2 ⟨q0, c3g⟩
          obtain ⟨q5, q6⟩ := q2.resolve_left (by omega)
          refine XK.skip ?_
          refine XK.seq ?_
          refine XK.block ?_
          refine XK.seq ?_
          refine XK.seq ?_
          refine XK.region rfl ?_
          refine XO.q (Q.move rfl) ?_
          refine XO.q (Q.move rfl) ?_
          refine XO.len rfl fun l57 => ?_
          refine XO.q (Q.eql rfl rfl) ?_
          refine XO.done ?_
          refine XK.if rfl (fun c4 => ?_) (fun c4 => ?_)
          · have _t4 := True.intro
            have hE : forceE next C K good ins rnk state l = s := by rw [q4, List.drop_of_length_le (by omega), forceE]
            refine XK.seq ?_
            refine XK.region rfl ?_
            refine XO.q (Q.assign rfl) ?_
            refine XO.q (Q.assign rfl) ?_
            refine XO.q (Q.assign rfl) ?_
            refine XO.done ?_
            refine XK.rt [emp, emp] Try.func55 Try.results55 (.t rfl (.t rfl (.t rfl .n))) ?_
            have hw : forceG ⟨S, C, K, next, good⟩ ins ctl rnk state l = ([], [], 60) := by
              rw [forceG, if_neg c0, if_neg c1, if_neg c2, if_pos]
              simp only [Int.toNat_natCast]
              rw [hE]
              exact stop_not.2 ⟨q0, c3g⟩
            rw [hw]
            exact ⟨.slice none 0 0, .slice none 0 0, emp, emp, rfl, rfl, OArr.nil (fun _ => rfl), OArr.nil (fun _ => rfl)⟩
          · have _t4 := True.intro
            have hu0 := outside_at ho2 (i := i) (by omega)
            obtain ⟨w1, w2, w3, _⟩ := force_step ok hrt q0 q5 q6 hst (u := l.getD i default) hu0.1 hu0.2
            have hll := ok.leads_length (s := s.toNat) (v := (l.getD i default).toNat) (by omega) (by omega)
            refine XK.skip ?_
            refine XK.seq ?_
            refine XK.region rfl ?_
            refine XO.q (Q.assign rfl) ?_
            refine XO.q (Q.assign rfl) ?_
            refine XO.done ?_
            refine XK.seq ?_
            refine XK.seq ?_
            refine XK.region rfl ?_
            refine XO.q (Q.assign rfl) ?_
            refine XO.done ?_
            refine XK.block ?_
            refine XK.while (X := Nat × Int × Int) [15, 16, 17, 18, 19, 59, 60, 61, 62, 63, 64, 65, 66, 67, 68, 69, 70, 71, 72, 73, 74, 75, 76, 77, 78, 79, 80, 81, 82, 83, 84, 85, 86, 87, 88, 89, 90, 91, 92, 93, 94, 95, 96, 97] (fun ⟨w, best, lst⟩ => [(17, some (.int .i64 (w : Nat))), (15, some (.int .i64 best)), (16, some (.int .i64 lst))]) (fun ⟨w, best, lst⟩ => []) (fun ⟨w, best, lst⟩ => w ≤ K ∧ best = worstTo ins rnk (leads next C K s.toNat (l.getD i default).toNat) w ∧ -1 ≤ best ∧ best < w ∧ (0 ≤ best → lst = rkOf rnk ((leads next C K s.toNat (l.getD i default).toNat).getD best.toNat default))) (fun ⟨w, best, lst⟩ => K - w) (0, -1, 0) [] rfl ⟨by omega, rfl, by omega, by omega, fun h => by omega⟩ (.c rfl (.c rfl (.c rfl (.base 0 rfl rfl)))) ?_
            rintro ⟨w, best, lst⟩ ⟨hw, hbe, hb1, hb2, hb3⟩ ih1
            dsimp only [List.cons_append, List.nil_append] at ih1 ⊢
            refine XK.seq ?_
            refine XK.seq ?_
            refine XK.region rfl ?_
            refine XO.q (Q.move rfl) ?_
            refine XO.q (Q.fieldAddr rfl) ?_
            refine XO.q (Q.ld rfl rfl) ?_
            refine XO.q (Q.lss rfl rfl) ?_
            refine XO.done ?_
            refine XK.if rfl (fun c5 => ?_) (fun c5 => ?_)
            · have _t5 := True.intro
              have hgt : -1 ≤ leadAt next C K s (l.getD i default) (w : Nat) ∧ leadAt next C K s (l.getD i default) (w : Nat) < S := ok.get _
              have hld : (leads next C K s.toNat (l.getD i default).toNat).getD w default = leadAt next C K s (l.getD i default) (w : Nat) := leads_getD (by omega)
              refine XK.skip ?_
              refine XK.seq ?_
              refine XK.block ?_
              refine XK.seq ?_
              refine XK.drawn [0, 1, 2, 3, 4, 5, 6, 8] [b4] [] (.q 0 (.q 1 (.q 2 (.q 3 (.q 4 (.q 5 (.q 6 (.br 7 true (.q 8 .done) .stop)))))))) Try.mixed rfl (by kernel_rfl) ?_
              refine XT.q rfl rfl (Q.ldA [_, _, _, _, _] rfl rfl rfl) ?_
              refine XT.q rfl rfl (Q.move rfl) ?_
              refine XT.q rfl rfl (Q.move rfl) ?_
              refine XT.q rfl rfl (Q.move rfl) ?_
              refine XT.ix rfl rfl rfl rfl (by omega) (by omega) fun i69 => ?_
              refine XT.q rfl rfl (Q.ldE rfl (by first | assumption | omega) rfl) ?_
              refine XT.q rfl rfl (Q.move rfl) ?_
              refine XT.call rfl rfl Try.call42 rfl rfl rfl (refLeadsI S C K next good ok vn vg hn s (l.getD i default) (w : Nat) q0 q5 hu0.1 hu0.2 (by omega) (by omega)) (fun v72 s72 R72 => ?_) XT.stop
              obtain ⟨rfl, rfl⟩ := R72
              dsimp only [List.cons_append, List.nil_append]
              refine ⟨inferInstance, ?_⟩
              refine XT.q rfl rfl (Q.assign rfl) ?_
              refine XT.done ?_
              refine XK.seq ?_
              refine XK.seq ?_
              refine XK.region rfl ?_
              refine XO.q (Q.move rfl) ?_
              refine XO.q (Q.geq rfl rfl) ?_
              refine XO.q (Q.move rfl) ?_
              refine XO.q (Quiet.guardT rfl rfl fun g76 p76 => Q.fieldAddr rfl) ?_
              refine XO.q (Quiet.guardT rfl rfl fun g77 p77 => Q.ld (lzv g77 rfl) rfl) ?_
              refine XO.q (Quiet.guardT rfl rfl fun g78 p78 => Q.move rfl) ?_
              refine XO.q (Quiet.guardT rfl rfl fun g79 p79 => Q.ix (lzv g79 rfl) (lzv g79 rfl) (by omega) (by omega)) ?_
              refine XO.q (Quiet.guardT rfl rfl fun g80 p80 => Q.ldE (lzv g80 rfl) (by first | assumption | omega) rfl) ?_
              refine XO.q (Q.and rfl (fun hp => lzv hp rfl)) ?_
              refine XO.done ?_
              refine XK.if rfl (fun c6 => ?_) (fun c6 => ?_)
              · have _t6 := True.intro
                refine XK.exit rfl ?_
                refine XK.region rfl ?_
                refine XO.q (Q.move rfl) ?_
                refine XO.q (Q.add rfl rfl ⟨by omega, by omega⟩) ?_
                rw [show ((w : Int) + 1) = ((w + 1 : Nat) : Int) from rfl]
                refine XO.q (Q.assign rfl) ?_
                refine XO.done ?_
                exact ih1 (w + 1, best, lst) _ _ ⟨by omega, by dsimp only; rw [worstTo_succ, ← hbe, worstStep, hld, if_pos c6], hb1, by dsimp only; omega, hb3⟩ (by first | omega | (dsimp only; omega)) (.c rfl (.c rfl (.c rfl (.base 72 rfl rfl)))) inferInstance
              · have _t6 := True.intro
                refine XK.skip ?_
                refine XK.seq ?_
                refine XK.region rfl ?_
                refine XO.q (Q.assign rfl) ?_
                refine XO.done ?_
                refine XK.seq ?_
                refine XK.seq ?_
                refine XK.region rfl ?_
                refine XO.q (Q.move rfl) ?_
                refine XO.q (Q.geq rfl rfl) ?_
                refine XO.done ?_
                refine XK.meet (X := Int) [19, 84, 85, 86, 87, 88] (fun rr => [(19, some (.int .i64 rr))]) (fun rr => []) (fun rr => rr = rkOf rnk (leadAt next C K s (l.getD i default) (w : Nat))) [] ?_ ?_
                · rintro rr hrr
                  dsimp only [List.cons_append, List.nil_append]
                  refine XK.seq ?_
                  refine XK.region rfl ?_
                  refine XO.q (Q.move rfl) ?_
                  refine XO.q (Q.lss rfl rfl) ?_
                  refine XO.q (Q.move rfl) ?_
                  refine XO.q (Quiet.guardF rfl rfl fun g92 p92 => Q.move rfl) ?_
                  refine XO.q (Quiet.guardF rfl rfl fun g93 p93 => Q.move rfl) ?_
                  refine XO.q (Quiet.guardF rfl rfl fun g94 p94 => Q.lss (lzv g94 rfl) (lzv g94 rfl)) ?_
                  refine XO.q (Q.or rfl (fun hp => lzv hp rfl)) ?_
                  refine XO.done ?_
                  refine XK.if rfl (fun c8 => ?_) (fun c8 => ?_)
                  · have _t8 := True.intro
                    refine XK.seq ?_
                    refine XK.region rfl ?_
                    refine XO.q (Q.move rfl) ?_
                    refine XO.q (Q.assign rfl) ?_
                    refine XO.done ?_
                    refine XK.region rfl ?_
                    refine XO.q (Q.move rfl) ?_
                    refine XO.q (Q.assign rfl) ?_
                    refine XO.done ?_
                    refine XK.inBlock ?_
                    refine XK.region rfl ?_
                    refine XO.q (Q.move rfl) ?_
                    refine XO.q (Q.add rfl rfl ⟨by omega, by omega⟩) ?_
                    rw [show ((w : Int) + 1) = ((w + 1 : Nat) : Int) from rfl]
                    refine XO.q (Q.assign rfl) ?_
                    refine XO.done ?_
                    exact ih1 (w + 1, (w : Int), rr) _ _ ⟨by omega, by dsimp only; rw [worstTo_succ, ← hbe, worstStep, hld, if_neg c6, if_pos]; rw [← hrr]; rcases c8 with h | h; exact .inl h; exact if h0 : best < 0 then .inl h0 else .inr (by rw [← hb3 (by omega)]; exact h), by dsimp only; omega, by dsimp only; omega, fun _ => by dsimp only; rw [Int.toNat_natCast, hld]; exact hrr⟩ (by first | omega | (dsimp only; omega)) (.c rfl (.c rfl (.c rfl (.base 93 rfl rfl)))) inferInstance
                  · have _t8 := True.intro
                    refine XK.skip ?_
                    refine XK.inBlock ?_
                    refine XK.region rfl ?_
                    refine XO.q (Q.move rfl) ?_
                    refine XO.q (Q.add rfl rfl ⟨by omega, by omega⟩) ?_
                    rw [show ((w : Int) + 1) = ((w + 1 : Nat) : Int) from rfl]
                    refine XO.q (Q.assign rfl) ?_
                    refine XO.done ?_
                    exact ih1 (w + 1, best, lst) _ _ ⟨by omega, by dsimp only; rw [worstTo_succ, ← hbe, worstStep, hld, if_neg c6, if_neg]; rw [← hrr]; rintro (h | h); exact c8 (.inl h); exact c8 (if h0 : best < 0 then .inl h0 else .inr (by rw [hb3 (by omega)]; exact h)), hb1, by dsimp only; omega, hb3⟩ (by first | omega | (dsimp only; omega)) (.c rfl (.c rfl (.c rfl (.base 89 rfl rfl)))) inferInstance
                · intro mt7
                  dsimp only [List.cons_append, List.nil_append] at mt7
                  refine XK.if rfl (fun c7 => ?_) (fun c7 => ?_)
                  · have _t7 := True.intro
                    refine XK.region rfl ?_
                    refine XO.q (Q.fieldAddr rfl) ?_
                    refine XO.q (Q.ld rfl rfl) ?_
                    refine XO.q (Q.move rfl) ?_
                    refine XO.ix rfl rfl (by omega) (by omega) fun i87 => ?_
                    refine XO.q (Q.ldE rfl (by first | assumption | omega) rfl) ?_
                    refine XO.q (Q.assign rfl) ?_
                    refine XO.done ?_
                    exact mt7 (_) _ _ (by rw [rkOf, if_neg (by omega)]) (.c rfl (.base 6 rfl rfl)) inferInstance
                  · have _t7 := True.intro
                    refine XK.skip ?_
                    exact mt7 (-1) _ _ (by rw [rkOf, if_pos (by omega)]) (.c rfl (.base 0 rfl rfl)) inferInstance
            · have _t5 := True.intro
              have hwK : w = K := by omega
              rw [hwK] at hbe
              rw [hbe]
              rw [show worstTo ins rnk (leads next C K s.toNat (l.getD i default).toNat) K = worstP next C K ins rnk s.toNat (l.getD i default).toNat from rfl]
              refine XK.exit rfl ?_
              refine XK.seq ?_
              refine XK.drawn [0, 1, 2, 3, 4, 5, 6, 8] [b4] [] (.q 0 (.q 1 (.q 2 (.q 3 (.q 4 (.q 5 (.q 6 (.br 7 true (.q 8 .done) .stop)))))))) Try.mixed rfl (by kernel_rfl) ?_
              refine XT.q rfl rfl (Q.ldA [_, _, _, _, _] rfl rfl rfl) ?_
              refine XT.q rfl rfl (Q.move rfl) ?_
              refine XT.q rfl rfl (Q.move rfl) ?_
              refine XT.q rfl rfl (Q.move rfl) ?_
              refine XT.ix rfl rfl rfl rfl (by omega) (by omega) fun i102 => ?_
              refine XT.q rfl rfl (Q.ldE rfl (by first | assumption | omega) rfl) ?_
              refine XT.q rfl rfl (Q.move rfl) ?_
              refine XT.call rfl rfl Try.call42 rfl rfl rfl (refLeadsI S C K next good ok vn vg hn s (l.getD i default) (worstP next C K ins rnk s.toNat (l.getD i default).toNat) q0 q5 hu0.1 hu0.2 w1 w2) (fun v105 s105 R105 => ?_) XT.stop
              obtain ⟨rfl, rfl⟩ := R105
              dsimp only [List.cons_append, List.nil_append]
              refine ⟨inferInstance, ?_⟩
              refine XT.q rfl rfl (Q.assign rfl) ?_
              refine XT.done ?_
              refine XK.seq ?_
              refine XK.region rfl ?_
              refine XO.q (Q.move rfl) ?_
              refine XO.q (Q.move rfl) ?_
              refine XO.lit [_] [_] [_] encI (by rfl) (by rfl) rfl (by rfl) (by exact .c 0 1 rfl rfl rfl (.n _)) (fun _ => rfl) (by rfl) rfl (by infer_instance) rfl fun v108 h108 O108 => ?_
              refine XO.append rfl rfl rfl rfl (by simp only [List.length_map, List.length_cons, List.length_nil]; omega) fun v109 h109 O109 => ?_
              refine XO.q (Q.assign rfl) ?_
              refine XO.done ?_
              refine XK.region rfl ?_
              refine XO.q (Q.move rfl) ?_
              refine XO.q (Q.move rfl) ?_
              refine XO.lit [_] [_] [_] encI (by rfl) (by rfl) rfl (by rfl) (by exact .c 0 1 rfl rfl rfl (.n _)) (fun _ => rfl) (by rfl) rfl (by infer_instance) rfl fun v112 h112 O112 => ?_
              refine XO.append rfl rfl rfl rfl (by simp only [List.length_map, List.length_cons, List.length_nil]; omega) fun v113 h113 O113 => ?_
              refine XO.q (Q.assign rfl) ?_
              refine XO.done ?_
              refine XK.inBlock ?_
              refine XK.region rfl ?_
              refine XO.q (Q.move rfl) ?_
              refine XO.q (Q.add rfl rfl ⟨by omega, by omega⟩) ?_
              rw [show ((i : Int) + 1) = ((i + 1 : Nat) : Int) from rfl]
              refine XO.q (Q.assign rfl) ?_
              refine XO.done ?_
              exact ih0 (i + 1, leadAt next C K s (l.getD i default) (worstP next C K ins rnk s.toNat (l.getD i default).toNat), v109, h109, v113, h113, done ++ [(worstP next C K ins rnk s.toNat (l.getD i default).toNat, leadAt next C K s (l.getD i default) (worstP next C K ins rnk s.toNat (l.getD i default).toNat))]) _ _ ⟨by dsimp only; omega, by dsimp only; exact orMap w3 id fun h => ⟨h.2.1, h.1⟩, by dsimp only; rw [q3, drop_cons (show i < l.length by omega), forceL, if_neg hst, List.append_assoc]; rfl, by dsimp only; rw [q4, drop_cons (show i < l.length by omega), forceE, if_neg hst], by simp only [List.length_append, List.length_cons, List.length_nil]; omega, by rw [List.map_append]; exact O109, by rw [List.map_append]; exact O113, by dsimp only; rcases w3 with w3 | w3 <;> omega⟩ (by first | omega | (dsimp only; omega)) (.c rfl (.c rfl (.c rfl (.c rfl (.base 175 rfl rfl))))) inferInstance
        · have _t3 := True.intro
          have hst : stopB good s = true := Classical.byContradiction fun h => c3 (stop_not.1 h)
          have hF : forceL next C K good ins rnk state l = done := by
            rcases Nat.lt_or_ge i l.length with h | h
            · rw [q3, drop_cons h, forceL, if_pos hst, List.append_nil]
            · rw [q3, List.drop_of_length_le h, forceL, List.append_nil]
          have hE : forceE next C K good ins rnk state l = s := by
            rcases Nat.lt_or_ge i l.length with h | h
            · rw [q4, drop_cons h, forceE, if_pos hst]
            · rw [q4, List.drop_of_length_le h, forceE]
          refine XK.exit rfl ?_
          refine XK.seq ?_
          refine XK.region rfl ?_
          refine XO.q (Q.move rfl) ?_
          refine XO.q (Q.move rfl) ?_
          refine XO.q (Q.assign rfl) ?_
          refine XO.q (Q.assign rfl) ?_
          refine XO.q (Q.assign rfl) ?_
          refine XO.done ?_
          refine XK.rt [hW, hN] Try.func55 Try.results55 (.t rfl (.t rfl (.t rfl .n))) ?_
          have hw : forceG ⟨S, C, K, next, good⟩ ins ctl rnk state l = (done.map (·.1), done.map (·.2), 0) := by
            rw [forceG, if_neg c0, if_neg c1, if_neg c2, if_neg]
            · simp only [Int.toNat_natCast]
              rw [hF]
            · simp only [Int.toNat_natCast]
              rw [hE, Classical.not_not]
              exact hst
          rw [hw]
          exact ⟨vW, vN, hW, hN, rfl, rfl, OW, ON⟩
def sameR (a : List Bool) (b c : List Int) (a' : List Bool) (b' c' : List Int) : Bool := (decide (a = a') && decide (b = b')) && decide (c = c')
theorem same_spec (vi vc vr : Value) (hi hc hr : PHeap) (ins : List Bool) [si : Arr vi encB 1 hi ins] (ctl : List Int) [sc : Arr vc encI 1 hc ctl] (rnk : List Int) [sr : Arr vr encI 1 hr rnk] (wi wc wr : Value) (ki kc kr : PHeap) (ins' : List Bool) [ti : Arr wi encB 1 ki ins'] (ctl' : List Int) [tc : Arr wc encI 1 kc ctl'] (rnk' : List Int) [tr : Arr wr encI 1 kr rnk'] : Spec Try.prog 50 #[.agg #[vi, vc, vr], .agg #[wi, wc, wr]] [] [hi, hc, hr, ki, kc, kr] (fun v hs => v = .bool (sameR ins ctl rnk ins' ctl' rnk') ∧ hs = []) := by
  refine Spec.intro (fn := Try.f50) (N := 24) Try.func50 rfl Try.ntmps50 rfl fun B => ?_
  refine XK.seq ?_
  refine XK.region rfl ?_
  refine XO.box rfl fun b2 => ?_
  refine XO.box rfl fun b3 => ?_
  refine XO.q (Q.assign rfl) ?_
  refine XO.done ?_
  refine XK.seq ?_
  refine XK.region rfl ?_
  refine XO.q (Q.fieldAddr rfl) ?_
  refine XO.q (Q.ld rfl rfl) ?_
  refine XO.q (Q.fieldAddr rfl) ?_
  refine XO.q (Q.ld rfl rfl) ?_
  refine XO.call Try.call27 rfl rfl rfl (equalB vi wi hi ki ins ins') fun v9 s9 R9 => ?_
  obtain ⟨rfl, rfl⟩ := R9
  dsimp only [List.cons_append, List.nil_append]
  refine XO.q (Q.move rfl) ?_
  refine XO.q (Quiet.guardT rfl rfl fun g11 p11 => Q.fieldAddr rfl) ?_
  refine XO.q (Quiet.guardT rfl rfl fun g12 p12 => Q.ld (lzv g12 rfl) rfl) ?_
  refine XO.q (Quiet.guardT rfl rfl fun g13 p13 => Q.fieldAddr rfl) ?_
  refine XO.q (Quiet.guardT rfl rfl fun g14 p14 => Q.ld (lzv g14 rfl) rfl) ?_
  refine XO.gcallT rfl rfl Try.call37 rfl (fun g15 => .c (lzv g15 rfl) (.c (lzv g15 rfl) .n)) rfl (fun g15 p15 => equalI vc wc hc kc ctl ctl') ?_
  refine XO.q (Q.and rfl (fun hp => lzv hp rfl)) ?_
  refine XO.q (Q.move rfl) ?_
  refine XO.q (Quiet.guardT rfl rfl fun g18 p18 => Q.fieldAddr rfl) ?_
  refine XO.q (Quiet.guardT rfl rfl fun g19 p19 => Q.ld (lzv g19 rfl) rfl) ?_
  refine XO.q (Quiet.guardT rfl rfl fun g20 p20 => Q.fieldAddr rfl) ?_
  refine XO.q (Quiet.guardT rfl rfl fun g21 p21 => Q.ld (lzv g21 rfl) rfl) ?_
  refine XO.gcallT rfl rfl Try.call37 rfl (fun g22 => .c (lzv g22 rfl) (.c (lzv g22 rfl) .n)) rfl (fun g22 p22 => equalI vr wr hr kr rnk rnk') ?_
  refine XO.q (Q.and rfl (fun hp => lzv hp rfl)) ?_
  refine XO.q (Q.assign rfl) ?_
  refine XO.done ?_
  refine XK.rt [] Try.func50 Try.results50 (.t rfl .n) ?_
  exact ⟨rfl, rfl⟩
theorem certified_spec (vi vc vr : Value) (hi hc hr : PHeap) (ins : List Bool) [si : Arr vi encB 1 hi ins] (ctl : List Int) [sc : Arr vc encI 1 hc ctl] (rnk : List Int) [sr : Arr vr encI 1 hr rnk] (h1 : ins.length ≤ 68719476736) (h2 : ctl.length ≤ 68719476736) (h3 : rnk.length ≤ 68719476736) : Spec Try.prog 52 #[.agg #[vi, vc, vr]] [] [hi, hc, hr]
    (fun v hs => ∃ a1 a2 a3 b1 b2 b3 k1 k2 k3 m1 m2 m3, v = .tuple #[.agg #[a1, a2, a3], .agg #[b1, b2, b3]] ∧ hs = [k1, k2, k3, m1, m2, m3] ∧ OArr a1 encB 1 4 k1 ins ∧ OArr a2 encI 1 3 k2 ctl ∧ OArr a3 encI 1 3 k3 rnk ∧
      OArr b1 encB 1 4 m1 ins ∧ OArr b2 encI 1 3 m2 ctl ∧ OArr b3 encI 1 3 m3 rnk) := by
  refine Spec.intro (fn := Try.f52) (N := 24) Try.func52 rfl Try.ntmps52 rfl fun B => ?_
  refine XK.seq ?_
  refine XK.region rfl ?_
  refine XO.box rfl fun b1 => ?_
  refine XO.alloc fun b2 => ?_
  refine XO.alloc fun b3 => ?_
  refine XO.done ?_
  refine XK.seq ?_
  refine XK.drawn [0, 1, 3, 4, 6, 7, 10, 11, 13, 14, 16, 17, 9, 19] [b1] [] (.q 0 (.q 1 (.q 3 (.q 4 (.q 6 (.q 7 (.q 10 (.q 11 (.q 13 (.q 14 (.q 16 (.q 17 (.br 2 true (.br 5 true (.br 8 true (.q 9 (.br 12 true (.br 15 true (.br 18 true (.q 19 (.br 20 true (.br 21 false .done .stop) .stop)) .stop) .stop) .stop)) .stop) .stop) .stop))))))))))))) Try.mixed rfl (by kernel_rfl) ?_
  refine XT.q rfl rfl (Q.fieldAddr rfl) ?_
  refine XT.q rfl rfl (Q.ld rfl rfl) ?_
  refine XT.q rfl rfl (Q.fieldAddr rfl) ?_
  refine XT.q rfl rfl (Q.ld rfl rfl) ?_
  refine XT.q rfl rfl (Q.fieldAddr rfl) ?_
  refine XT.q rfl rfl (Q.ld rfl rfl) ?_
  refine XT.q rfl rfl (Q.fieldAddr rfl) ?_
  refine XT.q rfl rfl (Q.ld rfl rfl) ?_
  refine XT.q rfl rfl (Q.fieldAddr rfl) ?_
  refine XT.q rfl rfl (Q.ld rfl rfl) ?_
  refine XT.q rfl rfl (Q.fieldAddr rfl) ?_
  refine XT.q rfl rfl (Q.ld rfl rfl) ?_
  refine XT.call rfl rfl Try.call24 rfl rfl rfl (cloneB _ hi ins (by omega)) (fun v6 s6 R6 => ?_) XT.stop
  obtain ⟨h6, rfl, O6⟩ := R6
  dsimp only [List.cons_append, List.nil_append]
  refine ⟨inferInstance, ?_⟩
  refine XT.call rfl rfl Try.call25 rfl rfl rfl (cloneI _ hc ctl (by omega)) (fun v9 s9 R9 => ?_) XT.stop
  obtain ⟨h9, rfl, O9⟩ := R9
  dsimp only [List.cons_append, List.nil_append]
  refine ⟨inferInstance, ?_⟩
  refine XT.call rfl rfl Try.call25 rfl rfl rfl (cloneI _ hr rnk (by omega)) (fun v12 s12 R12 => ?_) XT.stop
  obtain ⟨h12, rfl, O12⟩ := R12
  dsimp only [List.cons_append, List.nil_append]
  refine ⟨inferInstance, ?_⟩
  refine XT.q rfl rfl (Q.build [_, _, _] (.c 0 1 rfl rfl rfl (.c 1 1 rfl rfl rfl (.c 2 1 rfl rfl rfl (.n _))))) ?_
  refine XT.call rfl rfl Try.call24 rfl rfl rfl (cloneB _ hi ins (by omega)) (fun v16 s16 R16 => ?_) XT.stop
  obtain ⟨h16, rfl, O16⟩ := R16
  dsimp only [List.cons_append, List.nil_append]
  refine ⟨inferInstance, ?_⟩
  refine XT.call rfl rfl Try.call25 rfl rfl rfl (cloneI _ hc ctl (by omega)) (fun v19 s19 R19 => ?_) XT.stop
  obtain ⟨h19, rfl, O19⟩ := R19
  dsimp only [List.cons_append, List.nil_append]
  refine ⟨inferInstance, ?_⟩
  refine XT.call rfl rfl Try.call25 rfl rfl rfl (cloneI _ hr rnk (by omega)) (fun v22 s22 R22 => ?_) XT.stop
  obtain ⟨h22, rfl, O22⟩ := R22
  dsimp only [List.cons_append, List.nil_append]
  refine ⟨inferInstance, ?_⟩
  refine XT.q rfl rfl (Q.build [_, _, _] (.c 0 1 rfl rfl rfl (.c 1 1 rfl rfl rfl (.c 2 1 rfl rfl rfl (.n _))))) ?_
  refine XT.st rfl rfl rfl rfl rfl ⟨inferInstance, ?_⟩ XT.stop
  refine XT.st rfl rfl rfl rfl rfl ⟨inferInstance, ?_⟩ XT.stop
  refine XT.done ?_
  refine XK.rt [h6, h9, h12, h16, h19, h22] Try.func52 Try.results52 (.cell [_, _, _] rfl rfl rfl (.cell [_, _, _] rfl rfl rfl (.n))) ?_
  exact ⟨v6, v9, v12, v16, v19, v22, h6, h9, h12, h16, h19, h22, rfl, rfl, O6, O9, O12, O16, O19, O22⟩
end Go.X

set_option linter.unusedSimpArgs false
set_option linter.unusedVariables false
set_option maxRecDepth 20000
namespace Go.X
open Go.Proofs
def pickI (x n : Int) : Int := if n < 1 then 0 else if x.tmod n < 0 then x.tmod n + n else x.tmod n
theorem pickI_bd {x n : Int} (h : 1 ≤ n) : 0 ≤ pickI x n ∧ pickI x n < n := by
  have h1 := Int.lt_tmod_of_pos x (show 0 < n by omega)
  have h2 := Int.tmod_lt_of_pos x (show 0 < n by omega)
  unfold pickI
  rw [if_neg (by omega)]
  split <;> omega
theorem sameR_self (a : List Bool) (b c : List Int) : sameR a b c a b c = true := by simp [sameR]
theorem Pick_spec (x n : Int) (hx : in64 x) (hn : in64 n) : Spec Try.prog 73 #[.int .i64 x, .int .i64 n] [] [] (fun v hs => v = .int .i64 (pickI x n) ∧ hs = []) := by
  obtain ⟨hn1, hn2⟩ := hn
  refine Spec.intro (fn := Try.f73) (N := 17) Try.func73 rfl Try.ntmps73 rfl fun B => ?_
  refine XK.seq ?_
  refine XK.region rfl ?_
  refine XO.q (Q.assign rfl) ?_
  refine XO.done ?_
  refine XK.seq ?_
  refine XK.seq ?_
  refine XK.region rfl ?_
  refine XO.q (Q.move rfl) ?_
  refine XO.q (Q.lss rfl rfl) ?_
  refine XO.done ?_
  refine XK.if rfl (fun c0 => ?_) (fun c0 => ?_)
  · have _t0 := True.intro
    refine XK.seq ?_
    refine XK.region rfl ?_
    refine XO.q (Q.assign rfl) ?_
    refine XO.done ?_
    refine XK.rt [] Try.func73 Try.results73 (.t rfl .n) ?_
    exact ⟨by rw [pickI, if_pos c0], rfl⟩
  · have _t0 := True.intro
    have h1 := Int.lt_tmod_of_pos x (show 0 < n by omega)
    have h2 := Int.tmod_lt_of_pos x (show 0 < n by omega)
    refine XK.skip ?_
    refine XK.seq ?_
    refine XK.region rfl ?_
    refine XO.q (Q.move rfl) ?_
    refine XO.q (Q.move rfl) ?_
    refine XO.q (Q.remT rfl rfl (by omega)) ?_
    refine XO.q (Q.assign rfl) ?_
    refine XO.done ?_
    refine XK.seq ?_
    refine XK.seq ?_
    refine XK.region rfl ?_
    refine XO.q (Q.move rfl) ?_
    refine XO.q (Q.lss rfl rfl) ?_
    refine XO.done ?_
    refine XK.if rfl (fun c1 => ?_) (fun c1 => ?_)
    · have _t1 := True.intro
      refine XK.region rfl ?_
      refine XO.q (Q.move rfl) ?_
      refine XO.q (Q.move rfl) ?_
      refine XO.q (Q.add rfl rfl ⟨by omega, by omega⟩) ?_
      refine XO.q (Q.assign rfl) ?_
      refine XO.done ?_
      refine XK.seq ?_
      refine XK.region rfl ?_
      refine XO.q (Q.move rfl) ?_
      refine XO.q (Q.assign rfl) ?_
      refine XO.done ?_
      refine XK.rt [] Try.func73 Try.results73 (.t rfl .n) ?_
      exact ⟨by rw [pickI, if_neg c0, if_pos c1], rfl⟩
    · have _t1 := True.intro
      refine XK.skip ?_
      refine XK.seq ?_
      refine XK.region rfl ?_
      refine XO.q (Q.move rfl) ?_
      refine XO.q (Q.assign rfl) ?_
      refine XO.done ?_
      refine XK.rt [] Try.func73 Try.results73 (.t rfl .n) ?_
      exact ⟨by rw [pickI, if_neg c0, if_neg c1], rfl⟩
theorem changed_spec (vi vc vr : Value) (hi hc hr : PHeap) (ins : List Bool) [si : Arr vi encB 1 hi ins] (ctl : List Int) [sc : Arr vc encI 1 hc ctl] (rnk : List Int) [sr : Arr vr encI 1 hr rnk] (h1 : ins.length ≤ 68719476736) (h2 : ctl.length = ins.length) (h3 : rnk.length = ins.length) (at' by' : Int) (ha : in64 at') (hb : in64 by') : Spec Try.prog 51 #[.agg #[vi, vc, vr], .int .i64 at', .int .i64 by'] [] [hi, hc, hr]
    (fun v hs => ∃ a1 a2 a3 k1 k2 k3 x1 x2 x3, v = .agg #[a1, a2, a3] ∧ hs = [k1, k2, k3] ∧ OArr a1 encB 1 4 k1 x1 ∧ OArr a2 encI 1 3 k2 x2 ∧ OArr a3 encI 1 3 k3 x3 ∧ x1.length = ins.length ∧ x2.length = ins.length ∧ x3.length = ins.length) := by
  refine Spec.intro (fn := Try.f51) (N := 81) Try.func51 rfl Try.ntmps51 rfl fun B => ?_
  refine XK.seq ?_
  refine XK.region rfl ?_
  refine XO.box rfl fun b3 => ?_
  refine XO.alloc fun b6 => ?_
  refine XO.done ?_
  refine XK.seq ?_
  refine XK.region rfl ?_
  refine XO.q (Q.ldA [_, _, _] rfl rfl rfl) ?_
  refine XO.call Try.call52 rfl rfl rfl (certified_spec vi vc vr hi hc hr ins ctl rnk (by omega) (by omega) (by omega)) fun v11 s11 R11 => ?_
  obtain ⟨a1, a2, a3, d1, d2, d3, k1, k2, k3, m1, m2, m3, rfl, rfl, OA1, OA2, OA3, OB1, OB2, OB3⟩ := R11
  dsimp only [List.cons_append, List.nil_append]
  refine XO.q (Q.move rfl) ?_
  refine XO.q (Q.extract rfl rfl) ?_
  refine XO.q (Q.extract rfl rfl) ?_
  refine XO.st rfl rfl rfl ?_
  refine XO.done ?_
  refine XK.seq ?_
  refine XK.seq ?_
  refine XK.region rfl ?_
  refine XO.q (Q.fieldAddr rfl) ?_
  refine XO.q (Q.ld rfl rfl) ?_
  refine XO.len rfl fun l16 => ?_
  refine XO.q (Q.eql rfl rfl) ?_
  refine XO.done ?_
  refine XK.if rfl (fun c0 => ?_) (fun c0 => ?_)
  · have _t0 := True.intro
    refine XK.seq ?_
    refine XK.region rfl ?_
    refine XO.q (Q.ldA [_, _, _] rfl rfl rfl) ?_
    refine XO.st rfl rfl rfl ?_
    refine XO.done ?_
    refine XK.rt [k1, k2, k3] Try.func51 Try.results51 (.cell [_, _, _] rfl rfl rfl (.n)) ?_
    exact ⟨a1, a2, a3, k1, k2, k3, ins, ctl, rnk, rfl, rfl, OA1, OA2, OA3, rfl, h2, h3⟩
  · have _t0 := True.intro
    have hpk := pickI_bd (x := at') (n := (ins.length : Int)) (by omega)
    refine XK.skip ?_
    refine XK.seq ?_
    refine XK.region rfl ?_
    refine XO.q (Q.move rfl) ?_
    refine XO.q (Q.fieldAddr rfl) ?_
    refine XO.q (Q.ld rfl rfl) ?_
    refine XO.len rfl fun l22 => ?_
    refine XO.call Try.call73 rfl rfl rfl (Pick_spec at' ins.length ha ⟨by omega, by omega⟩) fun v23 s23 R23 => ?_
    obtain ⟨rfl, rfl⟩ := R23
    dsimp only [List.cons_append, List.nil_append]
    refine XO.q (Q.assign rfl) ?_
    refine XO.done ?_
    refine XK.seq ?_
    refine XK.seq ?_
    refine XK.region rfl ?_
    refine XO.q (Q.move rfl) ?_
    refine XO.call Try.call73 rfl rfl rfl (Pick_spec by' 4 hb ⟨by omega, by omega⟩) fun v25 s25 R25 => ?_
    obtain ⟨rfl, rfl⟩ := R25
    dsimp only [List.cons_append, List.nil_append]
    refine XO.done ?_
    refine XK.block ?_
    refine XK.seq ?_
    refine XK.region rfl ?_
    refine XO.q (Q.eql rfl rfl) ?_
    refine XO.q (Q.assign rfl) ?_
    refine XO.done ?_
    refine XK.meet (X := PHeap × List Bool × PHeap × List Int × PHeap × List Int) [8, 26, 27, 28, 29, 30, 31, 32, 33, 34, 35, 36, 37, 38, 39, 40, 41, 42, 43, 44, 45, 46, 47, 50, 51, 52, 53, 54, 55, 56, 57, 58, 59, 60, 61, 62, 63, 64, 65, 66, 67, 68, 69, 70, 71, 72, 73, 74, 75, 76, 77, 78, 79] (fun ⟨j1, x1, j2, x2, j3, x3⟩ => []) (fun ⟨j1, x1, j2, x2, j3, x3⟩ => [j1, j2, j3]) (fun ⟨j1, x1, j2, x2, j3, x3⟩ => OArr a1 encB 1 4 j1 x1 ∧ OArr a2 encI 1 3 j2 x2 ∧ OArr a3 encI 1 3 j3 x3 ∧ x1.length = ins.length ∧ x2.length = ins.length ∧ x3.length = ins.length) [k1, k2, k3] ?_ ?_
    · rintro ⟨j1, x1, j2, x2, j3, x3⟩ ⟨OJ1, OJ2, OJ3, e1, e2, e3⟩
      dsimp only [List.cons_append, List.nil_append]
      refine XK.inBlock ?_
      refine XK.seq ?_
      refine XK.region rfl ?_
      refine XO.q (Q.ldA [_, _, _] rfl rfl rfl) ?_
      refine XO.st rfl rfl rfl ?_
      refine XO.done ?_
      refine XK.rt [j1, j2, j3] Try.func51 Try.results51 (.cell [_, _, _] rfl rfl rfl (.n)) ?_
      exact ⟨a1, a2, a3, j1, j2, j3, x1, x2, x3, rfl, rfl, OJ1, OJ2, OJ3, e1, e2, e3⟩
    · intro mt1
      dsimp only [List.cons_append, List.nil_append] at mt1
      refine XK.if rfl (fun c1 => ?_) (fun c1 => ?_)
      · have _t1 := True.intro
        refine XK.region rfl ?_
        refine XO.q (Q.fieldAddr rfl) ?_
        refine XO.q (Q.ld rfl rfl) ?_
        refine XO.q (Q.move rfl) ?_
        refine XO.ix rfl rfl (by omega) (by omega) fun i53 => ?_
        refine XO.q (Q.ldE rfl (by first | assumption | omega) rfl) ?_
        refine XO.q (Q.move rfl) ?_
        refine XO.q (Q.addW rfl rfl) ?_
        refine XO.ix rfl rfl (by omega) (by omega) fun i57 => ?_
        refine XO.stE _ rfl rfl rfl (by assumption) rfl rfl fun h13_8 O13_8 => ?_
        refine XO.done ?_
        exact mt1 (k1, ins, k2, ctl, h13_8, _) _ _ ⟨OA1, OA2, O13_8, rfl, h2, by simp only [List.length_set]; exact h3⟩ (.base 8 rfl rfl) inferInstance
      · have _t1 := True.intro
        refine XK.seq ?_
        refine XK.region rfl ?_
        refine XO.q (Q.eql rfl rfl) ?_
        refine XO.q (Q.assign rfl) ?_
        refine XO.done ?_
        refine XK.if rfl (fun c2 => ?_) (fun c2 => ?_)
        · have _t2 := True.intro
          refine XK.region rfl ?_
          refine XO.q (Q.fieldAddr rfl) ?_
          refine XO.q (Q.ld rfl rfl) ?_
          refine XO.q (Q.move rfl) ?_
          refine XO.ix rfl rfl (by omega) (by omega) fun i63 => ?_
          refine XO.q (Q.ldE rfl (by first | assumption | omega) rfl) ?_
          refine XO.q (Q.move rfl) ?_
          refine XO.q (Q.addW rfl rfl) ?_
          refine XO.ix rfl rfl (by omega) (by omega) fun i67 => ?_
          refine XO.stE _ rfl rfl rfl (by assumption) rfl rfl fun h15_8 O15_8 => ?_
          refine XO.done ?_
          exact mt1 (k1, ins, h15_8, _, k3, rnk) _ _ ⟨OA1, O15_8, OA3, rfl, by simp only [List.length_set]; exact h2, h3⟩ (.base 10 rfl rfl) inferInstance
        · have _t2 := True.intro
          refine XK.seq ?_
          refine XK.region rfl ?_
          refine XO.q (Q.eql rfl rfl) ?_
          refine XO.q (Q.assign rfl) ?_
          refine XO.done ?_
          refine XK.if rfl (fun c3 => ?_) (fun c3 => ?_)
          · have _t3 := True.intro
            refine XK.drawn [0, 1, 2, 3, 4, 5, 6, 7, 8, 9] [b3] [k1] (.q 0 (.q 1 (.q 2 (.q 3 (.q 4 (.q 5 (.q 6 (.q 7 (.q 8 (.q 9 (.br 10 false .done .stop))))))))))) Try.mixed rfl (by kernel_rfl) ?_
            refine XT.q rfl rfl (Q.fieldAddr rfl) ?_
            refine XT.q rfl rfl (Q.ld rfl rfl) ?_
            refine XT.q rfl rfl (Q.move rfl) ?_
            refine XT.q rfl rfl (Q.fieldAddr rfl) ?_
            refine XT.q rfl rfl (Q.ld rfl rfl) ?_
            refine XT.q rfl rfl (Q.move rfl) ?_
            refine XT.ix rfl rfl rfl rfl (by omega) (by omega) fun i76 => ?_
            refine XT.q rfl rfl (Q.ldE rfl (by first | assumption | omega) rfl) ?_
            refine XT.q rfl rfl (Q.not rfl) ?_
            refine XT.ix rfl rfl rfl rfl (by omega) (by omega) fun i79 => ?_
            refine XT.stE _ rfl rfl rfl rfl rfl (by assumption) rfl rfl (fun h17_10 O17_10 => ⟨inferInstance, ?_⟩) XT.stop
            refine XT.done ?_
            exact mt1 (h17_10, _, k2, ctl, k3, rnk) _ _ ⟨O17_10, OA2, OA3, by simp only [List.length_set], h2, h3⟩ (.base 14 rfl rfl) inferInstance
          · have _t3 := True.intro
            refine XK.seq ?_
            refine XK.region rfl ?_
            refine XO.q (Q.fieldAddr rfl) ?_
            refine XO.q (Q.ld rfl rfl) ?_
            refine XO.len rfl fun l28 => ?_
            refine XO.q (Q.move rfl) ?_
            refine XO.done ?_
            refine XK.block ?_
            refine XK.while (X := Nat × PHeap × List Int) [8, 29, 30, 31, 32, 33, 34, 35, 36, 37, 38, 39, 40, 41, 42, 43, 44, 45, 46, 47] (fun ⟨i, hz, rk⟩ => [(29, some (.int .i64 (i : Nat)))]) (fun ⟨i, hz, rk⟩ => [hz]) (fun ⟨i, hz, rk⟩ => i ≤ rnk.length ∧ rk.length = rnk.length ∧ OArr a3 encI 1 3 hz rk) (fun ⟨i, hz, rk⟩ => rnk.length - i) (0, k3, rnk) [k3] rfl ⟨by omega, rfl, OA3⟩ (.c rfl (.base 0 rfl rfl)) ?_
            rintro ⟨i, hz, rk⟩ ⟨hii, hrk, OZ⟩ ih0
            dsimp only [List.cons_append, List.nil_append] at ih0 ⊢
            refine XK.seq ?_
            refine XK.region rfl ?_
            refine XO.q (Q.lss rfl rfl) ?_
            refine XO.done ?_
            refine XK.seq ?_
            refine XK.if rfl (fun c4 => ?_) (fun c4 => ?_)
            · have _t4 := True.intro
              refine XK.skip ?_
              refine XK.seq ?_
              refine XK.block ?_
              refine XK.seq ?_
              refine XK.region rfl ?_
              refine XO.q (Q.move rfl) ?_
              refine XO.q (Q.assign rfl) ?_
              refine XO.done ?_
              refine XK.seq ?_
              refine XK.region rfl ?_
              refine XO.q (Q.fieldAddr rfl) ?_
              refine XO.q (Q.ld rfl rfl) ?_
              refine XO.q (Q.move rfl) ?_
              refine XO.ix rfl rfl (by omega) (by omega) fun i35 => ?_
              refine XO.q (Q.ldE rfl (by first | assumption | omega) rfl) ?_
              refine XO.q (Q.gtr rfl rfl) ?_
              refine XO.done ?_
              refine XK.if rfl (fun c5 => ?_) (fun c5 => ?_)
              · have _t5 := True.intro
                refine XK.region rfl ?_
                refine XO.q (Q.fieldAddr rfl) ?_
                refine XO.q (Q.ld rfl rfl) ?_
                refine XO.q (Q.move rfl) ?_
                refine XO.ix rfl rfl (by omega) (by omega) fun i41 => ?_
                refine XO.q (Q.ldE rfl (by first | assumption | omega) rfl) ?_
                refine XO.q (Q.move rfl) ?_
                refine XO.q (Q.andW rfl rfl) ?_
                refine XO.q (Q.addW rfl rfl) ?_
                refine XO.ix rfl rfl (by omega) (by omega) fun i46 => ?_
                refine XO.stE _ rfl rfl rfl (by assumption) rfl rfl fun h10_9 O10_9 => ?_
                refine XO.done ?_
                refine XK.inBlock ?_
                refine XK.region rfl ?_
                refine XO.q (Q.add rfl rfl ⟨by omega, by omega⟩) ?_
                refine XO.q (Q.move rfl) ?_
                refine XO.done ?_
                exact ih0 (i + 1, h10_9, _) _ _ ⟨by dsimp only; omega, by simp only [List.length_set]; exact hrk, O10_9⟩ (by first | omega | (dsimp only; omega)) (.c rfl (.base 41 rfl rfl)) inferInstance
              · have _t5 := True.intro
                refine XK.skip ?_
                refine XK.inBlock ?_
                refine XK.region rfl ?_
                refine XO.q (Q.add rfl rfl ⟨by omega, by omega⟩) ?_
                refine XO.q (Q.move rfl) ?_
                refine XO.done ?_
                exact ih0 (i + 1, hz, rk) _ _ ⟨by omega, hrk, OZ⟩ (by first | omega | (dsimp only; omega)) (.c rfl (.base 32 rfl rfl)) inferInstance
            · have _t4 := True.intro
              refine XK.exit rfl ?_
              exact mt1 (k1, ins, k2, ctl, hz, rk) _ _ ⟨OA1, OA2, OZ, rfl, h2, by dsimp only; omega⟩ (.base 30 rfl rfl) inferInstance
end Go.X

set_option linter.unusedSimpArgs false
set_option linter.unusedVariables false
set_option maxRecDepth 20000
namespace Go.X
open Go.Proofs
theorem certThree (x y z : RV) (hxi hxc hxr hyi hyc hyr hzi hzc hzr : PHeap) [px : Arr x.vi encB 1 hxi x.ins] [qx : Arr x.vc encI 1 hxc x.ctl] [rx : Arr x.vr encI 1 hxr x.rnk] [py : Arr y.vi encB 1 hyi y.ins] [qy : Arr y.vc encI 1 hyc y.ctl] [ry : Arr y.vr encI 1 hyr y.rnk] [pz : Arr z.vi encB 1 hzi z.ins] [qz : Arr z.vc encI 1 hzc z.ctl] [rz : Arr z.vr encI 1 hzr z.rnk] (i : Nat) (hi : i < 3) (h1 : (([x, y, z] : List RV).getD i default).ins.length ≤ 68719476736) (h2 : (([x, y, z] : List RV).getD i default).ctl.length ≤ 68719476736) (h3 : (([x, y, z] : List RV).getD i default).rnk.length ≤ 68719476736) :
    Spec Try.prog 52 #[.agg #[(([x, y, z] : List RV).getD i default).vi, (([x, y, z] : List RV).getD i default).vc, (([x, y, z] : List RV).getD i default).vr]] [] [hxi, hxc, hxr, hyi, hyc, hyr, hzi, hzc, hzr]
    (fun v hs => ∃ a1 a2 a3 b1 b2 b3 k1 k2 k3 m1 m2 m3, v = .tuple #[.agg #[a1, a2, a3], .agg #[b1, b2, b3]] ∧ hs = [k1, k2, k3, m1, m2, m3] ∧ OArr a1 encB 1 4 k1 (([x, y, z] : List RV).getD i default).ins ∧ OArr a2 encI 1 3 k2 (([x, y, z] : List RV).getD i default).ctl ∧ OArr a3 encI 1 3 k3 (([x, y, z] : List RV).getD i default).rnk ∧
      OArr b1 encB 1 4 m1 (([x, y, z] : List RV).getD i default).ins ∧ OArr b2 encI 1 3 m2 (([x, y, z] : List RV).getD i default).ctl ∧ OArr b3 encI 1 3 m3 (([x, y, z] : List RV).getD i default).rnk) := by
  match i, hi, h1, h2, h3 with
  | 0, _, h1, h2, h3 => exact (certified_spec x.vi x.vc x.vr hxi hxc hxr x.ins x.ctl x.rnk h1 h2 h3).more (fun h hh => by simp at hh; rcases hh with rfl | rfl | rfl <;> simp)
  | 1, _, h1, h2, h3 => exact (certified_spec y.vi y.vc y.vr hyi hyc hyr y.ins y.ctl y.rnk h1 h2 h3).more (fun h hh => by simp at hh; rcases hh with rfl | rfl | rfl <;> simp)
  | 2, _, h1, h2, h3 => exact (certified_spec z.vi z.vc z.vr hzi hzc hzr z.ins z.ctl z.rnk h1 h2 h3).more (fun h hh => by simp at hh; rcases hh with rfl | rfl | rfl <;> simp)
theorem solveG_lens (g : G) : (solveG g).1.length ≤ 400 ∧ (solveG g).2.1.length = (solveG g).1.length ∧ (solveG g).2.2.length = (solveG g).1.length := by
  by_cases h : gcheck g = 0
  · obtain ⟨S, C, K, hS, hC, hK, ok⟩ := gcheck_ok h
    obtain ⟨gS, gC, gK, next, good⟩ := g
    dsimp only at hS hC hK ok
    subst hS hC hK
    have e : solveG ⟨S, C, K, next, good⟩ = solved S C K next good := solveG_mk ok
    rw [e]
    obtain ⟨a, b, c, _⟩ := solved_right ok
    have := ok.s2
    omega
  · rw [solveG, if_pos h]; simp
set_option maxHeartbeats 4000000 in
set_option synthInstance.maxHeartbeats 400000 in
set_option synthInstance.maxSize 2000 in
theorem games_spec (g : G) (vn vg : Value) (hn hg : PHeap) [sn : Arr vn encI 1 hn g.next] [sg : Arr vg encB 1 hg g.good] (vi vc vr : Value) (hi hc hr : PHeap) (ins : List Bool) [si : Arr vi encB 1 hi ins] (ctl : List Int) [sc : Arr vc encI 1 hc ctl] (rnk : List Int) [sr : Arr vr encI 1 hr rnk] (state : Int) (vl : Value) (hl : PHeap) (l : List Int) [sl : Arr vl encI 1 hl l] (at' by' : Int) (hat : in64 at') (hby : in64 by')
    (hgn : g.next.length ≤ 68719476736) (hgg : g.good.length ≤ 68719476736) (hz1 : ins.length ≤ 68719476736) (hz2 : ctl.length ≤ 68719476736) (hz3 : rnk.length ≤ 68719476736) (hlb : l.length ≤ 4000000000) :
    Spec Try.prog 28 #[.agg #[.int .i64 g.S, .int .i64 g.C, .int .i64 g.K, vn, vg], .agg #[vi, vc, vr], .int .i64 state, vl, .int .i64 at', .int .i64 by'] [] [hn, hg, hi, hc, hr, hl] (fun v hs => v = .bool true ∧ hs = []) := by
  obtain ⟨sl1, sl2, sl3⟩ := solveG_lens g
  refine Spec.intro (fn := Try.f28) (N := 159) Try.func28 rfl Try.ntmps28 rfl fun B => ?_
  refine XK.seq ?_
  refine XK.region rfl ?_
  refine XO.box rfl fun b6 => ?_
  refine XO.box rfl fun b7 => ?_
  refine XO.q (Q.assign rfl) ?_
  refine XO.done ?_
  refine XK.seq ?_
  refine XK.region rfl ?_
  refine XO.q (Q.ldA [_, _, _, _, _] rfl rfl rfl) ?_
  refine XO.call Try.call12 rfl rfl rfl (copied g vn vg hn hg hgn hgg) fun v32 s32 R32 => ?_
  obtain ⟨a32, b32, c32, d32, ka32, kb32, kc32, kd32, rfl, rfl, OA32, OB32, OC32, OD32⟩ := R32
  dsimp only [List.cons_append, List.nil_append]
  refine XO.q (Q.move rfl) ?_
  refine XO.q (Q.extract rfl rfl) ?_
  refine XO.q (Q.extract rfl rfl) ?_
  refine XO.alloc fun b13 => ?_
  refine XO.alloc fun b14 => ?_
  refine XO.st rfl rfl rfl ?_
  refine XO.st rfl rfl rfl ?_
  refine XO.done ?_
  refine XK.seq ?_
  refine XK.seq ?_
  refine XK.drawn [0, 2, 4] [b13, b14] [] (.q 0 (.q 2 (.br 1 true (.br 3 true (.q 4 .done) .stop) .stop))) Try.mixed rfl (by kernel_rfl) ?_
  refine XT.q rfl rfl (Q.ldA [_, _, _, _, _] rfl rfl rfl) ?_
  refine XT.q rfl rfl (Q.ldA [_, _, _, _, _] rfl rfl rfl) ?_
  refine XT.call rfl rfl Try.call38 rfl rfl rfl (check g a32 b32 ka32 kb32) (fun v36 s36 R36 => ?_) XT.stop
  obtain ⟨rfl, rfl⟩ := R36
  dsimp only [List.cons_append, List.nil_append]
  refine ⟨inferInstance, ?_⟩
  refine XT.call rfl rfl Try.call41 rfl rfl rfl (refCheck g c32 d32 kc32 kd32) (fun v38 s38 R38 => ?_) XT.stop
  obtain ⟨rfl, rfl⟩ := R38
  dsimp only [List.cons_append, List.nil_append]
  refine ⟨inferInstance, ?_⟩
  refine XT.q rfl rfl (Q.neq rfl rfl) ?_
  refine XT.done ?_
  refine XK.if rfl (fun c0 => ?_) (fun c0 => ?_)
  · have _t0 := True.intro
    exact absurd rfl c0
  · have _t0 := True.intro
    refine XK.skip ?_
    refine XK.seq ?_
    refine XK.region rfl ?_
    refine XO.q (Q.ldA [_, _, _, _, _] rfl rfl rfl) ?_
    refine XO.call Try.call20 rfl rfl rfl (Solve_spec g a32 b32 ka32 kb32) fun v42 s42 R42 => ?_
    obtain ⟨p41, q41, r41, kp41, kq41, kr41, rfl, rfl, OP41, OQ41, OR41⟩ := R42
    dsimp only [List.cons_append, List.nil_append]
    refine XO.q (Q.move rfl) ?_
    refine XO.q (Q.extract rfl rfl) ?_
    refine XO.q (Q.extract rfl rfl) ?_
    refine XO.alloc fun b15 => ?_
    refine XO.st rfl rfl rfl ?_
    refine XO.q (Q.assign rfl) ?_
    refine XO.done ?_
    refine XK.seq ?_
    refine XK.region rfl ?_
    refine XO.q (Q.ldA [_, _, _, _, _] rfl rfl rfl) ?_
    refine XO.call Try.call49 rfl rfl rfl (refSolve g c32 d32 kc32 kd32) fun v47 s47 R47 => ?_
    obtain ⟨p47, q47, r47, kp47, kq47, kr47, rfl, rfl, OP47, OQ47, OR47⟩ := R47
    dsimp only [List.cons_append, List.nil_append]
    refine XO.q (Q.move rfl) ?_
    refine XO.q (Q.extract rfl rfl) ?_
    refine XO.q (Q.extract rfl rfl) ?_
    refine XO.alloc fun b17 => ?_
    refine XO.st rfl rfl rfl ?_
    refine XO.q (Q.assign rfl) ?_
    refine XO.done ?_
    refine XK.seq ?_
    refine XK.seq ?_
    refine XK.region rfl ?_
    refine XO.q (Q.ldA [_, _, _] rfl rfl rfl) ?_
    refine XO.q (Q.ldA [_, _, _] rfl rfl rfl) ?_
    refine XO.call Try.call50 rfl rfl rfl (same_spec p41 q41 r41 kp41 kq41 kr41 (solveG g).1 (solveG g).2.1 (solveG g).2.2 p47 q47 r47 kp47 kq47 kr47 (solveG g).1 (solveG g).2.1 (solveG g).2.2) fun v52 s52 R52 => ?_
    obtain ⟨rfl, rfl⟩ := R52
    dsimp only [List.cons_append, List.nil_append]
    refine XO.q (Q.not rfl) ?_
    refine XO.q (Q.move rfl) ?_
    refine XO.q (Quiet.guardF rfl rfl fun g55 p55 => Q.move rfl) ?_
    refine XO.q (Quiet.guardF rfl rfl fun g56 p56 => Q.move rfl) ?_
    refine XO.q (Quiet.guardF rfl rfl fun g57 p57 => Q.neq (lzv g57 rfl) (lzv g57 rfl)) ?_
    refine XO.q (Q.or rfl (fun hp => lzv hp rfl)) ?_
    refine XO.done ?_
    refine XK.if rfl (fun c1 => ?_) (fun c1 => ?_)
    · have _t1 := True.intro
      rw [sameR_self] at c1
      simp at c1
    · have _t1 := True.intro
      refine XK.skip ?_
      refine XK.seq ?_
      refine XK.seq ?_
      refine XK.drawn [0, 1, 2, 3, 4, 8, 7] [b7, b15] [] (.q 0 (.q 1 (.q 2 (.q 3 (.q 4 (.q 8 (.br 5 true (.br 6 true (.q 7 .done) .stop) .stop))))))) Try.mixed rfl (by kernel_rfl) ?_
      refine XT.q rfl rfl (Q.ldA [_, _, _] rfl rfl rfl) ?_
      refine XT.q rfl rfl (Q.ldA [_, _, _] rfl rfl rfl) ?_
      refine XT.q rfl rfl (Q.ldA [_, _, _] rfl rfl rfl) ?_
      refine XT.q rfl rfl (Q.move rfl) ?_
      refine XT.q rfl rfl (Q.move rfl) ?_
      refine XT.q rfl rfl (Q.move rfl) ?_
      refine XT.call rfl rfl Try.call51 rfl rfl rfl (changed_spec p41 q41 r41 kp41 kq41 kr41 (solveG g).1 (solveG g).2.1 (solveG g).2.2 (by omega) sl2 sl3 at' by' hat hby) (fun v64 s64 R64 => ?_) XT.stop
      obtain ⟨a1, a2, a3, k1, k2, k3, y1, y2, y3, rfl, rfl, OA1, OA2, OA3, e1, e2, e3⟩ := R64
      dsimp only [List.cons_append, List.nil_append]
      refine ⟨inferInstance, ?_⟩
      refine XT.lit [_, _, _, _, _, _, _, _, _] [_, _, _, _, _, _, _, _, _] [⟨ins, ctl, rnk, vi, vc, vr⟩, ⟨(solveG g).1, (solveG g).2.1, (solveG g).2.2, p41, q41, r41⟩, ⟨y1, y2, y3, a1, a2, a3⟩] encRV rfl rfl (by rfl) (by rfl) rfl (by rfl) (by exact .c 0 3 rfl rfl rfl (.c 3 3 rfl rfl rfl (.c 6 3 rfl rfl rfl (.n _)))) (fun _ => rfl) (by rfl) rfl (by infer_instance) rfl (fun v65 h65 O65 => ⟨inferInstance, ?_⟩) XT.stop
      refine XT.q rfl rfl (Q.len rfl) ?_
      refine XT.done ?_
      refine XK.block ?_
      refine XK.while (X := Nat) [12, 20, 21, 22, 23, 24, 25, 26, 27, 28, 29, 67, 68, 69, 70, 71, 72, 73, 74, 75, 76, 77, 78, 79, 80, 81, 82, 83, 84, 85, 86, 87, 88, 89, 90, 91, 92, 93, 94, 95, 96, 97, 98, 99, 100, 101, 102, 103, 104, 105, 106, 107, 108, 109, 110, 111, 112, 113, 114, 115, 116, 117, 118, 119, 120, 121, 122, 123, 124, 125, 126, 127, 128, 129, 130, 131, 132, 133, 134, 135, 136, 137, 138, 139, 140, 141, 142, 143, 144, 145, 146, 147, 148, 149, 150, 151, 152, 153, 154, 155] (fun i => [(67, some (.int .i64 (i : Nat)))]) (fun i => []) (fun i => i ≤ 3) (fun i => 3 - i) (0) [] rfl (by omega) (.c rfl (.base 0 rfl rfl)) ?_
      rintro i hii ih0
      dsimp only [List.cons_append, List.nil_append] at ih0 ⊢
      refine XK.seq ?_
      refine XK.region rfl ?_
      refine XO.q (Q.lss rfl rfl) ?_
      refine XO.done ?_
      refine XK.seq ?_
      refine XK.if rfl (fun c2 => ?_) (fun c2 => ?_)
      · have _t2 := True.intro
        have hi3 : i < 3 := by have h : ([⟨ins, ctl, rnk, vi, vc, vr⟩, ⟨(solveG g).1, (solveG g).2.1, (solveG g).2.2, p41, q41, r41⟩, ⟨y1, y2, y3, a1, a2, a3⟩] : List RV).length = 3 := rfl; omega
        have L1 : ((([⟨ins, ctl, rnk, vi, vc, vr⟩, ⟨(solveG g).1, (solveG g).2.1, (solveG g).2.2, p41, q41, r41⟩, ⟨y1, y2, y3, a1, a2, a3⟩] : List RV).getD i default).ins).length ≤ 68719476736 := by
          match i, hi3 with
          | 0, _ => exact (show ins.length ≤ 68719476736 by omega)
          | 1, _ => exact (show ((solveG g).1).length ≤ 68719476736 by omega)
          | 2, _ => exact (show y1.length ≤ 68719476736 by omega)
        have L2 : ((([⟨ins, ctl, rnk, vi, vc, vr⟩, ⟨(solveG g).1, (solveG g).2.1, (solveG g).2.2, p41, q41, r41⟩, ⟨y1, y2, y3, a1, a2, a3⟩] : List RV).getD i default).ctl).length ≤ 68719476736 := by
          match i, hi3 with
          | 0, _ => exact (show ctl.length ≤ 68719476736 by omega)
          | 1, _ => exact (show ((solveG g).2.1).length ≤ 68719476736 by omega)
          | 2, _ => exact (show y2.length ≤ 68719476736 by omega)
        have L3 : ((([⟨ins, ctl, rnk, vi, vc, vr⟩, ⟨(solveG g).1, (solveG g).2.1, (solveG g).2.2, p41, q41, r41⟩, ⟨y1, y2, y3, a1, a2, a3⟩] : List RV).getD i default).rnk).length ≤ 68719476736 := by
          match i, hi3 with
          | 0, _ => exact (show rnk.length ≤ 68719476736 by omega)
          | 1, _ => exact (show ((solveG g).2.2).length ≤ 68719476736 by omega)
          | 2, _ => exact (show y3.length ≤ 68719476736 by omega)
        refine XK.skip ?_
        refine XK.seq ?_
        refine XK.block ?_
        refine XK.seq ?_
        refine XK.region rfl ?_
        refine XO.ix rfl rfl (by omega) (by omega) fun i69 => ?_
        refine XO.q (Q.ldEA [_, _, _] rfl (by first | assumption | omega) rfl rfl) ?_
        refine XO.alloc fun b20 => ?_
        have I1 : One ((([⟨ins, ctl, rnk, vi, vc, vr⟩, ⟨(solveG g).1, (solveG g).2.1, (solveG g).2.2, p41, q41, r41⟩, ⟨y1, y2, y3, a1, a2, a3⟩] : List RV).getD i default).vi) := by
          match i, hi3 with
          | 0, _ => exact (inferInstance : One vi)
          | 1, _ => exact (inferInstance : One p41)
          | 2, _ => exact (inferInstance : One a1)
        have I2 : One ((([⟨ins, ctl, rnk, vi, vc, vr⟩, ⟨(solveG g).1, (solveG g).2.1, (solveG g).2.2, p41, q41, r41⟩, ⟨y1, y2, y3, a1, a2, a3⟩] : List RV).getD i default).vc) := by
          match i, hi3 with
          | 0, _ => exact (inferInstance : One vc)
          | 1, _ => exact (inferInstance : One q41)
          | 2, _ => exact (inferInstance : One a2)
        have I3 : One ((([⟨ins, ctl, rnk, vi, vc, vr⟩, ⟨(solveG g).1, (solveG g).2.1, (solveG g).2.2, p41, q41, r41⟩, ⟨y1, y2, y3, a1, a2, a3⟩] : List RV).getD i default).vr) := by
          match i, hi3 with
          | 0, _ => exact (inferInstance : One vr)
          | 1, _ => exact (inferInstance : One r41)
          | 2, _ => exact (inferInstance : One a3)
        refine XO.st rfl rfl rfl ?_
        refine XO.done ?_
        refine XK.seq ?_
        refine XK.region rfl ?_
        refine XO.q (Q.ldA [_, _, _] rfl rfl rfl) ?_
        refine XO.call Try.call52 rfl rfl rfl (certThree ⟨ins, ctl, rnk, vi, vc, vr⟩ ⟨(solveG g).1, (solveG g).2.1, (solveG g).2.2, p41, q41, r41⟩ ⟨y1, y2, y3, a1, a2, a3⟩ hi hc hr kp41 kq41 kr41 k1 k2 k3 i hi3 L1 L2 L3) fun v73 s73 R73 => ?_
        obtain ⟨a73, b73, c73, d73, e73, f73, ka73, kb73, kc73, kd73, ke73, kf73, rfl, rfl, O1, O2, O3, O4, O5, O6⟩ := R73
        dsimp only [List.cons_append, List.nil_append]
        obtain ⟨Is, eIs⟩ : ∃ Is, Is = (([⟨ins, ctl, rnk, vi, vc, vr⟩, ⟨(solveG g).1, (solveG g).2.1, (solveG g).2.2, p41, q41, r41⟩, ⟨y1, y2, y3, a1, a2, a3⟩] : List RV).getD i default).ins := ⟨_, rfl⟩
        obtain ⟨Cs, eCs⟩ : ∃ Cs, Cs = (([⟨ins, ctl, rnk, vi, vc, vr⟩, ⟨(solveG g).1, (solveG g).2.1, (solveG g).2.2, p41, q41, r41⟩, ⟨y1, y2, y3, a1, a2, a3⟩] : List RV).getD i default).ctl := ⟨_, rfl⟩
        obtain ⟨Rs, eRs⟩ : ∃ Rs, Rs = (([⟨ins, ctl, rnk, vi, vc, vr⟩, ⟨(solveG g).1, (solveG g).2.1, (solveG g).2.2, p41, q41, r41⟩, ⟨y1, y2, y3, a1, a2, a3⟩] : List RV).getD i default).rnk := ⟨_, rfl⟩
        rw [← eIs] at O1 O4
        rw [← eCs] at O2 O5
        rw [← eRs] at O3 O6
        refine XO.q (Q.move rfl) ?_
        refine XO.q (Q.extract rfl rfl) ?_
        refine XO.q (Q.extract rfl rfl) ?_
        refine XO.alloc fun b21 => ?_
        refine XO.alloc fun b22 => ?_
        refine XO.st rfl rfl rfl ?_
        refine XO.st rfl rfl rfl ?_
        refine XO.done ?_
        refine XK.seq ?_
        refine XK.seq ?_
        refine XK.drawn [0, 1, 3, 4, 6] [b13, b21, b14, b22] [] (.q 0 (.q 1 (.q 3 (.q 4 (.br 2 true (.br 5 true (.q 6 .done) .stop) .stop))))) Try.mixed rfl (by kernel_rfl) ?_
        refine XT.q rfl rfl (Q.ldA [_, _, _, _, _] rfl rfl rfl) ?_
        refine XT.q rfl rfl (Q.ldA [_, _, _] rfl rfl rfl) ?_
        refine XT.q rfl rfl (Q.ldA [_, _, _, _, _] rfl rfl rfl) ?_
        refine XT.q rfl rfl (Q.ldA [_, _, _] rfl rfl rfl) ?_
        refine XT.call rfl rfl Try.call21 rfl rfl rfl (Verify_spec g a32 b32 ka32 kb32 a73 b73 c73 ka73 kb73 kc73 Is Cs Rs) (fun v78 s78 R78 => ?_) XT.stop
        obtain ⟨rfl, rfl⟩ := R78
        dsimp only [List.cons_append, List.nil_append]
        refine ⟨inferInstance, ?_⟩
        refine XT.call rfl rfl Try.call53 rfl rfl rfl (refVerify g c32 d32 kc32 kd32 d73 e73 f73 kd73 ke73 kf73 Is Cs Rs) (fun v81 s81 R81 => ?_) XT.stop
        obtain ⟨rfl, rfl⟩ := R81
        dsimp only [List.cons_append, List.nil_append]
        refine ⟨inferInstance, ?_⟩
        refine XT.q rfl rfl (Q.neq rfl rfl) ?_
        refine XT.done ?_
        refine XK.if rfl (fun c3 => ?_) (fun c3 => ?_)
        · have _t3 := True.intro
          exact absurd rfl c3
        · have _t3 := True.intro
          refine XK.skip ?_
          refine XK.seq ?_
          refine XK.region rfl ?_
          refine XO.q (Q.move rfl) ?_
          refine XO.call Try.call25 rfl rfl rfl (cloneI vl hl l (by omega)) fun v84 s84 R84 => ?_
          obtain ⟨h84, rfl, O84⟩ := R84
          dsimp only [List.cons_append, List.nil_append]
          refine XO.q (Q.assign rfl) ?_
          refine XO.done ?_
          refine XK.seq ?_
          refine XK.region rfl ?_
          refine XO.q (Q.ldA [_, _, _, _, _] rfl rfl rfl) ?_
          refine XO.q (Q.ldA [_, _, _] rfl rfl rfl) ?_
          refine XO.q (Q.move rfl) ?_
          refine XO.q (Q.move rfl) ?_
          refine XO.call Try.call30 rfl rfl rfl (Play_spec g a32 b32 ka32 kb32 a73 b73 c73 ka73 kb73 kc73 Is Cs Rs state v84 h84 l) fun v90 s90 R90 => ?_
          obtain ⟨x90, k90, rfl, rfl, O90⟩ := R90
          dsimp only [List.cons_append, List.nil_append]
          refine XO.q (Q.move rfl) ?_
          refine XO.q (Q.extract rfl rfl) ?_
          refine XO.q (Q.extract rfl rfl) ?_
          refine XO.q (Q.assign rfl) ?_
          refine XO.q (Q.assign rfl) ?_
          refine XO.done ?_
          refine XK.seq ?_
          refine XK.region rfl ?_
          refine XO.q (Q.ldA [_, _, _, _, _] rfl rfl rfl) ?_
          refine XO.q (Q.ldA [_, _, _] rfl rfl rfl) ?_
          refine XO.q (Q.move rfl) ?_
          refine XO.q (Q.move rfl) ?_
          refine XO.call Try.call54 rfl rfl rfl (refPlay g c32 d32 kc32 kd32 d73 e73 f73 kd73 ke73 kf73 Is Cs Rs state vl hl l hlb) fun v98 s98 R98 => ?_
          obtain ⟨x98, k98, rfl, rfl, O98⟩ := R98
          dsimp only [List.cons_append, List.nil_append]
          refine XO.q (Q.move rfl) ?_
          refine XO.q (Q.extract rfl rfl) ?_
          refine XO.q (Q.extract rfl rfl) ?_
          refine XO.q (Q.assign rfl) ?_
          refine XO.q (Q.assign rfl) ?_
          refine XO.done ?_
          refine XK.seq ?_
          refine XK.seq ?_
          refine XK.region rfl ?_
          refine XO.q (Q.move rfl) ?_
          refine XO.q (Q.move rfl) ?_
          refine XO.call Try.call37 rfl rfl rfl (equalI x90 x98 k90 k98 (playG g Is Cs Rs state l).1 (playG g Is Cs Rs state l).1) fun v103 s103 R103 => ?_
          obtain ⟨rfl, rfl⟩ := R103
          dsimp only [List.cons_append, List.nil_append]
          refine XO.q (Q.not rfl) ?_
          refine XO.q (Q.move rfl) ?_
          refine XO.q (Quiet.guardF rfl rfl fun g106 p106 => Q.move rfl) ?_
          refine XO.q (Quiet.guardF rfl rfl fun g107 p107 => Q.move rfl) ?_
          refine XO.q (Quiet.guardF rfl rfl fun g108 p108 => Q.neq (lzv g108 rfl) (lzv g108 rfl)) ?_
          refine XO.q (Q.or rfl (fun hp => lzv hp rfl)) ?_
          refine XO.done ?_
          refine XK.if rfl (fun c4 => ?_) (fun c4 => ?_)
          · have _t4 := True.intro
            simp at c4
          · have _t4 := True.intro
            refine XK.skip ?_
            refine XK.seq ?_
            refine XK.region rfl ?_
            refine XO.q (Q.ldA [_, _, _, _, _] rfl rfl rfl) ?_
            refine XO.q (Q.ldA [_, _, _] rfl rfl rfl) ?_
            refine XO.q (Q.move rfl) ?_
            refine XO.q (Q.move rfl) ?_
            refine XO.call Try.call31 rfl rfl rfl (Force_spec g a32 b32 ka32 kb32 a73 b73 c73 ka73 kb73 kc73 Is Cs Rs state v84 h84 l hlb) fun v115 s115 R115 => ?_
            obtain ⟨x115, y115, k115, m115, rfl, rfl, O115, Q115⟩ := R115
            dsimp only [List.cons_append, List.nil_append]
            refine XO.q (Q.move rfl) ?_
            refine XO.q (Q.extract rfl rfl) ?_
            refine XO.q (Q.extract rfl rfl) ?_
            refine XO.q (Q.extract rfl rfl) ?_
            refine XO.q (Q.assign rfl) ?_
            refine XO.q (Q.assign rfl) ?_
            refine XO.q (Q.assign rfl) ?_
            refine XO.done ?_
            refine XK.seq ?_
            refine XK.region rfl ?_
            refine XO.q (Q.ldA [_, _, _, _, _] rfl rfl rfl) ?_
            refine XO.q (Q.ldA [_, _, _] rfl rfl rfl) ?_
            refine XO.q (Q.move rfl) ?_
            refine XO.q (Q.move rfl) ?_
            refine XO.call Try.call55 rfl rfl rfl (refForce g c32 d32 kc32 kd32 d73 e73 f73 kd73 ke73 kf73 Is Cs Rs state vl hl l hlb) fun v124 s124 R124 => ?_
            obtain ⟨x124, y124, k124, m124, rfl, rfl, O124, Q124⟩ := R124
            dsimp only [List.cons_append, List.nil_append]
            refine XO.q (Q.move rfl) ?_
            refine XO.q (Q.extract rfl rfl) ?_
            refine XO.q (Q.extract rfl rfl) ?_
            refine XO.q (Q.extract rfl rfl) ?_
            refine XO.q (Q.assign rfl) ?_
            refine XO.q (Q.assign rfl) ?_
            refine XO.q (Q.assign rfl) ?_
            refine XO.done ?_
            refine XK.seq ?_
            refine XK.region rfl ?_
            refine XO.q (Q.move rfl) ?_
            refine XO.q (Q.move rfl) ?_
            refine XO.call Try.call37 rfl rfl rfl (equalI x115 x124 k115 k124 (forceG g Is Cs Rs state l).1 (forceG g Is Cs Rs state l).1) fun v130 s130 R130 => ?_
            obtain ⟨rfl, rfl⟩ := R130
            dsimp only [List.cons_append, List.nil_append]
            refine XO.q (Q.not rfl) ?_
            refine XO.q (Q.move rfl) ?_
            refine XO.q (Quiet.guardF rfl rfl fun g133 p133 => Q.move rfl) ?_
            refine XO.q (Quiet.guardF rfl rfl fun g134 p134 => Q.move rfl) ?_
            refine XO.gcallF rfl rfl Try.call37 rfl (fun g135 => .c (lzv g135 rfl) (.c (lzv g135 rfl) .n)) rfl (fun g135 p135 => equalI y115 y124 m115 m124 (forceG g Is Cs Rs state l).2.1 (forceG g Is Cs Rs state l).2.1) ?_
            refine XO.q (Quiet.guardF rfl rfl fun g136 p136 => Q.not (lzv g136 rfl)) ?_
            refine XO.q (Q.or rfl (fun hp => lzv hp rfl)) ?_
            refine XO.q (Q.move rfl) ?_
            refine XO.q (Quiet.guardF rfl rfl fun g139 p139 => Q.move rfl) ?_
            refine XO.q (Quiet.guardF rfl rfl fun g140 p140 => Q.move rfl) ?_
            refine XO.q (Quiet.guardF rfl rfl fun g141 p141 => Q.neq (lzv g141 rfl) (lzv g141 rfl)) ?_
            refine XO.q (Q.or rfl (fun hp => lzv hp rfl)) ?_
            refine XO.q (Q.move rfl) ?_
            refine XO.q (Quiet.guardF rfl rfl fun g144 p144 => Q.move rfl) ?_
            refine XO.q (Quiet.guardF rfl rfl fun g145 p145 => Q.move rfl) ?_
            refine XO.gcallF rfl rfl Try.call37 rfl (fun g146 => .c (lzv g146 rfl) (.c (lzv g146 rfl) .n)) rfl (fun g146 p146 => equalI v84 vl h84 hl l l) ?_
            refine XO.q (Quiet.guardF rfl rfl fun g147 p147 => Q.not (lzv g147 rfl)) ?_
            refine XO.q (Q.or rfl (fun hp => lzv hp rfl)) ?_
            refine XO.q (Q.move rfl) ?_
            refine XO.q (Quiet.guardF rfl rfl fun g150 p150 => Q.ldA [_, _, _] rfl rfl rfl) ?_
            refine XO.q (Quiet.guardF rfl rfl fun g151 p151 => Q.ldA [_, _, _] rfl rfl rfl) ?_
            refine XO.gcallF rfl rfl Try.call50 rfl (fun g152 => .c (lzv g152 rfl) (.c (lzv g152 rfl) .n)) rfl (fun g152 p152 => same_spec a73 b73 c73 ka73 kb73 kc73 Is Cs Rs d73 e73 f73 kd73 ke73 kf73 Is Cs Rs) ?_
            refine XO.q (Quiet.guardF rfl rfl fun g153 p153 => Q.not (lzv g153 rfl)) ?_
            refine XO.q (Q.or rfl (fun hp => lzv hp rfl)) ?_
            refine XO.done ?_
            refine XK.if rfl (fun c5 => ?_) (fun c5 => ?_)
            · have _t5 := True.intro
              rw [sameR_self] at c5
              simp at c5
            · have _t5 := True.intro
              refine XK.skip ?_
              refine XK.inBlock ?_
              refine XK.region rfl ?_
              refine XO.q (Q.add rfl rfl ⟨by omega, by omega⟩) ?_
              refine XO.q (Q.move rfl) ?_
              refine XO.done ?_
              exact ih0 (i + 1) _ _ (by omega) (by first | omega | (dsimp only; omega)) (.c rfl (.base 204 rfl rfl)) inferInstance
      · have _t2 := True.intro
        refine XK.exit rfl ?_
        refine XK.seq ?_
        refine XK.region rfl ?_
        refine XO.q (Q.ldA [_, _, _, _, _] rfl rfl rfl) ?_
        refine XO.q (Q.ldA [_, _, _, _, _] rfl rfl rfl) ?_
        refine XO.call Try.call18 rfl rfl rfl (kept g g a32 b32 vn vg ka32 kb32 hn hg) fun v158 s158 R158 => ?_
        obtain ⟨rfl, rfl⟩ := R158
        dsimp only [List.cons_append, List.nil_append]
        refine XO.q (Q.assign rfl) ?_
        refine XO.done ?_
        refine XK.rt [] Try.func28 Try.results28 (.t rfl .n) ?_
        exact ⟨by rw [sameG_self], rfl⟩
theorem KeepGames_spec (g : G) (vn vg : Value) (hn hg : PHeap) [sn : Arr vn encI 1 hn g.next] [sg : Arr vg encB 1 hg g.good] (vi vc vr : Value) (hi hc hr : PHeap) (ins : List Bool) [si : Arr vi encB 1 hi ins] (ctl : List Int) [sc : Arr vc encI 1 hc ctl] (rnk : List Int) [sr : Arr vr encI 1 hr rnk] (state : Int) (vl : Value) (hl : PHeap) (l : List Int) [sl : Arr vl encI 1 hl l] (at' by' : Int) (hat : in64 at') (hby : in64 by') :
    Spec Try.prog 6 #[.agg #[.int .i64 g.S, .int .i64 g.C, .int .i64 g.K, vn, vg], .agg #[vi, vc, vr], .int .i64 state, vl, .int .i64 at', .int .i64 by'] [] [hn, hg, hi, hc, hr, hl] (fun v hs => v = .bool true ∧ hs = []) := by
  refine Spec.intro (fn := Try.f6) (N := 50) Try.func6 rfl Try.ntmps6 rfl fun B => ?_
  refine XK.seq ?_
  refine XK.region rfl ?_
  refine XO.box rfl fun b6 => ?_
  refine XO.box rfl fun b7 => ?_
  refine XO.q (Q.assign rfl) ?_
  refine XO.done ?_
  refine XK.seq ?_
  refine XK.region rfl ?_
  refine XO.q (Q.ldA [_, _, _, _, _] rfl rfl rfl) ?_
  refine XO.call Try.call10 rfl rfl rfl (large g vn vg hn hg) fun v14 s14 R14 => ?_
  obtain ⟨rfl, rfl⟩ := R14
  dsimp only [List.cons_append, List.nil_append]
  refine XO.q (Q.move rfl) ?_
  refine XO.q (Quiet.guardF rfl rfl fun g16 p16 => Q.fieldAddr rfl) ?_
  refine XO.q (Quiet.guardF rfl rfl fun g17 p17 => Q.ld (lzv g17 rfl) rfl) ?_
  refine XO.q (Quiet.guardF rfl rfl fun g18 p18 => Q.len (lzv g18 rfl)) ?_
  refine XO.q (Quiet.guardF rfl rfl fun g19 p19 => Q.gtr (lzv g19 rfl) rfl) ?_
  refine XO.q (Q.or rfl (fun hp => lzv hp rfl)) ?_
  refine XO.q (Q.move rfl) ?_
  refine XO.q (Quiet.guardF rfl rfl fun g22 p22 => Q.fieldAddr rfl) ?_
  refine XO.q (Quiet.guardF rfl rfl fun g23 p23 => Q.ld (lzv g23 rfl) rfl) ?_
  refine XO.q (Quiet.guardF rfl rfl fun g24 p24 => Q.len (lzv g24 rfl)) ?_
  refine XO.q (Quiet.guardF rfl rfl fun g25 p25 => Q.gtr (lzv g25 rfl) rfl) ?_
  refine XO.q (Q.or rfl (fun hp => lzv hp rfl)) ?_
  refine XO.q (Q.move rfl) ?_
  refine XO.q (Quiet.guardF rfl rfl fun g28 p28 => Q.fieldAddr rfl) ?_
  refine XO.q (Quiet.guardF rfl rfl fun g29 p29 => Q.ld (lzv g29 rfl) rfl) ?_
  refine XO.q (Quiet.guardF rfl rfl fun g30 p30 => Q.len (lzv g30 rfl)) ?_
  refine XO.q (Quiet.guardF rfl rfl fun g31 p31 => Q.gtr (lzv g31 rfl) rfl) ?_
  refine XO.q (Q.or rfl (fun hp => lzv hp rfl)) ?_
  refine XO.q (Q.move rfl) ?_
  refine XO.q (Quiet.guardF rfl rfl fun g34 p34 => Q.move rfl) ?_
  refine XO.q (Quiet.guardF rfl rfl fun g35 p35 => Q.len (lzv g35 rfl)) ?_
  refine XO.q (Quiet.guardF rfl rfl fun g36 p36 => Q.gtr (lzv g36 rfl) rfl) ?_
  refine XO.q (Q.or rfl (fun hp => lzv hp rfl)) ?_
  refine XO.q (Q.move rfl) ?_
  refine XO.q (Quiet.guardF rfl rfl fun g39 p39 => Q.ldA [_, _, _, _, _] rfl rfl rfl) ?_
  refine XO.q (Quiet.guardF rfl rfl fun g40 p40 => Q.ldA [_, _, _] rfl rfl rfl) ?_
  refine XO.q (Quiet.guardF rfl rfl fun g41 p41 => Q.move rfl) ?_
  refine XO.q (Quiet.guardF rfl rfl fun g42 p42 => Q.move rfl) ?_
  refine XO.q (Quiet.guardF rfl rfl fun g43 p43 => Q.move rfl) ?_
  refine XO.q (Quiet.guardF rfl rfl fun g44 p44 => Q.move rfl) ?_
  refine XO.gcallF rfl rfl Try.call28 rfl (fun g45 => .c (lzv g45 rfl) (.c (lzv g45 rfl) (.c (lzv g45 rfl) (.c (lzv g45 rfl) (.c (lzv g45 rfl) (.c (lzv g45 rfl) .n)))))) rfl (fun g45 p45 => games_spec g vn vg hn hg vi vc vr hi hc hr ins ctl rnk state vl hl l at' by' hat hby (by omega) (by omega) (by omega) (by omega) (by omega) (by omega)) ?_
  refine XO.q (Q.or rfl (fun hp => lzv hp rfl)) ?_
  refine XO.q (Q.move rfl) ?_
  refine XO.gcallT rfl rfl Try.call11 rfl (fun g48 => .n) rfl (fun g48 p48 => awake_spec) ?_
  refine XO.q (Q.and rfl (fun hp => lzv hp rfl)) ?_
  refine XO.q (Q.assign rfl) ?_
  refine XO.done ?_
  refine XK.rt [] Try.func6 Try.results6 (.t rfl .n) ?_
  exact ⟨by simp, rfl⟩
end Go.X
